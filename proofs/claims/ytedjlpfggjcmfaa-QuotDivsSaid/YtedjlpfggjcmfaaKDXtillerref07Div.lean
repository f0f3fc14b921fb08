import Derived.Test.YtedjlpfggjcmfaaKD4
import Derived.Test.YtedjlpfggjcmfaaKDXtillerref02Parts
import Derived.Test.YtedjlpfggjcmfaaKDXtillerref04Round
namespace Go.Proofs.Ytedjlpfggjcmfaa.X
open Go.RowKit Go.Proofs.YtedjlpfggjcmfaaW.PrintWords Go.Proofs.YtedjlpfggjcmfaaW.PrintLast Go.Proofs.YtedjlpfggjcmfaaW.PrintMore
attribute [local go_sem] max2_int min2_int max_two min_two max_three min_three max_four min_four   
set_option linter.unusedVariables false
set_option linter.unusedSimpArgs false
mutual
def r7_Div.j0 : Nat → Int → Int → Int → Bool → Bool → Bool → Int → Int → Int → Bool → Int → Int → Int → Option (Int × Int)
 | 0, _, _, _, _, _, _, _, _, _, _, _, _, _ => none
 | k + 1, x0, x1, x2, x10, x28, x335000, x335001, x335002, x335003, x336000, x336001, x336002, x336003 => if x28 = true then ((r5_None.f x0 x1).bind fun t338 => (some (9221120237041090560, t338))) else (if x335001 = 3 then (if x336001 = 3 then (r7_Div.j1 k x2 x10 true x335000 x335001 x335002 x335003 x336000 x336001 x336002 x336003) else (if x335001 = 0 then (r7_Div.j1 k x2 x10 (x336001 == 0) x335000 x335001 x335002 x335003 x336000 x336001 x336002 x336003) else (r7_Div.j1 k x2 x10 false x335000 x335001 x335002 x335003 x336000 x336001 x336002 x336003))) else (if x335001 = 0 then (r7_Div.j1 k x2 x10 (x336001 == 0) x335000 x335001 x335002 x335003 x336000 x336001 x336002 x336003) else (r7_Div.j1 k x2 x10 false x335000 x335001 x335002 x335003 x336000 x336001 x336002 x336003)))
def r7_Div.j1 : Nat → Int → Bool → Bool → Bool → Int → Int → Int → Bool → Int → Int → Int → Option (Int × Int)
 | 0, _, _, _, _, _, _, _, _, _, _, _ => none
 | k + 1, x2, x10, x49, x335000, x335001, x335002, x335003, x336000, x336001, x336002, x336003 => if x49 = true then (some (9221120237041090560, 1)) else (if x335001 = 3 then ((r7_signed.f 9218868437227405312 x10).bind fun t339 => (some (t339, 0))) else (if x336001 = 3 then (r7_Div.j2 k x2 x10 true x335000 x335001 x335002 x335003 x336000 x336001 x336002 x336003) else (r7_Div.j2 k x2 x10 (x335001 == 0) x335000 x335001 x335002 x335003 x336000 x336001 x336002 x336003)))
def r7_Div.j2 : Nat → Int → Bool → Bool → Bool → Int → Int → Int → Bool → Int → Int → Int → Option (Int × Int)
 | 0, _, _, _, _, _, _, _, _, _, _, _ => none
 | k + 1, x2, x10, x62, x335000, x335001, x335002, x335003, x336000, x336001, x336002, x336003 => if x62 = true then ((r7_signed.f 0 x10).bind fun t340 => (some (t340, 0))) else (if x336001 = 0 then ((r7_signed.f 9218868437227405312 x10).bind fun t341 => (some (t341, 2))) else ((r2_Of.f k x335003).bind fun t342 => ((r2_Shl.f k t342 120).bind fun t345 => ((r2_Of.f k x336003).bind fun t348 => ((r2_Parts.f k t345 t348).bind fun bt351 => ((r2_Shl.f k bt351.1 1).bind fun t357 => (if (bt351.2.length : Int) > 0 then ((r2_Of.f k 1).bind fun t361 => ((r2_Add.f k t357 t361).bind fun t364 => ((r4_Round.f k x10 (wrap64 ((wrap64 (x335002 - x336002)) - 121)) t364 x2).bind fun bt367 => (some (bt367.1, bt367.2))))) else ((r4_Round.f k x10 (wrap64 ((wrap64 (x335002 - x336002)) - 121)) t357 x2).bind fun bt369 => (some (bt369.1, bt369.2))))))))))
end
def r7_Div.f (k : Nat) (a0 : Int) (a1 : Int) (a2 : Int) : Option (Int × Int) := (r3_Take.f a0).bind fun bt326 => ((r3_Take.f a1).bind fun bt330 => ((r3_NaN.f a0).bind fun t336 => (if t336 = true then (r7_Div.j0 k a0 a1 a2 (bt326.1 != bt330.1) true bt326.1 bt326.2.1 bt326.2.2.1 bt326.2.2.2 bt330.1 bt330.2.1 bt330.2.2.1 bt330.2.2.2) else ((r3_NaN.f a1).bind fun t337 => (r7_Div.j0 k a0 a1 a2 (bt326.1 != bt330.1) t337 bt326.1 bt326.2.1 bt326.2.2.1 bt326.2.2.2 bt330.1 bt330.2.1 bt330.2.2.1 bt330.2.2.2)))))
theorem r7_Div.mono_l : ∀ k, (∀ y0 y1 y2 y3 y4 y5 y6 y7 y8 y9 y10 y11 y12, LeO (r7_Div.j0 k y0 y1 y2 y3 y4 y5 y6 y7 y8 y9 y10 y11 y12) (r7_Div.j0 (k + 1) y0 y1 y2 y3 y4 y5 y6 y7 y8 y9 y10 y11 y12)) ∧ (∀ y0 y1 y2 y3 y4 y5 y6 y7 y8 y9 y10, LeO (r7_Div.j1 k y0 y1 y2 y3 y4 y5 y6 y7 y8 y9 y10) (r7_Div.j1 (k + 1) y0 y1 y2 y3 y4 y5 y6 y7 y8 y9 y10)) ∧ (∀ y0 y1 y2 y3 y4 y5 y6 y7 y8 y9 y10, LeO (r7_Div.j2 k y0 y1 y2 y3 y4 y5 y6 y7 y8 y9 y10) (r7_Div.j2 (k + 1) y0 y1 y2 y3 y4 y5 y6 y7 y8 y9 y10))
 | 0 => ⟨fun _ _ _ _ _ _ _ _ _ _ _ _ _ r h => by simp [r7_Div.j0] at h, fun _ _ _ _ _ _ _ _ _ _ _ r h => by simp [r7_Div.j1] at h, fun _ _ _ _ _ _ _ _ _ _ _ r h => by simp [r7_Div.j2] at h⟩
 | k + 1 => by
  obtain ⟨ih0, ih1, ih2⟩ := r7_Div.mono_l k; refine ⟨?_, ?_, ?_⟩
  · intro y0 y1 y2 y3 y4 y5 y6 y7 y8 y9 y10 y11 y12
    unfold r7_Div.j0
    repeat' first
    | (with_reducible exact ih0 _ _ _ _ _ _ _ _ _ _ _ _ _)
    | (with_reducible exact ih1 _ _ _ _ _ _ _ _ _ _ _)
    | (with_reducible exact ih2 _ _ _ _ _ _ _ _ _ _ _)
    | (with_reducible exact r2_Add.mono _ _ _)
    | (with_reducible exact r2_Of.mono _ _)
    | (with_reducible exact r2_Parts.mono _ _ _)
    | (with_reducible exact r2_Shl.mono _ _ _)
    | (with_reducible exact r4_Round.mono _ _ _ _ _)
    | (with_reducible exact LeO.refl _)
    | (with_reducible exact LeO.none _)
    | (with_reducible refine LeO.ite ?_ ?_)
    | (with_reducible refine LeO.bind ?_ (fun _ => ?_))
    | exact ih0 _ _ _ _ _ _ _ _ _ _ _ _ _
    | exact ih1 _ _ _ _ _ _ _ _ _ _ _
    | exact ih2 _ _ _ _ _ _ _ _ _ _ _
    | exact r2_Add.mono _ _ _
    | exact r2_Of.mono _ _
    | exact r2_Parts.mono _ _ _
    | exact r2_Shl.mono _ _ _
    | exact r4_Round.mono _ _ _ _ _
    | exact LeO.none _
    | refine LeO.ite ?_ ?_
    | refine LeO.bind ?_ (fun _ => ?_)
  · intro y0 y1 y2 y3 y4 y5 y6 y7 y8 y9 y10
    unfold r7_Div.j1
    repeat' first
    | (with_reducible exact ih0 _ _ _ _ _ _ _ _ _ _ _ _ _)
    | (with_reducible exact ih1 _ _ _ _ _ _ _ _ _ _ _)
    | (with_reducible exact ih2 _ _ _ _ _ _ _ _ _ _ _)
    | (with_reducible exact r2_Add.mono _ _ _)
    | (with_reducible exact r2_Of.mono _ _)
    | (with_reducible exact r2_Parts.mono _ _ _)
    | (with_reducible exact r2_Shl.mono _ _ _)
    | (with_reducible exact r4_Round.mono _ _ _ _ _)
    | (with_reducible exact LeO.refl _)
    | (with_reducible exact LeO.none _)
    | (with_reducible refine LeO.ite ?_ ?_)
    | (with_reducible refine LeO.bind ?_ (fun _ => ?_))
    | exact ih0 _ _ _ _ _ _ _ _ _ _ _ _ _
    | exact ih1 _ _ _ _ _ _ _ _ _ _ _
    | exact ih2 _ _ _ _ _ _ _ _ _ _ _
    | exact r2_Add.mono _ _ _
    | exact r2_Of.mono _ _
    | exact r2_Parts.mono _ _ _
    | exact r2_Shl.mono _ _ _
    | exact r4_Round.mono _ _ _ _ _
    | exact LeO.none _
    | refine LeO.ite ?_ ?_
    | refine LeO.bind ?_ (fun _ => ?_)
  intro y0 y1 y2 y3 y4 y5 y6 y7 y8 y9 y10
  unfold r7_Div.j2
  repeat' first
  | (with_reducible exact ih0 _ _ _ _ _ _ _ _ _ _ _ _ _)
  | (with_reducible exact ih1 _ _ _ _ _ _ _ _ _ _ _)
  | (with_reducible exact ih2 _ _ _ _ _ _ _ _ _ _ _)
  | (with_reducible exact r2_Add.mono _ _ _)
  | (with_reducible exact r2_Of.mono _ _)
  | (with_reducible exact r2_Parts.mono _ _ _)
  | (with_reducible exact r2_Shl.mono _ _ _)
  | (with_reducible exact r4_Round.mono _ _ _ _ _)
  | (with_reducible exact LeO.refl _)
  | (with_reducible exact LeO.none _)
  | (with_reducible refine LeO.ite ?_ ?_)
  | (with_reducible refine LeO.bind ?_ (fun _ => ?_))
  | exact ih0 _ _ _ _ _ _ _ _ _ _ _ _ _
  | exact ih1 _ _ _ _ _ _ _ _ _ _ _
  | exact ih2 _ _ _ _ _ _ _ _ _ _ _
  | exact r2_Add.mono _ _ _
  | exact r2_Of.mono _ _
  | exact r2_Parts.mono _ _ _
  | exact r2_Shl.mono _ _ _
  | exact r4_Round.mono _ _ _ _ _
  | exact LeO.none _
  | refine LeO.ite ?_ ?_
  | refine LeO.bind ?_ (fun _ => ?_)
theorem r7_Div.mono : ∀ a0 a1 a2 k, LeO (r7_Div.f k a0 a1 a2) (r7_Div.f (k + 1) a0 a1 a2) := by
 intro a0 a1 a2 k; obtain ⟨ih0, ih1, ih2⟩ := r7_Div.mono_l k
 unfold r7_Div.f
 repeat' first
  | (with_reducible exact ih0 _ _ _ _ _ _ _ _ _ _ _ _ _)
  | (with_reducible exact ih1 _ _ _ _ _ _ _ _ _ _ _)
  | (with_reducible exact ih2 _ _ _ _ _ _ _ _ _ _ _)
  | (with_reducible exact r2_Add.mono _ _ _)
  | (with_reducible exact r2_Of.mono _ _)
  | (with_reducible exact r2_Parts.mono _ _ _)
  | (with_reducible exact r2_Shl.mono _ _ _)
  | (with_reducible exact r4_Round.mono _ _ _ _ _)
  | (with_reducible exact LeO.refl _)
  | (with_reducible exact LeO.none _)
  | (with_reducible refine LeO.ite ?_ ?_)
  | (with_reducible refine LeO.bind ?_ (fun _ => ?_))
  | exact ih0 _ _ _ _ _ _ _ _ _ _ _ _ _
  | exact ih1 _ _ _ _ _ _ _ _ _ _ _
  | exact ih2 _ _ _ _ _ _ _ _ _ _ _
  | exact r2_Add.mono _ _ _
  | exact r2_Of.mono _ _
  | exact r2_Parts.mono _ _ _
  | exact r2_Shl.mono _ _ _
  | exact r4_Round.mono _ _ _ _ _
  | exact LeO.none _
  | refine LeO.ite ?_ ?_
  | refine LeO.bind ?_ (fun _ => ?_)
def r7_Div.T13 : Bool × List (List Nat × List Nat) := (true, [([], []), ([0], [0]), ([1], [1]), ([2, 2], [2]), ([], []), ([4], [4]), ([5, 3], [5]), ([3, 6, 6], [3, 6]), ([7], [7]), ([8], [8]), ([8], [8]), ([9, 7, 0, 1, 2, 3, 4, 5, 6, 7, 8, 9], [9]), ([10, 11, 0, 1, 2, 3, 4, 5, 6, 7, 8, 9, 10, 11], [10])])
def r7_Div.B13 : List Nat := [0, 1, 3, 7, 0, 16, 63, 127, 255, 511, 511, 1023, 4095]
theorem r7_Div.tab13 : rtab .any (opsOf Try.f9 13) = r7_Div.T13 := by kernel_rfl
theorem r7_Div.bits13 : waitsOk r7_Div.T13.2 r7_Div.B13 = true := by kernel_rfl
def r7_Div.T14 : Bool × List (List Nat × List Nat) := (true, [([], []), ([], []), ([1], [1]), ([], []), ([3], [3]), ([2, 4], [2, 4]), ([5], [5]), ([], []), ([7], [7]), ([0, 6, 8], [0, 6, 8]), ([], []), ([10, 9, 8, 0, 1, 2, 3, 4, 5, 6, 7, 8, 9, 10], [9, 10])])
def r7_Div.B14 : List Nat := [0, 0, 2, 0, 8, 30, 62, 0, 128, 511, 0, 2047]
theorem r7_Div.tab14 : rtab .any (opsOf Try.f9 14) = r7_Div.T14 := by kernel_rfl
theorem r7_Div.bits14 : waitsOk r7_Div.T14.2 r7_Div.B14 = true := by kernel_rfl
set_option maxHeartbeats 8000000 in
set_option maxRecDepth 100000 in
theorem r7_Div.calls (k : Nat) (a0 : Int) (a1 : Int) (a2 : Int) (r1 : Int) (r2 : Int) (w : World) (h : r7_Div.f k a0 a1 a2 = some (r1, r2)) :
 Calls Try.prog 9 #[.int .u64 a0, .int .u64 a1, .int .i64 a2] w fun e w' => e = .returned (.tuple #[.int .u64 r1, .int .i64 r2]) ∧ Below w.heap.size w w' := by
 have hu51 := Try.underlying51; have hu62 := Try.underlying62; have HB := Aside0.mk (Below.refl w.heap.size w); have H : ((r3_Take.f a0).bind fun bt326 => ((r3_Take.f a1).bind fun bt330 => ((r3_NaN.f a0).bind fun t336 => (if t336 = true then (r7_Div.j0 k a0 a1 a2 (bt326.1 != bt330.1) true bt326.1 bt326.2.1 bt326.2.2.1 bt326.2.2.2 bt330.1 bt330.2.1 bt330.2.2.1 bt330.2.2.2) else ((r3_NaN.f a1).bind fun t337 => (r7_Div.j0 k a0 a1 a2 (bt326.1 != bt330.1) t337 bt326.1 bt326.2.1 bt326.2.2.1 bt326.2.2.2 bt330.1 bt330.2.1 bt330.2.2.1 bt330.2.2.2)))))) = some (r1, r2) := h; clear h; replace H := Option.bind_eq_some_iff.mp H; obtain ⟨⟨t326, t327, t328, t329⟩, A40, H⟩ := H; replace H : ((r3_Take.f a1).bind fun bt330 => ((r3_NaN.f a0).bind fun t336 => (if t336 = true then (r7_Div.j0 k a0 a1 a2 (t326 != bt330.1) true t326 t327 t328 t329 bt330.1 bt330.2.1 bt330.2.2.1 bt330.2.2.2) else ((r3_NaN.f a1).bind fun t337 => (r7_Div.j0 k a0 a1 a2 (t326 != bt330.1) t337 t326 t327 t328 t329 bt330.1 bt330.2.1 bt330.2.2.1 bt330.2.2.2))))) = some (r1, r2) := H; have A4 := Aside0.mk A40; clear A40; replace H := Option.bind_eq_some_iff.mp H; obtain ⟨⟨t330, t331, t332, t333⟩, A50, H⟩ := H; replace H : ((r3_NaN.f a0).bind fun t336 => (if t336 = true then (r7_Div.j0 k a0 a1 a2 (t326 != t330) true t326 t327 t328 t329 t330 t331 t332 t333) else ((r3_NaN.f a1).bind fun t337 => (r7_Div.j0 k a0 a1 a2 (t326 != t330) t337 t326 t327 t328 t329 t330 t331 t332 t333)))) = some (r1, r2) := H; have A5 := Aside0.mk A50; clear A50; have HC6 := Aside0.mk H; clear H
 go_enter Try.func9, Try.ntmps9
 go_upto_region 3 with (first | ((with_reducible refine gate_callee (f := 21) rfl ?_); refine goesL_ (some 15) rfl rfl Try.func21 (by kernel_rfl) rfl #[.int .u64 a0] rfl LMq ?_; (with_reducible refine (r3_Take.calls a0 t326 t327 t328 t329 _ A4.out).mono ?_); rintro e w7 ⟨rfl, hb⟩; refine ⟨_, rfl, ?_⟩; replace HB := Aside0.mk (below_step (kH HB) hb); (try clear hb); (try clear hb2); (try clear hk); (try clear hi)) | ((with_reducible refine gate_callee (f := 21) rfl ?_); refine goesL_ (some 17) rfl rfl Try.func21 (by kernel_rfl) rfl #[.int .u64 a1] rfl LMq ?_; (with_reducible refine (r3_Take.calls a1 t330 t331 t332 t333 _ A5.out).mono ?_); rintro e w8 ⟨rfl, hb⟩; refine ⟨_, rfl, ?_⟩; replace HB := Aside0.mk (below_step (kH HB) hb); (try clear hb); (try clear hb2); (try clear hk); (try clear hi)) | ((with_reducible refine gate_dst (N := 8) rfl ?_); refine box_event ?hg (N := 8) ?hd (cs := #[.bool false, .int .i64 0, .int .i64 0, .int .u64 0]) (t := 51) ?hr ?_; (case hd => rfl); (case hg => rfl); (case hr => first | (go_simp; done) | (go_simp; rfl)); intro gb334 hg w9 hbox hb; have BK334 := Aside0.mk (hbox); have GW334 := Aside0.mk ((by rw [hg]; exact (below_size (kH HB)) : w.heap.size ≤ gb334)); have GE334 := Aside0.mk ((by rw [hg]; exact (below_size (kH HB)) : w.heap.size ≤ gb334)); replace HB := Aside0.mk (below_step (kH HB) hb); clear hb hbox hg) | ((with_reducible refine gate_dst (N := 9) rfl ?_); refine box_event ?hg (N := 9) ?hd (cs := #[.bool false, .int .i64 0, .int .i64 0, .int .u64 0]) (t := 51) ?hr ?_; (case hd => rfl); (case hg => rfl); (case hr => first | (go_simp; done) | (go_simp; rfl)); intro gb335 hg w10 hbox hb; have BK335 := Aside0.mk (hbox); have GW335 := Aside0.mk ((by rw [hg]; exact (below_size (kHs HB GE334)) : w.heap.size ≤ gb335)); have GE335 := Aside0.mk ((by rw [hg]; exact (below_size (kHs HB GE334)) : w.heap.size ≤ gb335)); replace HB := Aside0.mk (below_step (kHs HB GE334) hb); have NB334_335 := Aside0.mk ((by rw [hg]; exact Nat.ne_of_lt (blk_lt (g := gb334) (o := .cells #[.bool false, .int .i64 0, .int .i64 0, .int .u64 0] 51 (0, 0)) (kB BK334)) : gb334 ≠ gb335)); have NB335_334 := Aside0.mk ((by rw [hg]; exact Nat.ne_of_gt (blk_lt (g := gb334) (o := .cells #[.bool false, .int .i64 0, .int .i64 0, .int .u64 0] 51 (0, 0)) (kB BK334)) : gb335 ≠ gb334)); replace BK334 := Aside0.mk (blk_below (g := gb334) (o := .cells #[.bool false, .int .i64 0, .int .i64 0, .int .u64 0] 51 (0, 0)) (kB BK334) hb); clear hb hbox hg; have hnb11 := NB334_335.out; have hnc11 := NB335_334.out; have hcz12_0 : w10.cell? ⟨gb334, 0, none⟩ = some (.bool false) := bc BK334 0; have hcz12_1 : w10.cell? ⟨gb334, 1, none⟩ = some (.int .i64 0) := bc BK334 1; have hcz12_2 : w10.cell? ⟨gb334, 2, none⟩ = some (.int .i64 0) := bc BK334 2; have hcz12_3 : w10.cell? ⟨gb334, 3, none⟩ = some (.int .u64 0) := bc BK334 3; have hfz12_0 := blk_frozen BK334.out 0; have hfz12_1 := blk_frozen BK334.out 1; have hfz12_2 := blk_frozen BK334.out 2; have hfz12_3 := blk_frozen BK334.out 3; have hcz13_0 : w10.cell? ⟨gb335, 0, none⟩ = some (.bool false) := bc BK335 0; have hcz13_1 : w10.cell? ⟨gb335, 1, none⟩ = some (.int .i64 0) := bc BK335 1; have hcz13_2 : w10.cell? ⟨gb335, 2, none⟩ = some (.int .i64 0) := bc BK335 2; have hcz13_3 : w10.cell? ⟨gb335, 3, none⟩ = some (.int .u64 0) := bc BK335 3; have hfz13_0 := blk_frozen BK335.out 0; have hfz13_1 := blk_frozen BK335.out 1; have hfz13_2 := blk_frozen BK335.out 2; have hfz13_3 := blk_frozen BK335.out 3))
 (try simp only [Act.put, List.setIfInBounds_toArray, List.set_cons_zero, List.set_cons_succ])
 go_cut [28] (fun v28 wc => ∃ (kq : Nat) (x28_5 : Bool), v28 = .bool x28_5 ∧ Aside0 (r7_Div.j0 kq a0 a1 a2 (t326 != t330) x28_5 t326 t327 t328 t329 t330 t331 t332 t333 = some (r1, r2)) ∧ Aside0 (kq ≤ k) ∧ Aside0 (wc.heap[gb334]? = some (.cells #[.bool t326, .int .i64 t327, .int .i64 t328, .int .u64 t329] 51 (0, 0))) ∧ Aside0 (wc.heap[gb335]? = some (.cells #[.bool t330, .int .i64 t331, .int .i64 t332, .int .u64 t333] 51 (0, 0))) ∧ Aside0 (Below w.heap.size w wc))
 case first =>
  have H := HC6.out; clear HC6; replace H := Option.bind_eq_some_iff.mp H; obtain ⟨t336, A140, H⟩ := H; replace H : (if t336 = true then (r7_Div.j0 k a0 a1 a2 (t326 != t330) true t326 t327 t328 t329 t330 t331 t332 t333) else ((r3_NaN.f a1).bind fun t337 => (r7_Div.j0 k a0 a1 a2 (t326 != t330) t337 t326 t327 t328 t329 t330 t331 t332 t333))) = some (r1, r2) := H; have A14 := Aside0.mk A140; clear A140
  by_cases c15 : t336 = true
  · subst c15
    have H1 : (r7_Div.j0 k a0 a1 a2 (t326 != t330) true t326 t327 t328 t329 t330 t331 t332 t333) = some (r1, r2) := by rw [if_pos rfl] at H; exact H
    clear H; have H := H1; clear H1; have H' := Aside0.mk H; clear H
    go_wp2_with (first | ((with_reducible refine gate_callee (f := 22) rfl ?_); refine goesL_ (some 24) rfl rfl Try.func22 (by kernel_rfl) rfl #[.int .u64 a0] rfl LMq ?_; (with_reducible refine (r3_NaN.calls a0 true _ A14.out).mono ?_); rintro e w16 ⟨rfl, hb⟩; refine ⟨_, rfl, ?_⟩; replace BK334 := Aside0.mk (blk_below (g := gb334) (o := .cells #[.bool t326, .int .i64 t327, .int .i64 t328, .int .u64 t329] 51 (0, 0)) (by (with_reducible repeat (first | refine blk_drewN ?_ _ | refine blk_drew ?_ | refine blk_alloc ?_ _)); refine blk_far ?_ NB334_335.out _; refine blk_far ?_ NB334_335.out _; refine blk_far ?_ NB334_335.out _; refine blk_far ?_ NB334_335.out _; refine blk_put (cs := #[.bool t326, .int .i64 t327, .int .i64 t328, .int .u64 0]) ?_ 3 _ rfl; refine blk_put (cs := #[.bool t326, .int .i64 t327, .int .i64 0, .int .u64 0]) ?_ 2 _ rfl; refine blk_put (cs := #[.bool t326, .int .i64 0, .int .i64 0, .int .u64 0]) ?_ 1 _ rfl; refine blk_put (cs := #[.bool false, .int .i64 0, .int .i64 0, .int .u64 0]) ?_ 0 _ rfl; (with_reducible repeat (first | refine blk_drewN ?_ _ | refine blk_drew ?_ | refine blk_alloc ?_ _)); exact BK334.out) hb); replace BK335 := Aside0.mk (blk_below (g := gb335) (o := .cells #[.bool t330, .int .i64 t331, .int .i64 t332, .int .u64 t333] 51 (0, 0)) (by (with_reducible repeat (first | refine blk_drewN ?_ _ | refine blk_drew ?_ | refine blk_alloc ?_ _)); refine blk_put (cs := #[.bool t330, .int .i64 t331, .int .i64 t332, .int .u64 0]) ?_ 3 _ rfl; refine blk_put (cs := #[.bool t330, .int .i64 t331, .int .i64 0, .int .u64 0]) ?_ 2 _ rfl; refine blk_put (cs := #[.bool t330, .int .i64 0, .int .i64 0, .int .u64 0]) ?_ 1 _ rfl; refine blk_put (cs := #[.bool false, .int .i64 0, .int .i64 0, .int .u64 0]) ?_ 0 _ rfl; refine blk_far ?_ NB335_334.out _; refine blk_far ?_ NB335_334.out _; refine blk_far ?_ NB335_334.out _; refine blk_far ?_ NB335_334.out _; (with_reducible repeat (first | refine blk_drewN ?_ _ | refine blk_drew ?_ | refine blk_alloc ?_ _)); exact BK335.out) hb); replace HB := Aside0.mk (below_step (kHt HB GE334 GE335) hb); (try clear hb); (try clear hb2); (try clear hk); (try clear hi)))
    go_meet
    case rel => exact ⟨_, (true), RSq, (by first | exact H' | (subst_vars; exact H')), ⟨by first | omega | exact Nat.le_refl _⟩, ⟨kB BK334⟩, ⟨kB BK335⟩, ⟨kHt HB GE334 GE335⟩⟩
  replace c15 := Bool.eq_false_iff.mpr c15; subst c15
  have H1 : ((r3_NaN.f a1).bind fun t337 => (r7_Div.j0 k a0 a1 a2 (t326 != t330) t337 t326 t327 t328 t329 t330 t331 t332 t333)) = some (r1, r2) := by rw [if_neg (show ¬ (false = true) by decide)] at H; exact H
  clear H; have H := H1; clear H1; replace H := Option.bind_eq_some_iff.mp H; obtain ⟨t337, A170, H⟩ := H; replace H : (r7_Div.j0 k a0 a1 a2 (t326 != t330) t337 t326 t327 t328 t329 t330 t331 t332 t333) = some (r1, r2) := H; have A17 := Aside0.mk A170; clear A170; have H' := Aside0.mk H; clear H
  go_wp2_with (first | ((with_reducible refine gate_callee (f := 22) rfl ?_); refine goesL_ (some 24) rfl rfl Try.func22 (by kernel_rfl) rfl #[.int .u64 a0] rfl LMq ?_; (with_reducible refine (r3_NaN.calls a0 false _ A14.out).mono ?_); rintro e w18 ⟨rfl, hb⟩; refine ⟨_, rfl, ?_⟩; replace BK334 := Aside0.mk (blk_below (g := gb334) (o := .cells #[.bool t326, .int .i64 t327, .int .i64 t328, .int .u64 t329] 51 (0, 0)) (by (with_reducible repeat (first | refine blk_drewN ?_ _ | refine blk_drew ?_ | refine blk_alloc ?_ _)); refine blk_far ?_ NB334_335.out _; refine blk_far ?_ NB334_335.out _; refine blk_far ?_ NB334_335.out _; refine blk_far ?_ NB334_335.out _; refine blk_put (cs := #[.bool t326, .int .i64 t327, .int .i64 t328, .int .u64 0]) ?_ 3 _ rfl; refine blk_put (cs := #[.bool t326, .int .i64 t327, .int .i64 0, .int .u64 0]) ?_ 2 _ rfl; refine blk_put (cs := #[.bool t326, .int .i64 0, .int .i64 0, .int .u64 0]) ?_ 1 _ rfl; refine blk_put (cs := #[.bool false, .int .i64 0, .int .i64 0, .int .u64 0]) ?_ 0 _ rfl; (with_reducible repeat (first | refine blk_drewN ?_ _ | refine blk_drew ?_ | refine blk_alloc ?_ _)); exact BK334.out) hb); replace BK335 := Aside0.mk (blk_below (g := gb335) (o := .cells #[.bool t330, .int .i64 t331, .int .i64 t332, .int .u64 t333] 51 (0, 0)) (by (with_reducible repeat (first | refine blk_drewN ?_ _ | refine blk_drew ?_ | refine blk_alloc ?_ _)); refine blk_put (cs := #[.bool t330, .int .i64 t331, .int .i64 t332, .int .u64 0]) ?_ 3 _ rfl; refine blk_put (cs := #[.bool t330, .int .i64 t331, .int .i64 0, .int .u64 0]) ?_ 2 _ rfl; refine blk_put (cs := #[.bool t330, .int .i64 0, .int .i64 0, .int .u64 0]) ?_ 1 _ rfl; refine blk_put (cs := #[.bool false, .int .i64 0, .int .i64 0, .int .u64 0]) ?_ 0 _ rfl; refine blk_far ?_ NB335_334.out _; refine blk_far ?_ NB335_334.out _; refine blk_far ?_ NB335_334.out _; refine blk_far ?_ NB335_334.out _; (with_reducible repeat (first | refine blk_drewN ?_ _ | refine blk_drew ?_ | refine blk_alloc ?_ _)); exact BK335.out) hb); replace HB := Aside0.mk (below_step (kHt HB GE334 GE335) hb); (try clear hb); (try clear hb2); (try clear hk); (try clear hi)) | (go_at_call 22; (with_reducible refine (r3_NaN.calls a1 t337 _ A17.out).mono ?_); rintro e w19 ⟨rfl, hb⟩; replace BK334 := Aside0.mk (blk_below (g := gb334) (o := .cells #[.bool t326, .int .i64 t327, .int .i64 t328, .int .u64 t329] 51 (0, 0)) (kB BK334) hb); replace BK335 := Aside0.mk (blk_below (g := gb335) (o := .cells #[.bool t330, .int .i64 t331, .int .i64 t332, .int .u64 t333] 51 (0, 0)) (kB BK335) hb); replace HB := Aside0.mk (below_step (kHt HB GE334 GE335) hb); (try clear hb); (try clear hb2); (try clear hk); (try clear hi)))
  go_meet
  case rel => exact ⟨_, (t337), RSq, (by first | exact H' | (subst_vars; exact H')), ⟨by first | omega | exact Nat.le_refl _⟩, ⟨kB BK334⟩, ⟨kB BK335⟩, ⟨kHt HB GE334 GE335⟩⟩
 case rest =>
  clear HC6; (try clear c1); (try clear c2); (try clear p2); (try clear p6); (try clear c9); (try clear c11); (try clear c15); (try clear hcz12_0 hcz12_1 hcz12_2 hcz12_3); (try clear hcz13_0 hcz13_1 hcz13_2 hcz13_3); (try clear hfz12_0 hfz12_1 hfz12_2 hfz12_3); (try clear hfz13_0 hfz13_1 hfz13_2 hfz13_3); obtain ⟨kq, x28_5, rfl, HA, HJ5, BK334, BK335, HB⟩ := hcut
  cases kq with
  | zero => exact absurd HA.out (by simp [r7_Div.j0])
  | succ kj5 =>
   have H := HA.out; clear HA
   simp only [r7_Div.j0] at H
   by_cases c20 : x28_5 = true
   · subst c20
     have H1 : ((r5_None.f a0 a1).bind fun t338 => (some (9221120237041090560, t338))) = some (r1, r2) := by rw [if_pos rfl] at H; exact H
     clear H; have H := H1; clear H1; replace H := Option.bind_eq_some_iff.mp H; obtain ⟨t338, A210, H⟩ := H; replace H : (some (9221120237041090560, t338)) = some (r1, r2) := H; have A21 := Aside0.mk A210; clear A210
     simp only [Option.some.injEq, Prod.mk.injEq] at H
     obtain ⟨rfl, rfl⟩ := H
     go_wp2_with (first | ((with_reducible refine gate_callee (f := 23) rfl ?_); refine goesL_ (some 31) rfl rfl Try.func23 (by kernel_rfl) rfl #[.int .u64 a0, .int .u64 a1] rfl LMq ?_; (with_reducible refine (r5_None.calls a0 a1 t338 _ A21.out).mono ?_); rintro e w22 ⟨rfl, hb⟩; refine ⟨_, rfl, ?_⟩; replace BK334 := Aside0.mk (blk_below (g := gb334) (o := .cells #[.bool t326, .int .i64 t327, .int .i64 t328, .int .u64 t329] 51 (0, 0)) (kB BK334) hb); replace BK335 := Aside0.mk (blk_below (g := gb335) (o := .cells #[.bool t330, .int .i64 t331, .int .i64 t332, .int .u64 t333] 51 (0, 0)) (kB BK335) hb); replace HB := Aside0.mk (below_step (kHt HB GE334 GE335) hb); (try clear hb); (try clear hb2); (try clear hk); (try clear hi)))
     go_ret2
     exact ⟨by first | rfl | (simp [errW_none, errW_some] <;> rfl) | (simp [*, errW_none, errW_some] <;> rfl), kHt HB GE334 GE335⟩
   replace c20 := Bool.eq_false_iff.mpr c20; subst c20
   have H1 : (if t327 = 3 then (if t331 = 3 then (r7_Div.j1 kj5 a2 (t326 != t330) true t326 t327 t328 t329 t330 t331 t332 t333) else (if t327 = 0 then (r7_Div.j1 kj5 a2 (t326 != t330) (t331 == 0) t326 t327 t328 t329 t330 t331 t332 t333) else (r7_Div.j1 kj5 a2 (t326 != t330) false t326 t327 t328 t329 t330 t331 t332 t333))) else (if t327 = 0 then (r7_Div.j1 kj5 a2 (t326 != t330) (t331 == 0) t326 t327 t328 t329 t330 t331 t332 t333) else (r7_Div.j1 kj5 a2 (t326 != t330) false t326 t327 t328 t329 t330 t331 t332 t333))) = some (r1, r2) := by rw [if_neg (show ¬ (false = true) by decide)] at H; exact H
   clear H; have H := H1; clear H1; have HC23 := Aside0.mk H; clear H
   go_upto_region 5 with (fail)
   go_cut [49] (fun v49 wc => ∃ (kq : Nat) (x49_22 : Bool), v49 = .bool x49_22 ∧ Aside0 (r7_Div.j1 kq a2 (t326 != t330) x49_22 t326 t327 t328 t329 t330 t331 t332 t333 = some (r1, r2)) ∧ Aside0 (kq ≤ kj5) ∧ Aside0 (wc.heap[gb334]? = some (.cells #[.bool t326, .int .i64 t327, .int .i64 t328, .int .u64 t329] 51 (0, 0))) ∧ Aside0 (wc.heap[gb335]? = some (.cells #[.bool t330, .int .i64 t331, .int .i64 t332, .int .u64 t333] 51 (0, 0))) ∧ Aside0 (Below w.heap.size w wc))
   case first =>
    have H := HC23.out; clear HC23
    by_cases c24 : t327 = 3
    · rw [if_pos c24] at H
      have c24b0 : (t327 == 3) = true := beq_iff_eq.mpr c24; have c24b1 : (t327 != 3) = false := bne_eq_false_iff_eq.mpr c24; clear c24
      (first | rw [c24b0] | (simp only [i64_w, i32_w]; rw [c24b0]) | skip)
      by_cases c25 : t331 = 3
      · rw [if_pos c25] at H
        have c25b0 : (t331 == 3) = true := beq_iff_eq.mpr c25; have c25b1 : (t331 != 3) = false := bne_eq_false_iff_eq.mpr c25; clear c25; have H' := Aside0.mk H; clear H; have hnb26 := NB334_335.out; have hnc26 := NB335_334.out; have hcz27_0 : wc.cell? ⟨gb334, 0, none⟩ = some (.bool t326) := bc BK334 0; have hcz27_1 : wc.cell? ⟨gb334, 1, none⟩ = some (.int .i64 t327) := bc BK334 1; have hcz27_2 : wc.cell? ⟨gb334, 2, none⟩ = some (.int .i64 t328) := bc BK334 2; have hcz27_3 : wc.cell? ⟨gb334, 3, none⟩ = some (.int .u64 t329) := bc BK334 3; have hfz27_0 := blk_frozen BK334.out 0; have hfz27_1 := blk_frozen BK334.out 1; have hfz27_2 := blk_frozen BK334.out 2; have hfz27_3 := blk_frozen BK334.out 3; have hcz28_0 : wc.cell? ⟨gb335, 0, none⟩ = some (.bool t330) := bc BK335 0; have hcz28_1 : wc.cell? ⟨gb335, 1, none⟩ = some (.int .i64 t331) := bc BK335 1; have hcz28_2 : wc.cell? ⟨gb335, 2, none⟩ = some (.int .i64 t332) := bc BK335 2; have hcz28_3 : wc.cell? ⟨gb335, 3, none⟩ = some (.int .u64 t333) := bc BK335 3; have hfz28_0 := blk_frozen BK335.out 0; have hfz28_1 := blk_frozen BK335.out 1; have hfz28_2 := blk_frozen BK335.out 2; have hfz28_3 := blk_frozen BK335.out 3
        go_wp2
        go_meet
        case rel => exact ⟨_, (true), RSq, (by first | exact H' | (subst_vars; exact H')), ⟨by have := HJ5.out; first | omega | exact Nat.le_refl _⟩, ⟨kB BK334⟩, ⟨kB BK335⟩, ⟨kHt HB GE334 GE335⟩⟩
      rw [if_neg c25] at H
      have c25b0 : (t331 == 3) = false := beq_eq_false_iff_ne.mpr c25; have c25b1 : (t331 != 3) = true := bne_iff_ne.mpr c25
      by_cases c29 : t327 = 0
      · rw [if_pos c29] at H
        have c29b0 : (t327 == 0) = true := beq_iff_eq.mpr c29; have c29b1 : (t327 != 0) = false := bne_eq_false_iff_eq.mpr c29; clear c29; have H' := Aside0.mk H; clear H; have hnb30 := NB334_335.out; have hnc30 := NB335_334.out; have hcz31_0 : wc.cell? ⟨gb334, 0, none⟩ = some (.bool t326) := bc BK334 0; have hcz31_1 : wc.cell? ⟨gb334, 1, none⟩ = some (.int .i64 t327) := bc BK334 1; have hcz31_2 : wc.cell? ⟨gb334, 2, none⟩ = some (.int .i64 t328) := bc BK334 2; have hcz31_3 : wc.cell? ⟨gb334, 3, none⟩ = some (.int .u64 t329) := bc BK334 3; have hfz31_0 := blk_frozen BK334.out 0; have hfz31_1 := blk_frozen BK334.out 1; have hfz31_2 := blk_frozen BK334.out 2; have hfz31_3 := blk_frozen BK334.out 3; have hcz32_0 : wc.cell? ⟨gb335, 0, none⟩ = some (.bool t330) := bc BK335 0; have hcz32_1 : wc.cell? ⟨gb335, 1, none⟩ = some (.int .i64 t331) := bc BK335 1; have hcz32_2 : wc.cell? ⟨gb335, 2, none⟩ = some (.int .i64 t332) := bc BK335 2; have hcz32_3 : wc.cell? ⟨gb335, 3, none⟩ = some (.int .u64 t333) := bc BK335 3; have hfz32_0 := blk_frozen BK335.out 0; have hfz32_1 := blk_frozen BK335.out 1; have hfz32_2 := blk_frozen BK335.out 2; have hfz32_3 := blk_frozen BK335.out 3
        go_wp2
        go_meet
        case rel => exact ⟨_, ((t331 == 0)), RSq, (by first | exact H' | (subst_vars; exact H')), ⟨by have := HJ5.out; first | omega | exact Nat.le_refl _⟩, ⟨kB BK334⟩, ⟨kB BK335⟩, ⟨kHt HB GE334 GE335⟩⟩
      rw [if_neg c29] at H
      have c29b0 : (t327 == 0) = false := beq_eq_false_iff_ne.mpr c29; have c29b1 : (t327 != 0) = true := bne_iff_ne.mpr c29; have H' := Aside0.mk H; clear H; have hnb33 := NB334_335.out; have hnc33 := NB335_334.out; have hcz34_0 : wc.cell? ⟨gb334, 0, none⟩ = some (.bool t326) := bc BK334 0; have hcz34_1 : wc.cell? ⟨gb334, 1, none⟩ = some (.int .i64 t327) := bc BK334 1; have hcz34_2 : wc.cell? ⟨gb334, 2, none⟩ = some (.int .i64 t328) := bc BK334 2; have hcz34_3 : wc.cell? ⟨gb334, 3, none⟩ = some (.int .u64 t329) := bc BK334 3; have hfz34_0 := blk_frozen BK334.out 0; have hfz34_1 := blk_frozen BK334.out 1; have hfz34_2 := blk_frozen BK334.out 2; have hfz34_3 := blk_frozen BK334.out 3; have hcz35_0 : wc.cell? ⟨gb335, 0, none⟩ = some (.bool t330) := bc BK335 0; have hcz35_1 : wc.cell? ⟨gb335, 1, none⟩ = some (.int .i64 t331) := bc BK335 1; have hcz35_2 : wc.cell? ⟨gb335, 2, none⟩ = some (.int .i64 t332) := bc BK335 2; have hcz35_3 : wc.cell? ⟨gb335, 3, none⟩ = some (.int .u64 t333) := bc BK335 3; have hfz35_0 := blk_frozen BK335.out 0; have hfz35_1 := blk_frozen BK335.out 1; have hfz35_2 := blk_frozen BK335.out 2; have hfz35_3 := blk_frozen BK335.out 3
      go_wp2
      go_meet
      case rel => exact ⟨_, (false), RSq, (by first | exact H' | (subst_vars; exact H')), ⟨by have := HJ5.out; first | omega | exact Nat.le_refl _⟩, ⟨kB BK334⟩, ⟨kB BK335⟩, ⟨kHt HB GE334 GE335⟩⟩
    rw [if_neg c24] at H
    have c24b0 : (t327 == 3) = false := beq_eq_false_iff_ne.mpr c24; have c24b1 : (t327 != 3) = true := bne_iff_ne.mpr c24
    (first | rw [c24b0] | (simp only [i64_w, i32_w]; rw [c24b0]) | skip)
    by_cases c36 : t327 = 0
    · rw [if_pos c36] at H
      have c36b0 : (t327 == 0) = true := beq_iff_eq.mpr c36; have c36b1 : (t327 != 0) = false := bne_eq_false_iff_eq.mpr c36; clear c36; have H' := Aside0.mk H; clear H; have hnb37 := NB334_335.out; have hnc37 := NB335_334.out; have hcz38_0 : wc.cell? ⟨gb334, 0, none⟩ = some (.bool t326) := bc BK334 0; have hcz38_1 : wc.cell? ⟨gb334, 1, none⟩ = some (.int .i64 t327) := bc BK334 1; have hcz38_2 : wc.cell? ⟨gb334, 2, none⟩ = some (.int .i64 t328) := bc BK334 2; have hcz38_3 : wc.cell? ⟨gb334, 3, none⟩ = some (.int .u64 t329) := bc BK334 3; have hfz38_0 := blk_frozen BK334.out 0; have hfz38_1 := blk_frozen BK334.out 1; have hfz38_2 := blk_frozen BK334.out 2; have hfz38_3 := blk_frozen BK334.out 3; have hcz39_0 : wc.cell? ⟨gb335, 0, none⟩ = some (.bool t330) := bc BK335 0; have hcz39_1 : wc.cell? ⟨gb335, 1, none⟩ = some (.int .i64 t331) := bc BK335 1; have hcz39_2 : wc.cell? ⟨gb335, 2, none⟩ = some (.int .i64 t332) := bc BK335 2; have hcz39_3 : wc.cell? ⟨gb335, 3, none⟩ = some (.int .u64 t333) := bc BK335 3; have hfz39_0 := blk_frozen BK335.out 0; have hfz39_1 := blk_frozen BK335.out 1; have hfz39_2 := blk_frozen BK335.out 2; have hfz39_3 := blk_frozen BK335.out 3
      go_wp2
      go_meet
      case rel => exact ⟨_, ((t331 == 0)), RSq, (by first | exact H' | (subst_vars; exact H')), ⟨by have := HJ5.out; first | omega | exact Nat.le_refl _⟩, ⟨kB BK334⟩, ⟨kB BK335⟩, ⟨kHt HB GE334 GE335⟩⟩
    rw [if_neg c36] at H
    have c36b0 : (t327 == 0) = false := beq_eq_false_iff_ne.mpr c36; have c36b1 : (t327 != 0) = true := bne_iff_ne.mpr c36; have H' := Aside0.mk H; clear H; have hnb40 := NB334_335.out; have hnc40 := NB335_334.out; have hcz41_0 : wc.cell? ⟨gb334, 0, none⟩ = some (.bool t326) := bc BK334 0; have hcz41_1 : wc.cell? ⟨gb334, 1, none⟩ = some (.int .i64 t327) := bc BK334 1; have hcz41_2 : wc.cell? ⟨gb334, 2, none⟩ = some (.int .i64 t328) := bc BK334 2; have hcz41_3 : wc.cell? ⟨gb334, 3, none⟩ = some (.int .u64 t329) := bc BK334 3; have hfz41_0 := blk_frozen BK334.out 0; have hfz41_1 := blk_frozen BK334.out 1; have hfz41_2 := blk_frozen BK334.out 2; have hfz41_3 := blk_frozen BK334.out 3
    go_wp2
    go_meet
    case rel => exact ⟨_, (false), RSq, (by first | exact H' | (subst_vars; exact H')), ⟨by have := HJ5.out; first | omega | exact Nat.le_refl _⟩, ⟨kB BK334⟩, ⟨kB BK335⟩, ⟨kHt HB GE334 GE335⟩⟩
   case rest =>
    clear HC23; (try clear c1); (try clear c2); (try clear p2); (try clear c3); (try clear c4); (try clear p6); (try clear c9); (try clear c11); (try clear c15); (try clear c20); (try clear c21); (try clear c22); (try clear c23); (try clear c24); (try clear c24b0); (try clear c24b1); (try clear c25); (try clear c25b0); (try clear c25b1); (try clear c26); (try clear c29); (try clear c29b0); (try clear c29b1); (try clear c30); (try clear c33); (try clear c36); (try clear c36b0); (try clear c36b1); (try clear c37); (try clear c40); (try clear hcz12_0 hcz12_1 hcz12_2 hcz12_3); (try clear hcz13_0 hcz13_1 hcz13_2 hcz13_3); (try clear hcz27_0 hcz27_1 hcz27_2 hcz27_3); (try clear hcz28_0 hcz28_1 hcz28_2 hcz28_3); (try clear hcz31_0 hcz31_1 hcz31_2 hcz31_3); (try clear hcz32_0 hcz32_1 hcz32_2 hcz32_3); (try clear hcz34_0 hcz34_1 hcz34_2 hcz34_3); (try clear hcz35_0 hcz35_1 hcz35_2 hcz35_3); (try clear hcz38_0 hcz38_1 hcz38_2 hcz38_3); (try clear hcz39_0 hcz39_1 hcz39_2 hcz39_3); (try clear hcz41_0 hcz41_1 hcz41_2 hcz41_3); (try clear hfz12_0 hfz12_1 hfz12_2 hfz12_3); (try clear hfz13_0 hfz13_1 hfz13_2 hfz13_3); (try clear hfz27_0 hfz27_1 hfz27_2 hfz27_3); (try clear hfz28_0 hfz28_1 hfz28_2 hfz28_3); (try clear hfz31_0 hfz31_1 hfz31_2 hfz31_3); (try clear hfz32_0 hfz32_1 hfz32_2 hfz32_3); (try clear hfz34_0 hfz34_1 hfz34_2 hfz34_3); (try clear hfz35_0 hfz35_1 hfz35_2 hfz35_3); (try clear hfz38_0 hfz38_1 hfz38_2 hfz38_3); (try clear hfz39_0 hfz39_1 hfz39_2 hfz39_3); (try clear hfz41_0 hfz41_1 hfz41_2 hfz41_3); (try clear p2); (try clear p6); obtain ⟨kq, x49_22, rfl, HA, HJ22, BK334, BK335, HB⟩ := hcut
    cases kq with
    | zero => exact absurd HA.out (by simp [r7_Div.j1])
    | succ kj22 =>
     have H := HA.out; clear HA
     simp only [r7_Div.j1] at H
     by_cases c42 : x49_22 = true
     · subst c42
       have H1 : (some (9221120237041090560, 1)) = some (r1, r2) := by rw [if_pos rfl] at H; exact H
       clear H; have H := H1; clear H1
       simp only [Option.some.injEq, Prod.mk.injEq] at H
       obtain ⟨rfl, rfl⟩ := H
       go_wp2
       go_ret2
       exact ⟨by first | rfl | (simp [errW_none, errW_some] <;> rfl) | (simp [*, errW_none, errW_some] <;> rfl), kHt HB GE334 GE335⟩
     replace c42 := Bool.eq_false_iff.mpr c42; subst c42
     have H1 : (if t327 = 3 then ((r7_signed.f 9218868437227405312 (t326 != t330)).bind fun t339 => (some (t339, 0))) else (if t331 = 3 then (r7_Div.j2 kj22 a2 (t326 != t330) true t326 t327 t328 t329 t330 t331 t332 t333) else (r7_Div.j2 kj22 a2 (t326 != t330) (t327 == 0) t326 t327 t328 t329 t330 t331 t332 t333))) = some (r1, r2) := by rw [if_neg (show ¬ (false = true) by decide)] at H; exact H
     clear H; have H := H1; clear H1
     by_cases c43 : t327 = 3
     · rw [if_pos c43] at H
       have c43b0 : (t327 == 3) = true := beq_iff_eq.mpr c43; have c43b1 : (t327 != 3) = false := bne_eq_false_iff_eq.mpr c43; clear c43; replace H := Option.bind_eq_some_iff.mp H; obtain ⟨t339, A440, H⟩ := H; replace H : (some (t339, 0)) = some (r1, r2) := H; have A44 := Aside0.mk A440; clear A440
       simp only [Option.some.injEq, Prod.mk.injEq] at H
       obtain ⟨rfl, rfl⟩ := H; have hnb45 := NB334_335.out; have hnc45 := NB335_334.out; have hcz46_0 : wc.cell? ⟨gb334, 0, none⟩ = some (.bool t326) := bc BK334 0; have hcz46_1 : wc.cell? ⟨gb334, 1, none⟩ = some (.int .i64 t327) := bc BK334 1; have hcz46_2 : wc.cell? ⟨gb334, 2, none⟩ = some (.int .i64 t328) := bc BK334 2; have hcz46_3 : wc.cell? ⟨gb334, 3, none⟩ = some (.int .u64 t329) := bc BK334 3; have hfz46_0 := blk_frozen BK334.out 0; have hfz46_1 := blk_frozen BK334.out 1; have hfz46_2 := blk_frozen BK334.out 2; have hfz46_3 := blk_frozen BK334.out 3
       go_wp2_with (first | ((with_reducible refine gate_callee (f := 24) rfl ?_); refine goesL_ (some 54) rfl rfl Try.func24 (by kernel_rfl) rfl #[.int .u64 9218868437227405312, .bool (t326 != t330)] rfl LMq ?_; (with_reducible refine (r7_signed.calls 9218868437227405312 (t326 != t330) t339 _ A44.out).mono ?_); rintro e w' ⟨rfl, ⟨nd, rfl⟩⟩; refine ⟨_, rfl, ?_⟩))
       go_ret2
       exact ⟨by first | rfl | (simp [errW_none, errW_some] <;> rfl) | (simp [*, errW_none, errW_some] <;> rfl), kHt HB GE334 GE335⟩
     rw [if_neg c43] at H
     have c43b0 : (t327 == 3) = false := beq_eq_false_iff_ne.mpr c43; have c43b1 : (t327 != 3) = true := bne_iff_ne.mpr c43; have HC47 := Aside0.mk H; clear H; have hnb48 := NB334_335.out; have hnc48 := NB335_334.out; have hcz49_0 : wc.cell? ⟨gb334, 0, none⟩ = some (.bool t326) := bc BK334 0; have hcz49_1 : wc.cell? ⟨gb334, 1, none⟩ = some (.int .i64 t327) := bc BK334 1; have hcz49_2 : wc.cell? ⟨gb334, 2, none⟩ = some (.int .i64 t328) := bc BK334 2; have hcz49_3 : wc.cell? ⟨gb334, 3, none⟩ = some (.int .u64 t329) := bc BK334 3; have hfz49_0 := blk_frozen BK334.out 0; have hfz49_1 := blk_frozen BK334.out 1; have hfz49_2 := blk_frozen BK334.out 2; have hfz49_3 := blk_frozen BK334.out 3
     go_upto_region 9 with (fail)
     go_cut [62] (fun v62 wc => ∃ (kq : Nat) (x62_46 : Bool), v62 = .bool x62_46 ∧ Aside0 (r7_Div.j2 kq a2 (t326 != t330) x62_46 t326 t327 t328 t329 t330 t331 t332 t333 = some (r1, r2)) ∧ Aside0 (kq ≤ kj22) ∧ Aside0 (wc.heap[gb334]? = some (.cells #[.bool t326, .int .i64 t327, .int .i64 t328, .int .u64 t329] 51 (0, 0))) ∧ Aside0 (wc.heap[gb335]? = some (.cells #[.bool t330, .int .i64 t331, .int .i64 t332, .int .u64 t333] 51 (0, 0))) ∧ Aside0 (Below w.heap.size w wc))
     case first =>
      have H := HC47.out; clear HC47
      by_cases c50 : t331 = 3
      · rw [if_pos c50] at H
        have c50b0 : (t331 == 3) = true := beq_iff_eq.mpr c50; have c50b1 : (t331 != 3) = false := bne_eq_false_iff_eq.mpr c50; clear c50
        (first | rw [c50b0] | (simp only [i64_w, i32_w]; rw [c50b0]) | skip)
        have H' := Aside0.mk H; clear H; have hnb51 := NB335_334.out; have hnc51 := NB334_335.out; have hcz52_0 : wc.cell? ⟨gb335, 0, none⟩ = some (.bool t330) := bc BK335 0; have hcz52_1 : wc.cell? ⟨gb335, 1, none⟩ = some (.int .i64 t331) := bc BK335 1; have hcz52_2 : wc.cell? ⟨gb335, 2, none⟩ = some (.int .i64 t332) := bc BK335 2; have hcz52_3 : wc.cell? ⟨gb335, 3, none⟩ = some (.int .u64 t333) := bc BK335 3; have hfz52_0 := blk_frozen BK335.out 0; have hfz52_1 := blk_frozen BK335.out 1; have hfz52_2 := blk_frozen BK335.out 2; have hfz52_3 := blk_frozen BK335.out 3
        go_wp2
        go_meet
        case rel => exact ⟨_, (true), RSq, (by first | exact H' | (subst_vars; exact H')), ⟨by have := HJ5.out; have := HJ22.out; first | omega | exact Nat.le_refl _⟩, ⟨kB BK334⟩, ⟨kB BK335⟩, ⟨kHt HB GE334 GE335⟩⟩
      rw [if_neg c50] at H
      have c50b0 : (t331 == 3) = false := beq_eq_false_iff_ne.mpr c50; have c50b1 : (t331 != 3) = true := bne_iff_ne.mpr c50
      (first | rw [c50b0] | (simp only [i64_w, i32_w]; rw [c50b0]) | skip)
      have H' := Aside0.mk H; clear H; have hnb53 := NB335_334.out; have hnc53 := NB334_335.out; have hcz54_0 : wc.cell? ⟨gb335, 0, none⟩ = some (.bool t330) := bc BK335 0; have hcz54_1 : wc.cell? ⟨gb335, 1, none⟩ = some (.int .i64 t331) := bc BK335 1; have hcz54_2 : wc.cell? ⟨gb335, 2, none⟩ = some (.int .i64 t332) := bc BK335 2; have hcz54_3 : wc.cell? ⟨gb335, 3, none⟩ = some (.int .u64 t333) := bc BK335 3; have hfz54_0 := blk_frozen BK335.out 0; have hfz54_1 := blk_frozen BK335.out 1; have hfz54_2 := blk_frozen BK335.out 2; have hfz54_3 := blk_frozen BK335.out 3; have hcz55_0 : wc.cell? ⟨gb334, 0, none⟩ = some (.bool t326) := bc BK334 0; have hcz55_1 : wc.cell? ⟨gb334, 1, none⟩ = some (.int .i64 t327) := bc BK334 1; have hcz55_2 : wc.cell? ⟨gb334, 2, none⟩ = some (.int .i64 t328) := bc BK334 2; have hcz55_3 : wc.cell? ⟨gb334, 3, none⟩ = some (.int .u64 t329) := bc BK334 3; have hfz55_0 := blk_frozen BK334.out 0; have hfz55_1 := blk_frozen BK334.out 1; have hfz55_2 := blk_frozen BK334.out 2; have hfz55_3 := blk_frozen BK334.out 3
      go_wp2
      go_meet
      case rel => exact ⟨_, ((t327 == 0)), RSq, (by first | exact H' | (subst_vars; exact H')), ⟨by have := HJ5.out; have := HJ22.out; first | omega | exact Nat.le_refl _⟩, ⟨kB BK334⟩, ⟨kB BK335⟩, ⟨kHt HB GE334 GE335⟩⟩
     case rest =>
      clear HC47; (try clear c1); (try clear c2); (try clear p2); (try clear c3); (try clear c4); (try clear c5); (try clear p6); (try clear c9); (try clear c11); (try clear c15); (try clear c20); (try clear c21); (try clear c22); (try clear c23); (try clear c24); (try clear c24b0); (try clear c24b1); (try clear c25); (try clear c25b0); (try clear c25b1); (try clear c26); (try clear c29); (try clear c29b0); (try clear c29b1); (try clear c30); (try clear c33); (try clear c36); (try clear c36b0); (try clear c36b1); (try clear c37); (try clear c40); (try clear c42); (try clear c43); (try clear c43b0); (try clear c43b1); (try clear c45); (try clear c48); (try clear c50); (try clear c50b0); (try clear c50b1); (try clear c51); (try clear c53); (try clear hcz12_0 hcz12_1 hcz12_2 hcz12_3); (try clear hcz13_0 hcz13_1 hcz13_2 hcz13_3); (try clear hcz27_0 hcz27_1 hcz27_2 hcz27_3); (try clear hcz28_0 hcz28_1 hcz28_2 hcz28_3); (try clear hcz31_0 hcz31_1 hcz31_2 hcz31_3); (try clear hcz32_0 hcz32_1 hcz32_2 hcz32_3); (try clear hcz34_0 hcz34_1 hcz34_2 hcz34_3); (try clear hcz35_0 hcz35_1 hcz35_2 hcz35_3); (try clear hcz38_0 hcz38_1 hcz38_2 hcz38_3); (try clear hcz39_0 hcz39_1 hcz39_2 hcz39_3); (try clear hcz41_0 hcz41_1 hcz41_2 hcz41_3); (try clear hcz46_0 hcz46_1 hcz46_2 hcz46_3); (try clear hcz49_0 hcz49_1 hcz49_2 hcz49_3); (try clear hcz52_0 hcz52_1 hcz52_2 hcz52_3); (try clear hcz54_0 hcz54_1 hcz54_2 hcz54_3); (try clear hcz55_0 hcz55_1 hcz55_2 hcz55_3); (try clear hfz12_0 hfz12_1 hfz12_2 hfz12_3); (try clear hfz13_0 hfz13_1 hfz13_2 hfz13_3); (try clear hfz27_0 hfz27_1 hfz27_2 hfz27_3); (try clear hfz28_0 hfz28_1 hfz28_2 hfz28_3); (try clear hfz31_0 hfz31_1 hfz31_2 hfz31_3); (try clear hfz32_0 hfz32_1 hfz32_2 hfz32_3); (try clear hfz34_0 hfz34_1 hfz34_2 hfz34_3); (try clear hfz35_0 hfz35_1 hfz35_2 hfz35_3); (try clear hfz38_0 hfz38_1 hfz38_2 hfz38_3); (try clear hfz39_0 hfz39_1 hfz39_2 hfz39_3); (try clear hfz41_0 hfz41_1 hfz41_2 hfz41_3); (try clear hfz46_0 hfz46_1 hfz46_2 hfz46_3); (try clear hfz49_0 hfz49_1 hfz49_2 hfz49_3); (try clear hfz52_0 hfz52_1 hfz52_2 hfz52_3); (try clear hfz54_0 hfz54_1 hfz54_2 hfz54_3); (try clear hfz55_0 hfz55_1 hfz55_2 hfz55_3); (try clear p2); (try clear p6); obtain ⟨kq, x62_46, rfl, HA, HJ46, BK334, BK335, HB⟩ := hcut
      cases kq with
      | zero => exact absurd HA.out (by simp [r7_Div.j2])
      | succ kj46 =>
       have H := HA.out; clear HA
       simp only [r7_Div.j2] at H
       by_cases c56 : x62_46 = true
       · subst c56
         have H1 : ((r7_signed.f 0 (t326 != t330)).bind fun t340 => (some (t340, 0))) = some (r1, r2) := by rw [if_pos rfl] at H; exact H
         clear H; have H := H1; clear H1; replace H := Option.bind_eq_some_iff.mp H; obtain ⟨t340, A570, H⟩ := H; replace H : (some (t340, 0)) = some (r1, r2) := H; have A57 := Aside0.mk A570; clear A570
         simp only [Option.some.injEq, Prod.mk.injEq] at H
         obtain ⟨rfl, rfl⟩ := H
         go_wp2_with (first | ((with_reducible refine gate_callee (f := 24) rfl ?_); refine goesL_ (some 64) rfl rfl Try.func24 (by kernel_rfl) rfl #[.int .u64 0, .bool (t326 != t330)] rfl LMq ?_; (with_reducible refine (r7_signed.calls 0 (t326 != t330) t340 _ A57.out).mono ?_); rintro e w' ⟨rfl, ⟨nd, rfl⟩⟩; refine ⟨_, rfl, ?_⟩))
         go_ret2
         exact ⟨by first | rfl | (simp [errW_none, errW_some] <;> rfl) | (simp [*, errW_none, errW_some] <;> rfl), kHt HB GE334 GE335⟩
       replace c56 := Bool.eq_false_iff.mpr c56; subst c56
       have H1 : (if t331 = 0 then ((r7_signed.f 9218868437227405312 (t326 != t330)).bind fun t341 => (some (t341, 2))) else ((r2_Of.f kj46 t329).bind fun t342 => ((r2_Shl.f kj46 t342 120).bind fun t345 => ((r2_Of.f kj46 t333).bind fun t348 => ((r2_Parts.f kj46 t345 t348).bind fun bt351 => ((r2_Shl.f kj46 bt351.1 1).bind fun t357 => (if (bt351.2.length : Int) > 0 then ((r2_Of.f kj46 1).bind fun t361 => ((r2_Add.f kj46 t357 t361).bind fun t364 => ((r4_Round.f kj46 (t326 != t330) (wrap64 ((wrap64 (t328 - t332)) - 121)) t364 a2).bind fun bt367 => (some (bt367.1, bt367.2))))) else ((r4_Round.f kj46 (t326 != t330) (wrap64 ((wrap64 (t328 - t332)) - 121)) t357 a2).bind fun bt369 => (some (bt369.1, bt369.2)))))))))) = some (r1, r2) := by rw [if_neg (show ¬ (false = true) by decide)] at H; exact H
       clear H; have H := H1; clear H1
       by_cases c58 : t331 = 0
       · rw [if_pos c58] at H
         have c58b0 : (t331 == 0) = true := beq_iff_eq.mpr c58; have c58b1 : (t331 != 0) = false := bne_eq_false_iff_eq.mpr c58; clear c58; replace H := Option.bind_eq_some_iff.mp H; obtain ⟨t341, A590, H⟩ := H; replace H : (some (t341, 2)) = some (r1, r2) := H; have A59 := Aside0.mk A590; clear A590
         simp only [Option.some.injEq, Prod.mk.injEq] at H
         obtain ⟨rfl, rfl⟩ := H; have hnb60 := NB335_334.out; have hnc60 := NB334_335.out; have hcz61_0 : wc.cell? ⟨gb335, 0, none⟩ = some (.bool t330) := bc BK335 0; have hcz61_1 : wc.cell? ⟨gb335, 1, none⟩ = some (.int .i64 t331) := bc BK335 1; have hcz61_2 : wc.cell? ⟨gb335, 2, none⟩ = some (.int .i64 t332) := bc BK335 2; have hcz61_3 : wc.cell? ⟨gb335, 3, none⟩ = some (.int .u64 t333) := bc BK335 3; have hfz61_0 := blk_frozen BK335.out 0; have hfz61_1 := blk_frozen BK335.out 1; have hfz61_2 := blk_frozen BK335.out 2; have hfz61_3 := blk_frozen BK335.out 3
         go_wp2_with (first | ((with_reducible refine gate_callee (f := 24) rfl ?_); refine goesL_ (some 69) rfl rfl Try.func24 (by kernel_rfl) rfl #[.int .u64 9218868437227405312, .bool (t326 != t330)] rfl LMq ?_; (with_reducible refine (r7_signed.calls 9218868437227405312 (t326 != t330) t341 _ A59.out).mono ?_); rintro e w' ⟨rfl, ⟨nd, rfl⟩⟩; refine ⟨_, rfl, ?_⟩))
         go_ret2
         exact ⟨by first | rfl | (simp [errW_none, errW_some] <;> rfl) | (simp [*, errW_none, errW_some] <;> rfl), kHt HB GE334 GE335⟩
       rw [if_neg c58] at H
       have c58b0 : (t331 == 0) = false := beq_eq_false_iff_ne.mpr c58; have c58b1 : (t331 != 0) = true := bne_iff_ne.mpr c58; replace H := Option.bind_eq_some_iff.mp H; obtain ⟨t342, A620, H⟩ := H; replace H : ((r2_Shl.f kj46 t342 120).bind fun t345 => ((r2_Of.f kj46 t333).bind fun t348 => ((r2_Parts.f kj46 t345 t348).bind fun bt351 => ((r2_Shl.f kj46 bt351.1 1).bind fun t357 => (if (bt351.2.length : Int) > 0 then ((r2_Of.f kj46 1).bind fun t361 => ((r2_Add.f kj46 t357 t361).bind fun t364 => ((r4_Round.f kj46 (t326 != t330) (wrap64 ((wrap64 (t328 - t332)) - 121)) t364 a2).bind fun bt367 => (some (bt367.1, bt367.2))))) else ((r4_Round.f kj46 (t326 != t330) (wrap64 ((wrap64 (t328 - t332)) - 121)) t357 a2).bind fun bt369 => (some (bt369.1, bt369.2)))))))) = some (r1, r2) := H; have A62 := Aside0.mk A620; clear A620; replace H := Option.bind_eq_some_iff.mp H; obtain ⟨t345, A630, H⟩ := H; replace H : ((r2_Of.f kj46 t333).bind fun t348 => ((r2_Parts.f kj46 t345 t348).bind fun bt351 => ((r2_Shl.f kj46 bt351.1 1).bind fun t357 => (if (bt351.2.length : Int) > 0 then ((r2_Of.f kj46 1).bind fun t361 => ((r2_Add.f kj46 t357 t361).bind fun t364 => ((r4_Round.f kj46 (t326 != t330) (wrap64 ((wrap64 (t328 - t332)) - 121)) t364 a2).bind fun bt367 => (some (bt367.1, bt367.2))))) else ((r4_Round.f kj46 (t326 != t330) (wrap64 ((wrap64 (t328 - t332)) - 121)) t357 a2).bind fun bt369 => (some (bt369.1, bt369.2))))))) = some (r1, r2) := H; have A63 := Aside0.mk A630; clear A630; replace H := Option.bind_eq_some_iff.mp H; obtain ⟨t348, A640, H⟩ := H; replace H : ((r2_Parts.f kj46 t345 t348).bind fun bt351 => ((r2_Shl.f kj46 bt351.1 1).bind fun t357 => (if (bt351.2.length : Int) > 0 then ((r2_Of.f kj46 1).bind fun t361 => ((r2_Add.f kj46 t357 t361).bind fun t364 => ((r4_Round.f kj46 (t326 != t330) (wrap64 ((wrap64 (t328 - t332)) - 121)) t364 a2).bind fun bt367 => (some (bt367.1, bt367.2))))) else ((r4_Round.f kj46 (t326 != t330) (wrap64 ((wrap64 (t328 - t332)) - 121)) t357 a2).bind fun bt369 => (some (bt369.1, bt369.2)))))) = some (r1, r2) := H; have A64 := Aside0.mk A640; clear A640; replace H := Option.bind_eq_some_iff.mp H; obtain ⟨⟨t351, t354⟩, A650, H⟩ := H; replace H : ((r2_Shl.f kj46 t351 1).bind fun t357 => (if (t354.length : Int) > 0 then ((r2_Of.f kj46 1).bind fun t361 => ((r2_Add.f kj46 t357 t361).bind fun t364 => ((r4_Round.f kj46 (t326 != t330) (wrap64 ((wrap64 (t328 - t332)) - 121)) t364 a2).bind fun bt367 => (some (bt367.1, bt367.2))))) else ((r4_Round.f kj46 (t326 != t330) (wrap64 ((wrap64 (t328 - t332)) - 121)) t357 a2).bind fun bt369 => (some (bt369.1, bt369.2))))) = some (r1, r2) := H; have A65 := Aside0.mk A650; clear A650; replace H := Option.bind_eq_some_iff.mp H; obtain ⟨t357, A660, H⟩ := H; replace H : (if (t354.length : Int) > 0 then ((r2_Of.f kj46 1).bind fun t361 => ((r2_Add.f kj46 t357 t361).bind fun t364 => ((r4_Round.f kj46 (t326 != t330) (wrap64 ((wrap64 (t328 - t332)) - 121)) t364 a2).bind fun bt367 => (some (bt367.1, bt367.2))))) else ((r4_Round.f kj46 (t326 != t330) (wrap64 ((wrap64 (t328 - t332)) - 121)) t357 a2).bind fun bt369 => (some (bt369.1, bt369.2)))) = some (r1, r2) := H; have A66 := Aside0.mk A660; clear A660
       by_cases c67 : (t354.length : Int) > 0
       · rw [if_pos c67] at H
         have c67b0 : decide (0 < (t354.length : Int)) = true := decide_eq_true c67; have c67b1 : decide (0 < t354.length) = true := decide_eq_true (by omega); clear c67; replace H := Option.bind_eq_some_iff.mp H; obtain ⟨t361, A680, H⟩ := H; replace H : ((r2_Add.f kj46 t357 t361).bind fun t364 => ((r4_Round.f kj46 (t326 != t330) (wrap64 ((wrap64 (t328 - t332)) - 121)) t364 a2).bind fun bt367 => (some (bt367.1, bt367.2)))) = some (r1, r2) := H; have A68 := Aside0.mk A680; clear A680; replace H := Option.bind_eq_some_iff.mp H; obtain ⟨t364, A690, H⟩ := H; replace H : ((r4_Round.f kj46 (t326 != t330) (wrap64 ((wrap64 (t328 - t332)) - 121)) t364 a2).bind fun bt367 => (some (bt367.1, bt367.2))) = some (r1, r2) := H; have A69 := Aside0.mk A690; clear A690; replace H := Option.bind_eq_some_iff.mp H; obtain ⟨⟨t367, t368⟩, A700, H⟩ := H; replace H : (some (t367, t368)) = some (r1, r2) := H; have A70 := Aside0.mk A700; clear A700
         simp only [Option.some.injEq, Prod.mk.injEq] at H
         obtain ⟨rfl, rfl⟩ := H; have hnb71 := NB335_334.out; have hnc71 := NB334_335.out; have hcz72_0 : wc.cell? ⟨gb335, 0, none⟩ = some (.bool t330) := bc BK335 0; have hcz72_1 : wc.cell? ⟨gb335, 1, none⟩ = some (.int .i64 t331) := bc BK335 1; have hcz72_2 : wc.cell? ⟨gb335, 2, none⟩ = some (.int .i64 t332) := bc BK335 2; have hcz72_3 : wc.cell? ⟨gb335, 3, none⟩ = some (.int .u64 t333) := bc BK335 3; have hfz72_0 := blk_frozen BK335.out 0; have hfz72_1 := blk_frozen BK335.out 1; have hfz72_2 := blk_frozen BK335.out 2; have hfz72_3 := blk_frozen BK335.out 3
         try go_wp2
         replace BK334 := Aside0.mk (blk_drew BK334.out); replace BK335 := Aside0.mk (blk_drew BK335.out); replace HB := Aside0.mk (below_drew1 HB.out); refine start_ (n := 13) (S := fun w' => w'.cell? ⟨gb334, 0, none⟩ = some (.bool t326) ∧ w'.cell? ⟨gb334, 1, none⟩ = some (.int .i64 t327) ∧ w'.cell? ⟨gb334, 2, none⟩ = some (.int .i64 t328) ∧ w'.cell? ⟨gb334, 3, none⟩ = some (.int .u64 t329) ∧ w'.cell? ⟨gb335, 0, none⟩ = some (.bool t330) ∧ w'.cell? ⟨gb335, 1, none⟩ = some (.int .i64 t331) ∧ w'.cell? ⟨gb335, 2, none⟩ = some (.int .i64 t332) ∧ w'.cell? ⟨gb335, 3, none⟩ = some (.int .u64 t333)) (ds := []) #[false, false, false, false, false, false, false, false, false, false, false, false, false] (by kernel_rfl) rfl rfl ⟨bc BK334 0, bc BK334 1, bc BK334 2, bc BK334 3, bc BK335 0, bc BK335 1, bc BK335 2, bc BK335 3⟩ (fun hHeld => ?_); refine with_tabW r7_Div.tab13 r7_Div.bits13 (fun HT_ HW_ => ?_)
         generalize wc.drew = w73 at BK334 BK335 HB hHeld ⊢
         refine pure_ (i := 0) (N := some 71) (v := ?_) (a' := ?_) #[true, false, false, false, false, false, false, false, false, false, false, false, false] rfl rfl (any_of HT_.out (by kernel_rfl)) (fun _ _ _ h => h) (Or.inl ⟨by rfl, ?_⟩) ?_ ?_; rotate_left
         · intro w'
           go_simp
           with_reducible rfl
         rotate_left
         · exact APq
         refine pure_ (i := 4) (N := some 75) (v := ?_) (a' := ?_) #[true, false, false, false, true, false, false, false, false, false, false, false, false] rfl rfl (any_of HT_.out (by kernel_rfl)) (fun _ _ _ h => h) (Or.inl ⟨by rfl, ?_⟩) ?_ ?_; rotate_left
         · intro w'
           go_simp
           with_reducible rfl
         rotate_left
         · exact APq
         refine take_ (i := 1) (N := some 72) (v := ?_) (a' := ?_) #[true, true, false, false, true, false, false, false, false, false, false, false, false] rfl rfl (take_ofW HT_.out HW_.out (by kernel_rfl)) (fun _ _ _ h => h) (Or.inl ⟨by rfl, ?_⟩) hHeld ?_ ?_; rotate_left
         · rintro w' ⟨s0, s1, s2, s3, s4, s5, s6, s7⟩
           go_simp
           with_reducible rfl
         rotate_left
         · exact APq
         refine take_ (i := 5) (N := some 76) (v := ?_) (a' := ?_) #[true, true, false, false, true, true, false, false, false, false, false, false, false] rfl rfl (take_ofW HT_.out HW_.out (by kernel_rfl)) (fun _ _ _ h => h) (Or.inl ⟨by rfl, ?_⟩) hHeld ?_ ?_; rotate_left
         · rintro w' ⟨s0, s1, s2, s3, s4, s5, s6, s7⟩
           go_simp
           with_reducible rfl
         rotate_left
         · exact APq
         refine one_ (i := 2) (N := some 73) #[true, true, true, false, true, true, false, false, false, false, false, false, false] rfl rfl (one_of HT_.out (by kernel_rfl)) (by decide) (fun K hK => ?_); refine goes_ Try.func27 (by kernel_rfl) rfl #[.int .u64 t329] (by rfl) rfl rfl LMq ?_
         with_reducible refine (r2_Of.calls kj46 t329 t342 _ A62.out).mono ?_
         rintro e w74 ⟨v343, rfl, ho0, hb⟩; refine ⟨_, rfl, ?_⟩; have HO344 := Aside0.mk (Kd.V_lower (Kd.V_mono (ok' := fun k_ => k_ ≠ gb334 ∧ k_ ≠ gb335) ho0 (fun k_ hk_ => ⟨(Kd.freshB BK334.out k_ hk_), (Kd.freshB BK335.out k_ hk_)⟩)) (below_size HB.out)); replace BK334 := Aside0.mk (blk_below BK334.out hb); replace BK335 := Aside0.mk (blk_below BK335.out hb); replace HB := Aside0.mk (below_step HB.out hb)
         (try clear hb)
         (try clear hb2)
         (try clear hk)
         (try clear hi)
         (try clear ho0)
         obtain ⟨Ao75, co75, eo75⟩ := Kd.V_slice HO344.out
         (first | subst eo75 | (injection eo75 with f1_ f2_ f3_; have f4_ := f1_.symm; have f5_ := f3_.symm; clear f1_ f2_ f3_; subst f4_; subst f5_))
         refine hK.out _ _ ⟨bc BK334 0, bc BK334 1, bc BK334 2, bc BK334 3, bc BK335 0, bc BK335 1, bc BK335 2, bc BK335 3⟩ (fun hHeld => ?_); clear hK K; refine norm_ (a' := ?_) ?_ ?_; rotate_left
         · show Act.put _ (some 73) _ = _
           exact APq
         refine one_ (i := 3) (N := some 74) #[true, true, true, true, true, true, false, false, false, false, false, false, false] rfl rfl (one_of HT_.out (by kernel_rfl)) (by decide) (fun K hK => ?_); refine goes_ Try.func26 (by kernel_rfl) rfl #[.slice Ao75 t342.length co75, .int .i64 120] (by rfl) rfl rfl LMq ?_
         with_reducible refine (r2_Shl.calls kj46 _ _ t342 120 t345 _ ?side1 ?side2 A63.out).mono ?_
         (case side1 => exact kC (Kd.V_reads' HO344.out).2.2)
         (case side2 => exact (Kd.V_reads' HO344.out).2.1)
         rintro e w76 ⟨v346, rfl, ho0, hb⟩; refine ⟨_, rfl, ?_⟩; replace HO344 := Aside0.mk (Kd.V_below (kV HO344) hb); have HO347 := Aside0.mk (Kd.V_lower (Kd.V_mono (ok' := fun k_ => k_ ≠ gb334 ∧ k_ ≠ gb335) ho0 (fun k_ hk_ => ⟨(Kd.freshB BK334.out k_ hk_), (Kd.freshB BK335.out k_ hk_)⟩)) (below_size HB.out)); replace BK334 := Aside0.mk (blk_below BK334.out hb); replace BK335 := Aside0.mk (blk_below BK335.out hb); replace HB := Aside0.mk (below_step HB.out hb)
         (try clear hb)
         (try clear hb2)
         (try clear hk)
         (try clear hi)
         (try clear ho0)
         refine hK.out _ _ ⟨bc BK334 0, bc BK334 1, bc BK334 2, bc BK334 3, bc BK335 0, bc BK335 1, bc BK335 2, bc BK335 3⟩ (fun hHeld => ?_); clear hK K; refine norm_ (a' := ?_) ?_ ?_; rotate_left
         · show Act.put _ (some 74) _ = _
           exact APq
         refine one_ (i := 6) (N := some 77) #[true, true, true, true, true, true, true, false, false, false, false, false, false] rfl rfl (one_of HT_.out (by kernel_rfl)) (by decide) (fun K hK => ?_); refine goes_ Try.func27 (by kernel_rfl) rfl #[.int .u64 t333] (by rfl) rfl rfl LMq ?_
         with_reducible refine (r2_Of.calls kj46 t333 t348 _ A64.out).mono ?_
         rintro e w77 ⟨v349, rfl, ho0, hb⟩; refine ⟨_, rfl, ?_⟩; replace HO344 := Aside0.mk (Kd.V_below (kV HO344) hb); replace HO347 := Aside0.mk (Kd.V_below (kV HO347) hb); have HO350 := Aside0.mk (Kd.V_lower (Kd.V_mono (ok' := fun k_ => k_ ≠ gb334 ∧ k_ ≠ gb335) ho0 (fun k_ hk_ => ⟨(Kd.freshB BK334.out k_ hk_), (Kd.freshB BK335.out k_ hk_)⟩)) (below_size HB.out)); replace BK334 := Aside0.mk (blk_below BK334.out hb); replace BK335 := Aside0.mk (blk_below BK335.out hb); replace HB := Aside0.mk (below_step HB.out hb)
         (try clear hb)
         (try clear hb2)
         (try clear hk)
         (try clear hi)
         (try clear ho0)
         obtain ⟨Ao78, co78, eo78⟩ := Kd.V_slice HO347.out
         (first | subst eo78 | (injection eo78 with f1_ f2_ f3_; have f4_ := f1_.symm; have f5_ := f3_.symm; clear f1_ f2_ f3_; subst f4_; subst f5_))
         obtain ⟨Ao79, co79, eo79⟩ := Kd.V_slice HO350.out
         (first | subst eo79 | (injection eo79 with f1_ f2_ f3_; have f4_ := f1_.symm; have f5_ := f3_.symm; clear f1_ f2_ f3_; subst f4_; subst f5_))
         refine hK.out _ _ ⟨bc BK334 0, bc BK334 1, bc BK334 2, bc BK334 3, bc BK335 0, bc BK335 1, bc BK335 2, bc BK335 3⟩ (fun hHeld => ?_); clear hK K; refine norm_ (a' := ?_) ?_ ?_; rotate_left
         · show Act.put _ (some 77) _ = _
           exact APq
         refine one_ (i := 7) (N := some 78) #[true, true, true, true, true, true, true, true, false, false, false, false, false] rfl rfl (one_of HT_.out (by kernel_rfl)) (by decide) (fun K hK => ?_); refine goes_ Try.func25 (by kernel_rfl) rfl #[.slice Ao78 t345.length co78, .slice Ao79 t348.length co79] (by rfl) rfl rfl LMq ?_
         with_reducible refine (r2_Parts.calls kj46 _ _ t345 _ _ t348 t351 t354 _ ?side1 ?side2 ?side3 ?side4 A65.out).mono ?_
         (case side1 => exact kC (Kd.V_reads' HO347.out).2.2)
         (case side2 => exact (Kd.V_reads' HO347.out).2.1)
         (case side3 => exact kC (Kd.V_reads' HO350.out).2.2)
         (case side4 => exact (Kd.V_reads' HO350.out).2.1)
         rintro e w80 ⟨v352, v355, rfl, ho0, ho1, hb⟩; refine ⟨_, rfl, ?_⟩; replace HO344 := Aside0.mk (Kd.V_below (kV HO344) hb); replace HO347 := Aside0.mk (Kd.V_below (kV HO347) hb); replace HO350 := Aside0.mk (Kd.V_below (kV HO350) hb); have HO353 := Aside0.mk (Kd.V_lower (Kd.V_mono (ok' := fun k_ => k_ ≠ gb334 ∧ k_ ≠ gb335) ho0 (fun k_ hk_ => ⟨(Kd.freshB BK334.out k_ hk_), (Kd.freshB BK335.out k_ hk_)⟩)) (below_size HB.out)); have HO356 := Aside0.mk (Kd.V_lower (Kd.V_mono (ok' := fun k_ => k_ ≠ gb334 ∧ k_ ≠ gb335) ho1 (fun k_ hk_ => ⟨(Kd.freshB BK334.out k_ hk_), (Kd.freshB BK335.out k_ hk_)⟩)) (below_size HB.out)); replace BK334 := Aside0.mk (blk_below BK334.out hb); replace BK335 := Aside0.mk (blk_below BK335.out hb); replace HB := Aside0.mk (below_step HB.out hb)
         (try clear hb)
         (try clear hb2)
         (try clear hk)
         (try clear hi)
         (try clear ho0)
         (try clear ho1)
         refine hK.out _ _ ⟨bc BK334 0, bc BK334 1, bc BK334 2, bc BK334 3, bc BK335 0, bc BK335 1, bc BK335 2, bc BK335 3⟩ (fun hHeld => ?_); clear hK K; refine norm_ (a' := ?_) ?_ ?_; rotate_left
         · show Act.put _ (some 78) _ = _
           exact APq
         refine pure_ (i := 8) (N := some 70) (v := ?_) (a' := ?_) #[true, true, true, true, true, true, true, true, true, false, false, false, false] rfl rfl (any_of HT_.out (by kernel_rfl)) (fun _ _ _ h => h) (Or.inl ⟨by rfl, ?_⟩) ?_ ?_; rotate_left
         · intro w'
           go_simp
           with_reducible rfl
         rotate_left
         · exact APq
         refine pure_ (i := 9) (N := some 79) (v := ?_) (a' := ?_) #[true, true, true, true, true, true, true, true, true, true, false, false, false] rfl rfl (any_of HT_.out (by kernel_rfl)) (fun _ _ _ h => h) (Or.inl ⟨by rfl, ?_⟩) ?_ ?_; rotate_left
         · intro w'
           go_simp
           with_reducible rfl
         rotate_left
         · exact APq
         refine pure_ (i := 10) (N := some 80) (v := ?_) (a' := ?_) #[true, true, true, true, true, true, true, true, true, true, true, false, false] rfl rfl (any_of HT_.out (by kernel_rfl)) (fun _ _ _ h => h) (Or.inl ⟨by rfl, ?_⟩) ?_ ?_; rotate_left
         · intro w'
           go_simp
           with_reducible rfl
         rotate_left
         · exact APq
         refine pure_ (i := 11) (N := some 11) (v := ?_) (a' := ?_) #[true, true, true, true, true, true, true, true, true, true, true, true, false] rfl rfl (any_of HT_.out (by kernel_rfl)) (fun _ _ _ h => h) (Or.inl ⟨by rfl, ?_⟩) ?_ ?_; rotate_left
         · intro w'
           go_simp
           with_reducible rfl
         rotate_left
         · exact APq
         refine pure_ (i := 12) (N := some 12) (v := ?_) (a' := ?_) #[true, true, true, true, true, true, true, true, true, true, true, true, true] rfl rfl (any_of HT_.out (by kernel_rfl)) (fun _ _ _ h => h) (Or.inl ⟨by rfl, ?_⟩) ?_ ?_; rotate_left
         · intro w'
           go_simp
           with_reducible rfl
         rotate_left
         · exact APq
         refine done_ (done_of HT_.out (by kernel_rfl)) ?_; obtain ⟨Ao81, co81, eo81⟩ := Kd.V_slice HO353.out; subst eo81
         try go_wp2
         replace HO344 := Aside0.mk (Kd.V_drew HO344.out); replace HO347 := Aside0.mk (Kd.V_drew HO347.out); replace HO350 := Aside0.mk (Kd.V_drew HO350.out); replace HO353 := Aside0.mk (Kd.V_drew HO353.out); replace HO356 := Aside0.mk (Kd.V_drew HO356.out); replace BK334 := Aside0.mk (blk_drew BK334.out); replace BK335 := Aside0.mk (blk_drew BK335.out); replace HB := Aside0.mk (below_drew1 HB.out); refine start_ (n := 12) (S := fun w' => w'.cell? ⟨gb334, 0, none⟩ = some (.bool t326) ∧ w'.cell? ⟨gb334, 1, none⟩ = some (.int .i64 t327) ∧ w'.cell? ⟨gb334, 2, none⟩ = some (.int .i64 t328) ∧ w'.cell? ⟨gb334, 3, none⟩ = some (.int .u64 t329) ∧ w'.cell? ⟨gb335, 0, none⟩ = some (.bool t330) ∧ w'.cell? ⟨gb335, 1, none⟩ = some (.int .i64 t331) ∧ w'.cell? ⟨gb335, 2, none⟩ = some (.int .i64 t332) ∧ w'.cell? ⟨gb335, 3, none⟩ = some (.int .u64 t333)) (ds := []) #[false, false, false, false, false, false, false, false, false, false, false, false] (by kernel_rfl) rfl rfl ⟨bc BK334 0, bc BK334 1, bc BK334 2, bc BK334 3, bc BK335 0, bc BK335 1, bc BK335 2, bc BK335 3⟩ (fun hHeld => ?_); refine with_tabW r7_Div.tab14 r7_Div.bits14 (fun HT_ HW_ => ?_)
         generalize w80.drew = w82 at HO344 HO347 HO350 HO353 HO356 BK334 BK335 HB hHeld ⊢
         refine pure_ (i := 0) (N := some 81) (v := ?_) (a' := ?_) #[true, false, false, false, false, false, false, false, false, false, false, false] rfl rfl (any_of HT_.out (by kernel_rfl)) (fun _ _ _ h => h) (Or.inl ⟨by rfl, ?_⟩) ?_ ?_; rotate_left
         · intro w'
           go_simp
           with_reducible rfl
         rotate_left
         · exact APq
         refine pure_ (i := 1) (N := some 82) (v := ?_) (a' := ?_) #[true, true, false, false, false, false, false, false, false, false, false, false] rfl rfl (any_of HT_.out (by kernel_rfl)) (fun _ _ _ h => h) (Or.inl ⟨by rfl, ?_⟩) ?_ ?_; rotate_left
         · intro w'
           go_simp
           with_reducible rfl
         rotate_left
         · exact APq
         refine pure_ (i := 3) (N := some 84) (v := ?_) (a' := ?_) #[true, true, false, true, false, false, false, false, false, false, false, false] rfl rfl (any_of HT_.out (by kernel_rfl)) (fun _ _ _ h => h) (Or.inl ⟨by rfl, ?_⟩) ?_ ?_; rotate_left
         · intro w'
           go_simp
           with_reducible rfl
         rotate_left
         · exact APq
         refine pure_ (i := 7) (N := some 88) (v := ?_) (a' := ?_) #[true, true, false, true, false, false, false, true, false, false, false, false] rfl rfl (any_of HT_.out (by kernel_rfl)) (fun _ _ _ h => h) (Or.inl ⟨by rfl, ?_⟩) ?_ ?_; rotate_left
         · intro w'
           go_simp
           with_reducible rfl
         rotate_left
         · exact APq
         refine take_ (i := 2) (N := some 83) (v := ?_) (a' := ?_) #[true, true, true, true, false, false, false, true, false, false, false, false] rfl rfl (take_ofW HT_.out HW_.out (by kernel_rfl)) (fun _ _ _ h => h) (Or.inl ⟨by rfl, ?_⟩) hHeld ?_ ?_; rotate_left
         · rintro w' ⟨s0, s1, s2, s3, s4, s5, s6, s7⟩
           go_simp
           with_reducible rfl
         rotate_left
         · exact APq
         refine take_ (i := 4) (N := some 85) (v := ?_) (a' := ?_) #[true, true, true, true, true, false, false, true, false, false, false, false] rfl rfl (take_ofW HT_.out HW_.out (by kernel_rfl)) (fun _ _ _ h => h) (Or.inl ⟨by rfl, ?_⟩) hHeld ?_ ?_; rotate_left
         · rintro w' ⟨s0, s1, s2, s3, s4, s5, s6, s7⟩
           go_simp
           with_reducible rfl
         rotate_left
         · exact APq
         refine pure_ (i := 5) (N := some 86) (v := ?_) (a' := ?_) #[true, true, true, true, true, true, false, true, false, false, false, false] rfl rfl (any_of HT_.out (by kernel_rfl)) (fun _ _ _ h => h) (Or.inl ⟨by rfl, ?_⟩) ?_ ?_; rotate_left
         · intro w'
           go_simp
           with_reducible rfl
         rotate_left
         · exact APq
         refine pure_ (i := 6) (N := some 87) (v := ?_) (a' := ?_) #[true, true, true, true, true, true, true, true, false, false, false, false] rfl rfl (any_of HT_.out (by kernel_rfl)) (fun _ _ _ h => h) (Or.inl ⟨by rfl, ?_⟩) ?_ ?_; rotate_left
         · intro w'
           go_simp
           with_reducible rfl
         rotate_left
         · exact APq
         refine join_ (σ := Value × Nat) 1 #[true, true, true, true, true, true, true, true, true, true, true, false] (fun s_ => [(89, s_.1), (13, .pointer (some ⟨s_.2, 0, none⟩)), (90, .agg #[.bool (t326 != t330), .int .i64 (wrap64 ((wrap64 (t328 - t332)) - 121)), s_.1])]) (fun s_ w' => (w'.cell? ⟨gb334, 0, none⟩ = some (.bool t326) ∧ w'.cell? ⟨gb334, 1, none⟩ = some (.int .i64 t327) ∧ w'.cell? ⟨gb334, 2, none⟩ = some (.int .i64 t328) ∧ w'.cell? ⟨gb334, 3, none⟩ = some (.int .u64 t329) ∧ w'.cell? ⟨gb335, 0, none⟩ = some (.bool t330) ∧ w'.cell? ⟨gb335, 1, none⟩ = some (.int .i64 t331) ∧ w'.cell? ⟨gb335, 2, none⟩ = some (.int .i64 t332) ∧ w'.cell? ⟨gb335, 3, none⟩ = some (.int .u64 t333)) ∧ (Kd.V (Kd.int .u32) 86 w' w.heap.size (fun k_ => k_ ≠ gb334 ∧ k_ ≠ gb335 ∧ k_ ≠ s_.2) (.slice Ao75 t342.length co75) t342) ∧ (Kd.V (Kd.int .u32) 86 w' w.heap.size (fun k_ => k_ ≠ gb334 ∧ k_ ≠ gb335 ∧ k_ ≠ s_.2) (.slice Ao78 t345.length co78) t345) ∧ (Kd.V (Kd.int .u32) 86 w' w.heap.size (fun k_ => k_ ≠ gb334 ∧ k_ ≠ gb335 ∧ k_ ≠ s_.2) (.slice Ao79 t348.length co79) t348) ∧ (Kd.V (Kd.int .u32) 86 w' w.heap.size (fun k_ => k_ ≠ gb334 ∧ k_ ≠ gb335 ∧ k_ ≠ s_.2) (.slice Ao81 t351.length co81) t351) ∧ (Kd.V (Kd.int .u32) 86 w' w.heap.size (fun k_ => k_ ≠ gb334 ∧ k_ ≠ gb335 ∧ k_ ≠ s_.2) v355 t354) ∧ (Kd.V (Kd.int .u32) 86 w' w.heap.size (fun k_ => k_ ≠ gb334 ∧ k_ ≠ gb335 ∧ k_ ≠ s_.2) s_.1 t357) ∧ (w'.heap[gb334]? = some (.cells #[.bool t326, .int .i64 t327, .int .i64 t328, .int .u64 t329] 51 (0, 0))) ∧ (w'.heap[gb335]? = some (.cells #[.bool t330, .int .i64 t331, .int .i64 t332, .int .u64 t333] 51 (0, 0))) ∧ (w'.heap[s_.2]? = some (.cells #[.bool false, .int .i64 0, .slice none 0 0] 62 (0, 0))) ∧ (w.heap.size ≤ s_.2) ∧ (w.heap.size ≤ s_.2) ∧ (gb334 ≠ s_.2) ∧ (s_.2 ≠ gb334) ∧ (gb335 ≠ s_.2) ∧ (s_.2 ≠ gb335) ∧ (Below w.heap.size w w')) ?_ ?_; rotate_left
         · intro hCont
           refine two_ (i := 8) (j := 10) (Ni := some 89) (Nj := some 13) #[true, true, true, true, true, true, true, true, true, false, false, false] #[true, true, true, true, true, true, true, true, false, false, true, false] rfl rfl rfl rfl (two_of HT_.out (by kernel_rfl)) (by decide) (by decide) (fun K hK => ?_) (fun K hK => ?_)
           · skip
             refine goes_ Try.func26 (by kernel_rfl) rfl #[.slice Ao81 t351.length co81, .int .i64 1] (by rfl) rfl rfl LMq ?_
             with_reducible refine (r2_Shl.calls kj46 _ _ t351 1 t357 _ ?side1 ?side2 A66.out).mono ?_
             (case side1 => exact kC (Kd.V_reads' HO353.out).2.2)
             (case side2 => exact (Kd.V_reads' HO353.out).2.1)
             rintro e w83 ⟨v358, rfl, ho0, hb⟩; refine ⟨_, rfl, ?_⟩; replace HO344 := Aside0.mk (Kd.V_below (kV HO344) hb); replace HO347 := Aside0.mk (Kd.V_below (kV HO347) hb); replace HO350 := Aside0.mk (Kd.V_below (kV HO350) hb); replace HO353 := Aside0.mk (Kd.V_below (kV HO353) hb); replace HO356 := Aside0.mk (Kd.V_below (kV HO356) hb); have HO359 := Aside0.mk (Kd.V_lower (Kd.V_mono (ok' := fun k_ => k_ ≠ gb334 ∧ k_ ≠ gb335) ho0 (fun k_ hk_ => ⟨(Kd.freshB BK334.out k_ hk_), (Kd.freshB BK335.out k_ hk_)⟩)) (below_size HB.out)); replace BK334 := Aside0.mk (blk_below BK334.out hb); replace BK335 := Aside0.mk (blk_below BK335.out hb); replace HB := Aside0.mk (below_step HB.out hb)
             (try clear hb)
             (try clear hb2)
             (try clear hk)
             (try clear hi)
             (try clear ho0)
             obtain ⟨Ao84, co84, eo84⟩ := Kd.V_slice HO359.out
             (first | subst eo84 | (injection eo84 with f1_ f2_ f3_; have f4_ := f1_.symm; have f5_ := f3_.symm; clear f1_ f2_ f3_; subst f4_; subst f5_))
             refine hK.out _ _ ⟨bc BK334 0, bc BK334 1, bc BK334 2, bc BK334 3, bc BK335 0, bc BK335 1, bc BK335 2, bc BK335 3⟩ (fun hHeld => ?_); clear hK K; refine norm_ (a' := ?_) ?_ ?_; rotate_left
             · show Act.put _ (some 89) _ = _
               exact APq
             refine pure_ (i := 9) (N := some 90) (v := ?_) (a' := ?_) #[true, true, true, true, true, true, true, true, true, true, false, false] rfl rfl (any_of HT_.out (by kernel_rfl)) (fun _ _ _ h => h) (Or.inl ⟨by rfl, ?_⟩) ?_ ?_; rotate_left
             · intro w'
               go_simp
               with_reducible rfl
             rotate_left
             · exact APq
             refine one_ (i := 10) (N := some 13) #[true, true, true, true, true, true, true, true, true, true, true, false] rfl rfl (one_of HT_.out (by kernel_rfl)) (by decide) (fun K hK => ?_)
             refine box_step ?hg (N := 13) ?hd (cs := #[.bool false, .int .i64 0, .slice none 0 0]) (t := 62) ?hr ?_; (case hd => rfl); (case hg => rfl); (case hr => first | (go_simp; done) | (go_simp; rfl))
             intro gb360 hg w85 hbox hb; replace HO344 := Aside0.mk (Kd.V_below (Kd.V_elderB (kV HO344) gb360 (Nat.le_of_eq hg.symm)) hb); replace HO347 := Aside0.mk (Kd.V_below (Kd.V_elderB (kV HO347) gb360 (Nat.le_of_eq hg.symm)) hb); replace HO350 := Aside0.mk (Kd.V_below (Kd.V_elderB (kV HO350) gb360 (Nat.le_of_eq hg.symm)) hb); replace HO353 := Aside0.mk (Kd.V_below (Kd.V_elderB (kV HO353) gb360 (Nat.le_of_eq hg.symm)) hb); replace HO356 := Aside0.mk (Kd.V_below (Kd.V_elderB (kV HO356) gb360 (Nat.le_of_eq hg.symm)) hb); replace HO359 := Aside0.mk (Kd.V_below (Kd.V_elderB (kV HO359) gb360 (Nat.le_of_eq hg.symm)) hb); have BK360 := Aside0.mk (hbox); have GW360 := gsz hg HB; have GE360 := gsz hg HB; replace HB := Aside0.mk (below_step HB.out hb); have NB334_360 := gne hg BK334; have NB360_334 := gen hg BK334; replace BK334 := Aside0.mk (blk_below BK334.out hb); have NB335_360 := gne hg BK335; have NB360_335 := gen hg BK335; replace BK335 := Aside0.mk (blk_below BK335.out hb); clear hb hbox hg; refine hK.out _ _ ⟨bc BK334 0, bc BK334 1, bc BK334 2, bc BK334 3, bc BK335 0, bc BK335 1, bc BK335 2, bc BK335 3⟩ (fun hHeld => ?_); clear hK K; refine norm_ (a' := ?_) ?_ ?_; rotate_left
             · show Act.put _ (some 13) _ = _
               exact APq
             exact norm_ PAq (hCont (.slice Ao84 t357.length co84, gb360) _ ⟨hHeld, (by (with_reducible repeat (first | apply Kd.V_alloc | apply Kd.V_drewN | apply Kd.V_drew)); exact Kd.V_mono HO344.out (fun _ hk => ⟨hk.1.1, ⟨hk.1.2, hk.2⟩⟩)), (by (with_reducible repeat (first | apply Kd.V_alloc | apply Kd.V_drewN | apply Kd.V_drew)); exact Kd.V_mono HO347.out (fun _ hk => ⟨hk.1.1, ⟨hk.1.2, hk.2⟩⟩)), (by (with_reducible repeat (first | apply Kd.V_alloc | apply Kd.V_drewN | apply Kd.V_drew)); exact Kd.V_mono HO350.out (fun _ hk => ⟨hk.1.1, ⟨hk.1.2, hk.2⟩⟩)), (by (with_reducible repeat (first | apply Kd.V_alloc | apply Kd.V_drewN | apply Kd.V_drew)); exact Kd.V_mono HO353.out (fun _ hk => ⟨hk.1.1, ⟨hk.1.2, hk.2⟩⟩)), (by (with_reducible repeat (first | apply Kd.V_alloc | apply Kd.V_drewN | apply Kd.V_drew)); exact Kd.V_mono HO356.out (fun _ hk => ⟨hk.1.1, ⟨hk.1.2, hk.2⟩⟩)), (by (with_reducible repeat (first | apply Kd.V_alloc | apply Kd.V_drewN | apply Kd.V_drew)); exact Kd.V_mono HO359.out (fun _ hk => ⟨hk.1.1, ⟨hk.1.2, hk.2⟩⟩)), BK334.out, BK335.out, BK360.out, GW360.out, GE360.out, NB334_360.out, NB360_334.out, NB335_360.out, NB360_335.out, HB.out⟩)
           skip
           refine box_step ?hg (N := 13) ?hd (cs := #[.bool false, .int .i64 0, .slice none 0 0]) (t := 62) ?hr ?_; (case hd => rfl); (case hg => rfl); (case hr => first | (go_simp; done) | (go_simp; rfl))
           intro gb360 hg w83 hbox hb; replace HO344 := Aside0.mk (Kd.V_below (Kd.V_elderB (kV HO344) gb360 (Nat.le_of_eq hg.symm)) hb); replace HO347 := Aside0.mk (Kd.V_below (Kd.V_elderB (kV HO347) gb360 (Nat.le_of_eq hg.symm)) hb); replace HO350 := Aside0.mk (Kd.V_below (Kd.V_elderB (kV HO350) gb360 (Nat.le_of_eq hg.symm)) hb); replace HO353 := Aside0.mk (Kd.V_below (Kd.V_elderB (kV HO353) gb360 (Nat.le_of_eq hg.symm)) hb); replace HO356 := Aside0.mk (Kd.V_below (Kd.V_elderB (kV HO356) gb360 (Nat.le_of_eq hg.symm)) hb); have BK360 := Aside0.mk (hbox); have GW360 := gsz hg HB; have GE360 := gsz hg HB; replace HB := Aside0.mk (below_step HB.out hb); have NB334_360 := gne hg BK334; have NB360_334 := gen hg BK334; replace BK334 := Aside0.mk (blk_below BK334.out hb); have NB335_360 := gne hg BK335; have NB360_335 := gen hg BK335; replace BK335 := Aside0.mk (blk_below BK335.out hb); clear hb hbox hg; refine hK.out _ _ ⟨bc BK334 0, bc BK334 1, bc BK334 2, bc BK334 3, bc BK335 0, bc BK335 1, bc BK335 2, bc BK335 3⟩ (fun hHeld => ?_); clear hK K; refine norm_ (a' := ?_) ?_ ?_; rotate_left
           · show Act.put _ (some 13) _ = _
             exact APq
           refine one_ (i := 8) (N := some 89) #[true, true, true, true, true, true, true, true, true, false, true, false] rfl rfl (one_of HT_.out (by kernel_rfl)) (by decide) (fun K hK => ?_); refine goes_ Try.func26 (by kernel_rfl) rfl #[.slice Ao81 t351.length co81, .int .i64 1] (by rfl) rfl rfl LMq ?_
           with_reducible refine (r2_Shl.calls kj46 _ _ t351 1 t357 _ ?side1 ?side2 A66.out).mono ?_
           (case side1 => exact kC (Kd.V_reads' HO353.out).2.2)
           (case side2 => exact (Kd.V_reads' HO353.out).2.1)
           rintro e w84 ⟨v358, rfl, ho0, hb⟩; refine ⟨_, rfl, ?_⟩; replace HO344 := Aside0.mk (Kd.V_below (kV HO344) hb); replace HO347 := Aside0.mk (Kd.V_below (kV HO347) hb); replace HO350 := Aside0.mk (Kd.V_below (kV HO350) hb); replace HO353 := Aside0.mk (Kd.V_below (kV HO353) hb); replace HO356 := Aside0.mk (Kd.V_below (kV HO356) hb); have HO359 := Aside0.mk (Kd.V_lower (Kd.V_mono (ok' := fun k_ => k_ ≠ gb334 ∧ k_ ≠ gb335 ∧ k_ ≠ gb360) ho0 (fun k_ hk_ => ⟨(Kd.freshB BK334.out k_ hk_), (Kd.freshB BK335.out k_ hk_), (Kd.freshB BK360.out k_ hk_)⟩)) (below_size HB.out)); replace BK334 := Aside0.mk (blk_below BK334.out hb); replace BK335 := Aside0.mk (blk_below BK335.out hb); replace BK360 := Aside0.mk (blk_below BK360.out hb); replace HB := Aside0.mk (below_step HB.out hb)
           (try clear hb)
           (try clear hb2)
           (try clear hk)
           (try clear hi)
           (try clear ho0)
           obtain ⟨Ao85, co85, eo85⟩ := Kd.V_slice HO359.out
           (first | subst eo85 | (injection eo85 with f1_ f2_ f3_; have f4_ := f1_.symm; have f5_ := f3_.symm; clear f1_ f2_ f3_; subst f4_; subst f5_))
           refine hK.out _ _ ⟨bc BK334 0, bc BK334 1, bc BK334 2, bc BK334 3, bc BK335 0, bc BK335 1, bc BK335 2, bc BK335 3⟩ (fun hHeld => ?_); clear hK K; refine norm_ (a' := ?_) ?_ ?_; rotate_left
           · show Act.put _ (some 89) _ = _
             exact APq
           refine pure_ (i := 9) (N := some 90) (v := ?_) (a' := ?_) #[true, true, true, true, true, true, true, true, true, true, true, false] rfl rfl (any_of HT_.out (by kernel_rfl)) (fun _ _ _ h => h) (Or.inl ⟨by rfl, ?_⟩) ?_ ?_; rotate_left
           · intro w'
             go_simp
             with_reducible rfl
           rotate_left
           · exact APq
           exact norm_ PAq (hCont (.slice Ao85 t357.length co85, gb360) _ ⟨hHeld, (by (with_reducible repeat (first | apply Kd.V_alloc | apply Kd.V_drewN | apply Kd.V_drew)); exact Kd.V_mono HO344.out (fun _ hk => ⟨hk.1.1, ⟨hk.1.2, hk.2⟩⟩)), (by (with_reducible repeat (first | apply Kd.V_alloc | apply Kd.V_drewN | apply Kd.V_drew)); exact Kd.V_mono HO347.out (fun _ hk => ⟨hk.1.1, ⟨hk.1.2, hk.2⟩⟩)), (by (with_reducible repeat (first | apply Kd.V_alloc | apply Kd.V_drewN | apply Kd.V_drew)); exact Kd.V_mono HO350.out (fun _ hk => ⟨hk.1.1, ⟨hk.1.2, hk.2⟩⟩)), (by (with_reducible repeat (first | apply Kd.V_alloc | apply Kd.V_drewN | apply Kd.V_drew)); exact Kd.V_mono HO353.out (fun _ hk => ⟨hk.1.1, ⟨hk.1.2, hk.2⟩⟩)), (by (with_reducible repeat (first | apply Kd.V_alloc | apply Kd.V_drewN | apply Kd.V_drew)); exact Kd.V_mono HO356.out (fun _ hk => ⟨hk.1.1, ⟨hk.1.2, hk.2⟩⟩)), (kV HO359), BK334.out, BK335.out, BK360.out, GW360.out, GE360.out, NB334_360.out, NB360_334.out, NB335_360.out, NB360_335.out, HB.out⟩)
         rintro ⟨v358, gb360⟩ w86 ⟨hS_, h0_, h1_, h2_, h3_, h4_, h5_, h6_, h7_, h8_, h9_, h10_, h11_, h12_, h13_, h14_, h15_⟩; replace HO344 : Aside0 (Kd.V (Kd.int .u32) 86 w86 w.heap.size (fun k_ => k_ ≠ gb334 ∧ k_ ≠ gb335 ∧ k_ ≠ gb360) (.slice Ao75 t342.length co75) t342) := ⟨h0_⟩; replace HO347 : Aside0 (Kd.V (Kd.int .u32) 86 w86 w.heap.size (fun k_ => k_ ≠ gb334 ∧ k_ ≠ gb335 ∧ k_ ≠ gb360) (.slice Ao78 t345.length co78) t345) := ⟨h1_⟩; replace HO350 : Aside0 (Kd.V (Kd.int .u32) 86 w86 w.heap.size (fun k_ => k_ ≠ gb334 ∧ k_ ≠ gb335 ∧ k_ ≠ gb360) (.slice Ao79 t348.length co79) t348) := ⟨h2_⟩; replace HO353 : Aside0 (Kd.V (Kd.int .u32) 86 w86 w.heap.size (fun k_ => k_ ≠ gb334 ∧ k_ ≠ gb335 ∧ k_ ≠ gb360) (.slice Ao81 t351.length co81) t351) := ⟨h3_⟩; replace HO356 : Aside0 (Kd.V (Kd.int .u32) 86 w86 w.heap.size (fun k_ => k_ ≠ gb334 ∧ k_ ≠ gb335 ∧ k_ ≠ gb360) v355 t354) := ⟨h4_⟩; have HO359 : Aside0 (Kd.V (Kd.int .u32) 86 w86 w.heap.size (fun k_ => k_ ≠ gb334 ∧ k_ ≠ gb335 ∧ k_ ≠ gb360) v358 t357) := ⟨h5_⟩; replace BK334 : Aside0 (w86.heap[gb334]? = some (.cells #[.bool t326, .int .i64 t327, .int .i64 t328, .int .u64 t329] 51 (0, 0))) := ⟨h6_⟩; replace BK335 : Aside0 (w86.heap[gb335]? = some (.cells #[.bool t330, .int .i64 t331, .int .i64 t332, .int .u64 t333] 51 (0, 0))) := ⟨h7_⟩; have BK360 : Aside0 (w86.heap[gb360]? = some (.cells #[.bool false, .int .i64 0, .slice none 0 0] 62 (0, 0))) := ⟨h8_⟩; have GW360 : Aside0 (w.heap.size ≤ gb360) := ⟨h9_⟩; have GE360 : Aside0 (w.heap.size ≤ gb360) := ⟨h10_⟩; have NB334_360 : Aside0 (gb334 ≠ gb360) := ⟨h11_⟩; have NB360_334 : Aside0 (gb360 ≠ gb334) := ⟨h12_⟩; have NB335_360 : Aside0 (gb335 ≠ gb360) := ⟨h13_⟩; have NB360_335 : Aside0 (gb360 ≠ gb335) := ⟨h14_⟩; replace HB : Aside0 (Below w.heap.size w w86) := ⟨h15_⟩; clear h0_ h1_ h2_ h3_ h4_ h5_ h6_ h7_ h8_ h9_ h10_ h11_ h12_ h13_ h14_ h15_; have hHeld : w86.cell? ⟨gb334, 0, none⟩ = some (.bool t326) ∧ w86.cell? ⟨gb334, 1, none⟩ = some (.int .i64 t327) ∧ w86.cell? ⟨gb334, 2, none⟩ = some (.int .i64 t328) ∧ w86.cell? ⟨gb334, 3, none⟩ = some (.int .u64 t329) ∧ w86.cell? ⟨gb335, 0, none⟩ = some (.bool t330) ∧ w86.cell? ⟨gb335, 1, none⟩ = some (.int .i64 t331) ∧ w86.cell? ⟨gb335, 2, none⟩ = some (.int .i64 t332) ∧ w86.cell? ⟨gb335, 3, none⟩ = some (.int .u64 t333) := hS_; obtain ⟨Ao87, co87, eo87⟩ := Kd.V_slice HO359.out
         (first | subst eo87 | (injection eo87 with f1_ f2_ f3_; have f4_ := f1_.symm; have f5_ := f3_.symm; clear f1_ f2_ f3_; subst f4_; subst f5_))
         refine norm_ (a' := ?_) ?_ ?_; rotate_left
         · simp only [putAll, Act.put, List.setIfInBounds_toArray, List.set_cons_zero, List.set_cons_succ]
           rfl
         refine one_ (i := 11) (N := none) #[true, true, true, true, true, true, true, true, true, true, true, true] rfl rfl (one_of HT_.out (by kernel_rfl)) (by decide) (fun K hK => ?_); have hs88 : w86.cell? ⟨gb360, 0, none⟩ = some (.bool false) := bc BK360 0; have hfs88 := blk_frozen BK360.out 0; have hns88_0 := NB334_360.out; have hns88_1 := NB335_360.out; have hms88_0 := NB360_334.out; have hms88_1 := NB360_335.out; have hs89 : w86.cell? ⟨gb360, 1, none⟩ = some (.int .i64 0) := bc BK360 1; have hfs89 := blk_frozen BK360.out 1; have hns89_0 := NB334_360.out; have hns89_1 := NB335_360.out; have hms89_0 := NB360_334.out; have hms89_1 := NB360_335.out; have hs90 : w86.cell? ⟨gb360, 2, none⟩ = some (.slice none 0 0) := bc BK360 2; have hfs90 := blk_frozen BK360.out 2; have hns90_0 := NB334_360.out; have hns90_1 := NB335_360.out; have hms90_0 := NB360_334.out; have hms90_1 := NB360_335.out; refine skip_ (w1 := ?_) (by rfl) rfl ?_ ?_; rotate_left
         · go_simp
           rfl
         refine hK.out _ _ ⟨((cell_far (p := ⟨gb360, _, none⟩) NB334_360.out _).trans (((cell_far (p := ⟨gb360, _, none⟩) NB334_360.out _).trans (((cell_far (p := ⟨gb360, _, none⟩) NB334_360.out _).trans (hHeld.1)))))), ((cell_far (p := ⟨gb360, _, none⟩) NB334_360.out _).trans (((cell_far (p := ⟨gb360, _, none⟩) NB334_360.out _).trans (((cell_far (p := ⟨gb360, _, none⟩) NB334_360.out _).trans (hHeld.2.1)))))), ((cell_far (p := ⟨gb360, _, none⟩) NB334_360.out _).trans (((cell_far (p := ⟨gb360, _, none⟩) NB334_360.out _).trans (((cell_far (p := ⟨gb360, _, none⟩) NB334_360.out _).trans (hHeld.2.2.1)))))), ((cell_far (p := ⟨gb360, _, none⟩) NB334_360.out _).trans (((cell_far (p := ⟨gb360, _, none⟩) NB334_360.out _).trans (((cell_far (p := ⟨gb360, _, none⟩) NB334_360.out _).trans (hHeld.2.2.2.1)))))), ((cell_far (p := ⟨gb360, _, none⟩) NB335_360.out _).trans (((cell_far (p := ⟨gb360, _, none⟩) NB335_360.out _).trans (((cell_far (p := ⟨gb360, _, none⟩) NB335_360.out _).trans (hHeld.2.2.2.2.1)))))), ((cell_far (p := ⟨gb360, _, none⟩) NB335_360.out _).trans (((cell_far (p := ⟨gb360, _, none⟩) NB335_360.out _).trans (((cell_far (p := ⟨gb360, _, none⟩) NB335_360.out _).trans (hHeld.2.2.2.2.2.1)))))), ((cell_far (p := ⟨gb360, _, none⟩) NB335_360.out _).trans (((cell_far (p := ⟨gb360, _, none⟩) NB335_360.out _).trans (((cell_far (p := ⟨gb360, _, none⟩) NB335_360.out _).trans (hHeld.2.2.2.2.2.2.1)))))), ((cell_far (p := ⟨gb360, _, none⟩) NB335_360.out _).trans (((cell_far (p := ⟨gb360, _, none⟩) NB335_360.out _).trans (((cell_far (p := ⟨gb360, _, none⟩) NB335_360.out _).trans (hHeld.2.2.2.2.2.2.2))))))⟩ (fun hHeld => ?_); clear hK K; refine done_ (done_of HT_.out (by kernel_rfl)) ?_; obtain ⟨Ao91, co91, eo91⟩ := Kd.V_slice HO356.out; subst eo91
         try go_wp2
         have n0_ : Aside0 (Kd.V (Kd.int .u32) 86 (((w86.setCell ⟨gb360, 0, none⟩ (.bool (t326 != t330))).setCell ⟨gb360, 1, none⟩ (.int .i64 (wrap64 ((wrap64 (t328 - t332)) - 121)))).setCell ⟨gb360, 2, none⟩ (.slice Ao87 t357.length co87)) w.heap.size (fun k_ => k_ ≠ gb334 ∧ k_ ≠ gb335 ∧ k_ ≠ gb360) (.slice Ao75 t342.length co75) t342) := ⟨by (with_reducible repeat (first | apply Kd.V_alloc | apply Kd.V_drewN | apply Kd.V_drew)); exact Kd.V_mono (Kd.V_far (p := ⟨gb360, 2, none⟩) (Kd.V_far (p := ⟨gb360, 1, none⟩) (Kd.V_far (p := ⟨gb360, 0, none⟩) (Kd.V_mono HO344.out (fun k_ hk => (⟨hk, hk.2.2⟩ : _ ∧ k_ ≠ gb360))) (fun _ hk => hk.2) (.bool (t326 != t330))) (fun _ hk => hk.2) (.int .i64 (wrap64 ((wrap64 (t328 - t332)) - 121)))) (fun _ hk => hk.2) (.slice Ao87 t357.length co87)) (fun _ hk => ⟨hk.1.1, ⟨hk.1.2.1, hk.1.2.2⟩⟩)⟩; have n1_ : Aside0 (Kd.V (Kd.int .u32) 86 (((w86.setCell ⟨gb360, 0, none⟩ (.bool (t326 != t330))).setCell ⟨gb360, 1, none⟩ (.int .i64 (wrap64 ((wrap64 (t328 - t332)) - 121)))).setCell ⟨gb360, 2, none⟩ (.slice Ao87 t357.length co87)) w.heap.size (fun k_ => k_ ≠ gb334 ∧ k_ ≠ gb335 ∧ k_ ≠ gb360) (.slice Ao78 t345.length co78) t345) := ⟨by (with_reducible repeat (first | apply Kd.V_alloc | apply Kd.V_drewN | apply Kd.V_drew)); exact Kd.V_mono (Kd.V_far (p := ⟨gb360, 2, none⟩) (Kd.V_far (p := ⟨gb360, 1, none⟩) (Kd.V_far (p := ⟨gb360, 0, none⟩) (Kd.V_mono HO347.out (fun k_ hk => (⟨hk, hk.2.2⟩ : _ ∧ k_ ≠ gb360))) (fun _ hk => hk.2) (.bool (t326 != t330))) (fun _ hk => hk.2) (.int .i64 (wrap64 ((wrap64 (t328 - t332)) - 121)))) (fun _ hk => hk.2) (.slice Ao87 t357.length co87)) (fun _ hk => ⟨hk.1.1, ⟨hk.1.2.1, hk.1.2.2⟩⟩)⟩; have n2_ : Aside0 (Kd.V (Kd.int .u32) 86 (((w86.setCell ⟨gb360, 0, none⟩ (.bool (t326 != t330))).setCell ⟨gb360, 1, none⟩ (.int .i64 (wrap64 ((wrap64 (t328 - t332)) - 121)))).setCell ⟨gb360, 2, none⟩ (.slice Ao87 t357.length co87)) w.heap.size (fun k_ => k_ ≠ gb334 ∧ k_ ≠ gb335 ∧ k_ ≠ gb360) (.slice Ao79 t348.length co79) t348) := ⟨by (with_reducible repeat (first | apply Kd.V_alloc | apply Kd.V_drewN | apply Kd.V_drew)); exact Kd.V_mono (Kd.V_far (p := ⟨gb360, 2, none⟩) (Kd.V_far (p := ⟨gb360, 1, none⟩) (Kd.V_far (p := ⟨gb360, 0, none⟩) (Kd.V_mono HO350.out (fun k_ hk => (⟨hk, hk.2.2⟩ : _ ∧ k_ ≠ gb360))) (fun _ hk => hk.2) (.bool (t326 != t330))) (fun _ hk => hk.2) (.int .i64 (wrap64 ((wrap64 (t328 - t332)) - 121)))) (fun _ hk => hk.2) (.slice Ao87 t357.length co87)) (fun _ hk => ⟨hk.1.1, ⟨hk.1.2.1, hk.1.2.2⟩⟩)⟩; have n3_ : Aside0 (Kd.V (Kd.int .u32) 86 (((w86.setCell ⟨gb360, 0, none⟩ (.bool (t326 != t330))).setCell ⟨gb360, 1, none⟩ (.int .i64 (wrap64 ((wrap64 (t328 - t332)) - 121)))).setCell ⟨gb360, 2, none⟩ (.slice Ao87 t357.length co87)) w.heap.size (fun k_ => k_ ≠ gb334 ∧ k_ ≠ gb335 ∧ k_ ≠ gb360) (.slice Ao81 t351.length co81) t351) := ⟨by (with_reducible repeat (first | apply Kd.V_alloc | apply Kd.V_drewN | apply Kd.V_drew)); exact Kd.V_mono (Kd.V_far (p := ⟨gb360, 2, none⟩) (Kd.V_far (p := ⟨gb360, 1, none⟩) (Kd.V_far (p := ⟨gb360, 0, none⟩) (Kd.V_mono HO353.out (fun k_ hk => (⟨hk, hk.2.2⟩ : _ ∧ k_ ≠ gb360))) (fun _ hk => hk.2) (.bool (t326 != t330))) (fun _ hk => hk.2) (.int .i64 (wrap64 ((wrap64 (t328 - t332)) - 121)))) (fun _ hk => hk.2) (.slice Ao87 t357.length co87)) (fun _ hk => ⟨hk.1.1, ⟨hk.1.2.1, hk.1.2.2⟩⟩)⟩; have n4_ : Aside0 (Kd.V (Kd.int .u32) 86 (((w86.setCell ⟨gb360, 0, none⟩ (.bool (t326 != t330))).setCell ⟨gb360, 1, none⟩ (.int .i64 (wrap64 ((wrap64 (t328 - t332)) - 121)))).setCell ⟨gb360, 2, none⟩ (.slice Ao87 t357.length co87)) w.heap.size (fun k_ => k_ ≠ gb334 ∧ k_ ≠ gb335 ∧ k_ ≠ gb360) (.slice Ao91 t354.length co91) t354) := ⟨by (with_reducible repeat (first | apply Kd.V_alloc | apply Kd.V_drewN | apply Kd.V_drew)); exact Kd.V_mono (Kd.V_far (p := ⟨gb360, 2, none⟩) (Kd.V_far (p := ⟨gb360, 1, none⟩) (Kd.V_far (p := ⟨gb360, 0, none⟩) (Kd.V_mono HO356.out (fun k_ hk => (⟨hk, hk.2.2⟩ : _ ∧ k_ ≠ gb360))) (fun _ hk => hk.2) (.bool (t326 != t330))) (fun _ hk => hk.2) (.int .i64 (wrap64 ((wrap64 (t328 - t332)) - 121)))) (fun _ hk => hk.2) (.slice Ao87 t357.length co87)) (fun _ hk => ⟨hk.1.1, ⟨hk.1.2.1, hk.1.2.2⟩⟩)⟩; have n5_ : Aside0 (Kd.V (Kd.int .u32) 86 (((w86.setCell ⟨gb360, 0, none⟩ (.bool (t326 != t330))).setCell ⟨gb360, 1, none⟩ (.int .i64 (wrap64 ((wrap64 (t328 - t332)) - 121)))).setCell ⟨gb360, 2, none⟩ (.slice Ao87 t357.length co87)) w.heap.size (fun k_ => k_ ≠ gb334 ∧ k_ ≠ gb335 ∧ k_ ≠ gb360) (.slice Ao87 t357.length co87) t357) := ⟨by (with_reducible repeat (first | apply Kd.V_alloc | apply Kd.V_drewN | apply Kd.V_drew)); exact Kd.V_mono (Kd.V_far (p := ⟨gb360, 2, none⟩) (Kd.V_far (p := ⟨gb360, 1, none⟩) (Kd.V_far (p := ⟨gb360, 0, none⟩) (Kd.V_mono HO359.out (fun k_ hk => (⟨hk, hk.2.2⟩ : _ ∧ k_ ≠ gb360))) (fun _ hk => hk.2) (.bool (t326 != t330))) (fun _ hk => hk.2) (.int .i64 (wrap64 ((wrap64 (t328 - t332)) - 121)))) (fun _ hk => hk.2) (.slice Ao87 t357.length co87)) (fun _ hk => ⟨hk.1.1, ⟨hk.1.2.1, hk.1.2.2⟩⟩)⟩; have n6_ : Aside0 ((((w86.setCell ⟨gb360, 0, none⟩ (.bool (t326 != t330))).setCell ⟨gb360, 1, none⟩ (.int .i64 (wrap64 ((wrap64 (t328 - t332)) - 121)))).setCell ⟨gb360, 2, none⟩ (.slice Ao87 t357.length co87)).heap[gb334]? = some (.cells #[.bool t326, .int .i64 t327, .int .i64 t328, .int .u64 t329] 51 (0, 0))) := ⟨by (with_reducible repeat (first | refine blk_drewN ?_ _ | refine blk_drew ?_ | refine blk_alloc ?_ _)); refine blk_far ?_ NB334_360.out _; refine blk_far ?_ NB334_360.out _; refine blk_far ?_ NB334_360.out _; (with_reducible repeat (first | refine blk_drewN ?_ _ | refine blk_drew ?_ | refine blk_alloc ?_ _)); exact BK334.out⟩; have n7_ : Aside0 ((((w86.setCell ⟨gb360, 0, none⟩ (.bool (t326 != t330))).setCell ⟨gb360, 1, none⟩ (.int .i64 (wrap64 ((wrap64 (t328 - t332)) - 121)))).setCell ⟨gb360, 2, none⟩ (.slice Ao87 t357.length co87)).heap[gb335]? = some (.cells #[.bool t330, .int .i64 t331, .int .i64 t332, .int .u64 t333] 51 (0, 0))) := ⟨by (with_reducible repeat (first | refine blk_drewN ?_ _ | refine blk_drew ?_ | refine blk_alloc ?_ _)); refine blk_far ?_ NB335_360.out _; refine blk_far ?_ NB335_360.out _; refine blk_far ?_ NB335_360.out _; (with_reducible repeat (first | refine blk_drewN ?_ _ | refine blk_drew ?_ | refine blk_alloc ?_ _)); exact BK335.out⟩; have n8_ : Aside0 ((((w86.setCell ⟨gb360, 0, none⟩ (.bool (t326 != t330))).setCell ⟨gb360, 1, none⟩ (.int .i64 (wrap64 ((wrap64 (t328 - t332)) - 121)))).setCell ⟨gb360, 2, none⟩ (.slice Ao87 t357.length co87)).heap[gb360]? = some (.cells #[.bool (t326 != t330), .int .i64 (wrap64 ((wrap64 (t328 - t332)) - 121)), .slice Ao87 t357.length co87] 62 (0, 0))) := ⟨by (with_reducible repeat (first | refine blk_drewN ?_ _ | refine blk_drew ?_ | refine blk_alloc ?_ _)); refine blk_put (cs := #[.bool (t326 != t330), .int .i64 (wrap64 ((wrap64 (t328 - t332)) - 121)), .slice none 0 0]) ?_ 2 _ rfl; refine blk_put (cs := #[.bool (t326 != t330), .int .i64 0, .slice none 0 0]) ?_ 1 _ rfl; refine blk_put (cs := #[.bool false, .int .i64 0, .slice none 0 0]) ?_ 0 _ rfl; (with_reducible repeat (first | refine blk_drewN ?_ _ | refine blk_drew ?_ | refine blk_alloc ?_ _)); exact BK360.out⟩; have n9_ : Aside0 (Below w.heap.size w (((w86.setCell ⟨gb360, 0, none⟩ (.bool (t326 != t330))).setCell ⟨gb360, 1, none⟩ (.int .i64 (wrap64 ((wrap64 (t328 - t332)) - 121)))).setCell ⟨gb360, 2, none⟩ (.slice Ao87 t357.length co87))) := ⟨by repeat (first | (with_reducible first | exact HB.out | apply below_alloc | apply pw_below_drewN | apply below_drew1 | refine below_set ?_ GE334.out | refine below_set ?_ GE335.out | refine below_set ?_ GE360.out) | exact HB.out)⟩
         (try clear HO344)
         (try clear HO347)
         (try clear HO350)
         (try clear HO353)
         (try clear HO356)
         (try clear HO359)
         (try clear BK334)
         (try clear BK335)
         (try clear BK360)
         (try clear HB)
         generalize (((w86.setCell ⟨gb360, 0, none⟩ (.bool (t326 != t330))).setCell ⟨gb360, 1, none⟩ (.int .i64 (wrap64 ((wrap64 (t328 - t332)) - 121)))).setCell ⟨gb360, 2, none⟩ (.slice Ao87 t357.length co87)) = w92 at n0_ n1_ n2_ n3_ n4_ n5_ n6_ n7_ n8_ n9_ ⊢
         have HO344 := n0_; have HO347 := n1_; have HO350 := n2_; have HO353 := n3_; have HO356 := n4_; have HO359 := n5_; have BK334 := n6_; have BK335 := n7_; have BK360 := n8_; have HB := n9_; clear n0_ n1_ n2_ n3_ n4_ n5_ n6_ n7_ n8_ n9_; replace HO344 := Aside0.mk (Kd.V_drew HO344.out); replace HO347 := Aside0.mk (Kd.V_drew HO347.out); replace HO350 := Aside0.mk (Kd.V_drew HO350.out); replace HO353 := Aside0.mk (Kd.V_drew HO353.out); replace HO356 := Aside0.mk (Kd.V_drew HO356.out); replace HO359 := Aside0.mk (Kd.V_drew HO359.out); replace BK334 := Aside0.mk (blk_drew BK334.out); replace BK335 := Aside0.mk (blk_drew BK335.out); replace BK360 := Aside0.mk (blk_drew BK360.out); replace HB := Aside0.mk (below_drew1 HB.out); refine start_ (n := 6) (S := fun w' => w'.cell? ⟨gb360, 0, none⟩ = some (.bool (t326 != t330)) ∧ w'.cell? ⟨gb360, 1, none⟩ = some (.int .i64 (wrap64 ((wrap64 (t328 - t332)) - 121))) ∧ w'.cell? ⟨gb360, 2, none⟩ = some (.slice Ao87 t357.length co87)) (ds := [5]) #[false, false, false, false, false, false] (by kernel_rfl) rfl rfl ⟨bc BK360 0, bc BK360 1, bc BK360 2⟩ (fun hHeld => ?_)
         generalize w92.drew = w93 at HO344 HO347 HO350 HO353 HO356 HO359 BK334 BK335 BK360 HB hHeld ⊢
         refine pure_ (i := 0) (N := some 94) (v := ?_) (a' := ?_) #[true, false, false, false, false, false] rfl rfl (by kernel_rfl) (fun _ _ _ h => h) (Or.inl ⟨by rfl, ?_⟩) ?_ ?_; rotate_left
         · intro w'
           go_simp
           with_reducible rfl
         rotate_left
         · exact APq
         refine take_ (i := 1) (N := some 95) (v := ?_) (a' := ?_) #[true, true, false, false, false, false] rfl rfl (by kernel_rfl) (fun _ _ _ h => h) (Or.inl ⟨by rfl, ?_⟩) hHeld ?_ ?_; rotate_left
         · rintro w' ⟨s0, s1, s2⟩
           go_simp
           with_reducible rfl
         rotate_left
         · exact APq
         refine one_ (i := 2) (N := some 96) #[true, true, true, false, false, false] rfl rfl (by kernel_rfl) (by decide) (fun K hK => ?_); refine goes_ Try.func27 (by kernel_rfl) rfl #[.int .u64 1] (by rfl) rfl rfl LMq ?_
         with_reducible refine (r2_Of.calls kj46 1 t361 _ A68.out).mono ?_
         rintro e w94 ⟨v362, rfl, ho0, hb⟩; refine ⟨_, rfl, ?_⟩; replace HO344 := Aside0.mk (Kd.V_below (kV HO344) hb); replace HO347 := Aside0.mk (Kd.V_below (kV HO347) hb); replace HO350 := Aside0.mk (Kd.V_below (kV HO350) hb); replace HO353 := Aside0.mk (Kd.V_below (kV HO353) hb); replace HO356 := Aside0.mk (Kd.V_below (kV HO356) hb); replace HO359 := Aside0.mk (Kd.V_below (kV HO359) hb); have HO363 := Aside0.mk (Kd.V_lower (Kd.V_mono (ok' := fun k_ => k_ ≠ gb334 ∧ k_ ≠ gb335 ∧ k_ ≠ gb360) ho0 (fun k_ hk_ => ⟨(Kd.freshB BK334.out k_ hk_), (Kd.freshB BK335.out k_ hk_), (Kd.freshB BK360.out k_ hk_)⟩)) (below_size HB.out)); replace BK334 := Aside0.mk (blk_below BK334.out hb); replace BK335 := Aside0.mk (blk_below BK335.out hb); replace BK360 := Aside0.mk (blk_below BK360.out hb); replace HB := Aside0.mk (below_step HB.out hb)
         (try clear hb)
         (try clear hb2)
         (try clear hk)
         (try clear hi)
         (try clear ho0)
         obtain ⟨Ao95, co95, eo95⟩ := Kd.V_slice HO363.out
         (first | subst eo95 | (injection eo95 with f1_ f2_ f3_; have f4_ := f1_.symm; have f5_ := f3_.symm; clear f1_ f2_ f3_; subst f4_; subst f5_))
         refine hK.out _ _ ⟨bc BK360 0, bc BK360 1, bc BK360 2⟩ (fun hHeld => ?_); clear hK K; refine norm_ (a' := ?_) ?_ ?_; rotate_left
         · show Act.put _ (some 96) _ = _
           exact APq
         refine one_ (i := 3) (N := some 97) #[true, true, true, true, false, false] rfl rfl (by kernel_rfl) (by decide) (fun K hK => ?_); refine goes_ Try.func28 (by kernel_rfl) rfl #[.slice Ao87 t357.length co87, .slice Ao95 t361.length co95] (by rfl) rfl rfl LMq ?_
         with_reducible refine (r2_Add.calls kj46 _ _ t357 _ _ t361 t364 _ ?side1 ?side2 ?side3 ?side4 A69.out).mono ?_
         (case side1 => exact kC (Kd.V_reads' HO359.out).2.2)
         (case side2 => exact (Kd.V_reads' HO359.out).2.1)
         (case side3 => exact kC (Kd.V_reads' HO363.out).2.2)
         (case side4 => exact (Kd.V_reads' HO363.out).2.1)
         rintro e w96 ⟨v365, rfl, ho0, hb⟩; refine ⟨_, rfl, ?_⟩; replace HO344 := Aside0.mk (Kd.V_below (kV HO344) hb); replace HO347 := Aside0.mk (Kd.V_below (kV HO347) hb); replace HO350 := Aside0.mk (Kd.V_below (kV HO350) hb); replace HO353 := Aside0.mk (Kd.V_below (kV HO353) hb); replace HO356 := Aside0.mk (Kd.V_below (kV HO356) hb); replace HO359 := Aside0.mk (Kd.V_below (kV HO359) hb); replace HO363 := Aside0.mk (Kd.V_below (kV HO363) hb); have HO366 := Aside0.mk (Kd.V_lower (Kd.V_mono (ok' := fun k_ => k_ ≠ gb334 ∧ k_ ≠ gb335 ∧ k_ ≠ gb360) ho0 (fun k_ hk_ => ⟨(Kd.freshB BK334.out k_ hk_), (Kd.freshB BK335.out k_ hk_), (Kd.freshB BK360.out k_ hk_)⟩)) (below_size HB.out)); replace BK334 := Aside0.mk (blk_below BK334.out hb); replace BK335 := Aside0.mk (blk_below BK335.out hb); replace BK360 := Aside0.mk (blk_below BK360.out hb); replace HB := Aside0.mk (below_step HB.out hb)
         (try clear hb)
         (try clear hb2)
         (try clear hk)
         (try clear hi)
         (try clear ho0)
         obtain ⟨Ao97, co97, eo97⟩ := Kd.V_slice HO366.out
         (first | subst eo97 | (injection eo97 with f1_ f2_ f3_; have f4_ := f1_.symm; have f5_ := f3_.symm; clear f1_ f2_ f3_; subst f4_; subst f5_))
         refine hK.out _ _ ⟨bc BK360 0, bc BK360 1, bc BK360 2⟩ (fun hHeld => ?_); clear hK K; refine norm_ (a' := ?_) ?_ ?_; rotate_left
         · show Act.put _ (some 97) _ = _
           exact APq
         refine pure_ (i := 4) (N := some 98) (v := ?_) (a' := ?_) #[true, true, true, true, true, false] rfl rfl (by kernel_rfl) (fun _ _ _ h => h) (Or.inl ⟨by rfl, ?_⟩) ?_ ?_; rotate_left
         · intro w'
           go_simp
           with_reducible rfl
         rotate_left
         · exact APq
         refine last_ (i := 5) (N := none) #[true, true, true, true, true, true] rfl rfl (by kernel_rfl) (by decide) (fun K hK => ?_); have hs98 : w96.cell? ⟨gb360, 2, none⟩ = some (.slice Ao87 t357.length co87) := bc BK360 2; have hfs98 := blk_frozen BK360.out 2; have hns98_0 := NB334_360.out; have hns98_1 := NB335_360.out; have hms98_0 := NB360_334.out; have hms98_1 := NB360_335.out; refine skip_ (w1 := ?_) (by rfl) rfl ?_ ?_; rotate_left
         · go_simp
           rfl
         refine hK.out _ _ ?_; clear hK K; refine done_ (by kernel_rfl) ?_; have n0_ : Aside0 (Kd.V (Kd.int .u32) 86 (w96.setCell ⟨gb360, 2, none⟩ (.slice Ao97 t364.length co97)) w.heap.size (fun k_ => k_ ≠ gb334 ∧ k_ ≠ gb335 ∧ k_ ≠ gb360) (.slice Ao75 t342.length co75) t342) := ⟨by (with_reducible repeat (first | apply Kd.V_alloc | apply Kd.V_drewN | apply Kd.V_drew)); exact Kd.V_mono (Kd.V_far (p := ⟨gb360, 2, none⟩) (Kd.V_mono HO344.out (fun k_ hk => (⟨hk, hk.2.2⟩ : _ ∧ k_ ≠ gb360))) (fun _ hk => hk.2) (.slice Ao97 t364.length co97)) (fun _ hk => ⟨hk.1.1, ⟨hk.1.2.1, hk.1.2.2⟩⟩)⟩; have n1_ : Aside0 (Kd.V (Kd.int .u32) 86 (w96.setCell ⟨gb360, 2, none⟩ (.slice Ao97 t364.length co97)) w.heap.size (fun k_ => k_ ≠ gb334 ∧ k_ ≠ gb335 ∧ k_ ≠ gb360) (.slice Ao78 t345.length co78) t345) := ⟨by (with_reducible repeat (first | apply Kd.V_alloc | apply Kd.V_drewN | apply Kd.V_drew)); exact Kd.V_mono (Kd.V_far (p := ⟨gb360, 2, none⟩) (Kd.V_mono HO347.out (fun k_ hk => (⟨hk, hk.2.2⟩ : _ ∧ k_ ≠ gb360))) (fun _ hk => hk.2) (.slice Ao97 t364.length co97)) (fun _ hk => ⟨hk.1.1, ⟨hk.1.2.1, hk.1.2.2⟩⟩)⟩; have n2_ : Aside0 (Kd.V (Kd.int .u32) 86 (w96.setCell ⟨gb360, 2, none⟩ (.slice Ao97 t364.length co97)) w.heap.size (fun k_ => k_ ≠ gb334 ∧ k_ ≠ gb335 ∧ k_ ≠ gb360) (.slice Ao79 t348.length co79) t348) := ⟨by (with_reducible repeat (first | apply Kd.V_alloc | apply Kd.V_drewN | apply Kd.V_drew)); exact Kd.V_mono (Kd.V_far (p := ⟨gb360, 2, none⟩) (Kd.V_mono HO350.out (fun k_ hk => (⟨hk, hk.2.2⟩ : _ ∧ k_ ≠ gb360))) (fun _ hk => hk.2) (.slice Ao97 t364.length co97)) (fun _ hk => ⟨hk.1.1, ⟨hk.1.2.1, hk.1.2.2⟩⟩)⟩; have n3_ : Aside0 (Kd.V (Kd.int .u32) 86 (w96.setCell ⟨gb360, 2, none⟩ (.slice Ao97 t364.length co97)) w.heap.size (fun k_ => k_ ≠ gb334 ∧ k_ ≠ gb335 ∧ k_ ≠ gb360) (.slice Ao81 t351.length co81) t351) := ⟨by (with_reducible repeat (first | apply Kd.V_alloc | apply Kd.V_drewN | apply Kd.V_drew)); exact Kd.V_mono (Kd.V_far (p := ⟨gb360, 2, none⟩) (Kd.V_mono HO353.out (fun k_ hk => (⟨hk, hk.2.2⟩ : _ ∧ k_ ≠ gb360))) (fun _ hk => hk.2) (.slice Ao97 t364.length co97)) (fun _ hk => ⟨hk.1.1, ⟨hk.1.2.1, hk.1.2.2⟩⟩)⟩; have n4_ : Aside0 (Kd.V (Kd.int .u32) 86 (w96.setCell ⟨gb360, 2, none⟩ (.slice Ao97 t364.length co97)) w.heap.size (fun k_ => k_ ≠ gb334 ∧ k_ ≠ gb335 ∧ k_ ≠ gb360) (.slice Ao91 t354.length co91) t354) := ⟨by (with_reducible repeat (first | apply Kd.V_alloc | apply Kd.V_drewN | apply Kd.V_drew)); exact Kd.V_mono (Kd.V_far (p := ⟨gb360, 2, none⟩) (Kd.V_mono HO356.out (fun k_ hk => (⟨hk, hk.2.2⟩ : _ ∧ k_ ≠ gb360))) (fun _ hk => hk.2) (.slice Ao97 t364.length co97)) (fun _ hk => ⟨hk.1.1, ⟨hk.1.2.1, hk.1.2.2⟩⟩)⟩; have n5_ : Aside0 (Kd.V (Kd.int .u32) 86 (w96.setCell ⟨gb360, 2, none⟩ (.slice Ao97 t364.length co97)) w.heap.size (fun k_ => k_ ≠ gb334 ∧ k_ ≠ gb335 ∧ k_ ≠ gb360) (.slice Ao87 t357.length co87) t357) := ⟨by (with_reducible repeat (first | apply Kd.V_alloc | apply Kd.V_drewN | apply Kd.V_drew)); exact Kd.V_mono (Kd.V_far (p := ⟨gb360, 2, none⟩) (Kd.V_mono HO359.out (fun k_ hk => (⟨hk, hk.2.2⟩ : _ ∧ k_ ≠ gb360))) (fun _ hk => hk.2) (.slice Ao97 t364.length co97)) (fun _ hk => ⟨hk.1.1, ⟨hk.1.2.1, hk.1.2.2⟩⟩)⟩; have n6_ : Aside0 (Kd.V (Kd.int .u32) 86 (w96.setCell ⟨gb360, 2, none⟩ (.slice Ao97 t364.length co97)) w.heap.size (fun k_ => k_ ≠ gb334 ∧ k_ ≠ gb335 ∧ k_ ≠ gb360) (.slice Ao95 t361.length co95) t361) := ⟨by (with_reducible repeat (first | apply Kd.V_alloc | apply Kd.V_drewN | apply Kd.V_drew)); exact Kd.V_mono (Kd.V_far (p := ⟨gb360, 2, none⟩) (Kd.V_mono HO363.out (fun k_ hk => (⟨hk, hk.2.2⟩ : _ ∧ k_ ≠ gb360))) (fun _ hk => hk.2) (.slice Ao97 t364.length co97)) (fun _ hk => ⟨hk.1.1, ⟨hk.1.2.1, hk.1.2.2⟩⟩)⟩; have n7_ : Aside0 (Kd.V (Kd.int .u32) 86 (w96.setCell ⟨gb360, 2, none⟩ (.slice Ao97 t364.length co97)) w.heap.size (fun k_ => k_ ≠ gb334 ∧ k_ ≠ gb335 ∧ k_ ≠ gb360) (.slice Ao97 t364.length co97) t364) := ⟨by (with_reducible repeat (first | apply Kd.V_alloc | apply Kd.V_drewN | apply Kd.V_drew)); exact Kd.V_mono (Kd.V_far (p := ⟨gb360, 2, none⟩) (Kd.V_mono HO366.out (fun k_ hk => (⟨hk, hk.2.2⟩ : _ ∧ k_ ≠ gb360))) (fun _ hk => hk.2) (.slice Ao97 t364.length co97)) (fun _ hk => ⟨hk.1.1, ⟨hk.1.2.1, hk.1.2.2⟩⟩)⟩; have n8_ : Aside0 ((w96.setCell ⟨gb360, 2, none⟩ (.slice Ao97 t364.length co97)).heap[gb334]? = some (.cells #[.bool t326, .int .i64 t327, .int .i64 t328, .int .u64 t329] 51 (0, 0))) := ⟨by (with_reducible repeat (first | refine blk_drewN ?_ _ | refine blk_drew ?_ | refine blk_alloc ?_ _)); refine blk_far ?_ NB334_360.out _; (with_reducible repeat (first | refine blk_drewN ?_ _ | refine blk_drew ?_ | refine blk_alloc ?_ _)); exact BK334.out⟩; have n9_ : Aside0 ((w96.setCell ⟨gb360, 2, none⟩ (.slice Ao97 t364.length co97)).heap[gb335]? = some (.cells #[.bool t330, .int .i64 t331, .int .i64 t332, .int .u64 t333] 51 (0, 0))) := ⟨by (with_reducible repeat (first | refine blk_drewN ?_ _ | refine blk_drew ?_ | refine blk_alloc ?_ _)); refine blk_far ?_ NB335_360.out _; (with_reducible repeat (first | refine blk_drewN ?_ _ | refine blk_drew ?_ | refine blk_alloc ?_ _)); exact BK335.out⟩; have n10_ : Aside0 ((w96.setCell ⟨gb360, 2, none⟩ (.slice Ao97 t364.length co97)).heap[gb360]? = some (.cells #[.bool (t326 != t330), .int .i64 (wrap64 ((wrap64 (t328 - t332)) - 121)), .slice Ao97 t364.length co97] 62 (0, 0))) := ⟨by (with_reducible repeat (first | refine blk_drewN ?_ _ | refine blk_drew ?_ | refine blk_alloc ?_ _)); refine blk_put (cs := #[.bool (t326 != t330), .int .i64 (wrap64 ((wrap64 (t328 - t332)) - 121)), .slice Ao87 t357.length co87]) ?_ 2 _ rfl; (with_reducible repeat (first | refine blk_drewN ?_ _ | refine blk_drew ?_ | refine blk_alloc ?_ _)); exact BK360.out⟩; have n11_ : Aside0 (Below w.heap.size w (w96.setCell ⟨gb360, 2, none⟩ (.slice Ao97 t364.length co97))) := ⟨by repeat (first | (with_reducible first | exact HB.out | apply below_alloc | apply pw_below_drewN | apply below_drew1 | refine below_set ?_ GE334.out | refine below_set ?_ GE335.out | refine below_set ?_ GE360.out) | exact HB.out)⟩
         (try clear HO344)
         (try clear HO347)
         (try clear HO350)
         (try clear HO353)
         (try clear HO356)
         (try clear HO359)
         (try clear HO363)
         (try clear HO366)
         (try clear BK334)
         (try clear BK335)
         (try clear BK360)
         (try clear HB)
         generalize (w96.setCell ⟨gb360, 2, none⟩ (.slice Ao97 t364.length co97)) = w99 at n0_ n1_ n2_ n3_ n4_ n5_ n6_ n7_ n8_ n9_ n10_ n11_ ⊢
         have HO344 := n0_; have HO347 := n1_; have HO350 := n2_; have HO353 := n3_; have HO356 := n4_; have HO359 := n5_; have HO363 := n6_; have HO366 := n7_; have BK334 := n8_; have BK335 := n9_; have BK360 := n10_; have HB := n11_; clear n0_ n1_ n2_ n3_ n4_ n5_ n6_ n7_ n8_ n9_ n10_ n11_; have hnb100 := NB360_334.out; have hnc100 := NB334_360.out; have hnb101 := NB360_335.out; have hnc101 := NB335_360.out; have hcz102_0 : w99.cell? ⟨gb360, 0, none⟩ = some (.bool (t326 != t330)) := bc BK360 0; have hcz102_1 : w99.cell? ⟨gb360, 1, none⟩ = some (.int .i64 (wrap64 ((wrap64 (t328 - t332)) - 121))) := bc BK360 1; have hcz102_2 : w99.cell? ⟨gb360, 2, none⟩ = some (.slice Ao97 t364.length co97) := bc BK360 2; have hfz102_0 := blk_frozen BK360.out 0; have hfz102_1 := blk_frozen BK360.out 1; have hfz102_2 := blk_frozen BK360.out 2
         try go_wp2_with (first | ((with_reducible refine gate_callee (f := 29) rfl ?_); refine goesL_ (some 101) rfl rfl Try.func29 (by kernel_rfl) rfl #[.agg #[.bool (t326 != t330), .int .i64 (wrap64 ((wrap64 (t328 - t332)) - 121)), .slice Ao97 t364.length co97], .int .i64 a2] rfl LMq ?_; (with_reducible refine (r4_Round.calls kj46 (t326 != t330) (wrap64 ((wrap64 (t328 - t332)) - 121)) (fun k_ => (k_ ≠ gb334 ∧ (k_ ≠ gb335 ∧ k_ ≠ gb360))) _ _ t364 a2 t367 t368 _ ?side1 A70.out).mono ?_); (case side1 => exact HO366.out); rintro e w103 ⟨rfl, hb⟩; refine ⟨_, rfl, ?_⟩; replace HO344 := Aside0.mk (Kd.V_below (kV HO344) hb); replace HO347 := Aside0.mk (Kd.V_below (kV HO347) hb); replace HO350 := Aside0.mk (Kd.V_below (kV HO350) hb); replace HO353 := Aside0.mk (Kd.V_below (kV HO353) hb); replace HO356 := Aside0.mk (Kd.V_below (kV HO356) hb); replace HO359 := Aside0.mk (Kd.V_below (kV HO359) hb); replace HO363 := Aside0.mk (Kd.V_below (kV HO363) hb); replace HO366 := Aside0.mk (Kd.V_below (kV HO366) hb); replace BK334 := Aside0.mk (blk_below (g := gb334) (o := .cells #[.bool t326, .int .i64 t327, .int .i64 t328, .int .u64 t329] 51 (0, 0)) (kB BK334) hb); replace BK335 := Aside0.mk (blk_below (g := gb335) (o := .cells #[.bool t330, .int .i64 t331, .int .i64 t332, .int .u64 t333] 51 (0, 0)) (kB BK335) hb); replace BK360 := Aside0.mk (blk_below (g := gb360) (o := .cells #[.bool (t326 != t330), .int .i64 (wrap64 ((wrap64 (t328 - t332)) - 121)), .slice Ao97 t364.length co97] 62 (0, 0)) (kB BK360) hb); replace HB := Aside0.mk (below_step (by repeat (first | (with_reducible first | exact HB.out | apply below_alloc | apply pw_below_drewN | apply below_drew1 | refine below_set ?_ GE334.out | refine below_set ?_ GE335.out | refine below_set ?_ GE360.out) | exact HB.out)) hb); (try clear hb); (try clear hb2); (try clear hk); (try clear hi)))
         go_ret2
         exact ⟨by first | rfl | (simp [errW_none, errW_some] <;> rfl) | (simp [*, errW_none, errW_some] <;> rfl), by repeat (first | (with_reducible first | exact HB.out | apply below_alloc | apply pw_below_drewN | apply below_drew1 | refine below_set ?_ GE334.out | refine below_set ?_ GE335.out | refine below_set ?_ GE360.out) | exact HB.out)⟩
       rw [if_neg c67] at H
       have c67b0 : decide (0 < (t354.length : Int)) = false := decide_eq_false c67; have c67b1 : decide (0 < t354.length) = false := decide_eq_false (by omega); clear c67; replace H := Option.bind_eq_some_iff.mp H; obtain ⟨⟨t369, t370⟩, A1040, H⟩ := H; replace H : (some (t369, t370)) = some (r1, r2) := H; have A104 := Aside0.mk A1040; clear A1040
       simp only [Option.some.injEq, Prod.mk.injEq] at H
       obtain ⟨rfl, rfl⟩ := H; have hnb105 := NB335_334.out; have hnc105 := NB334_335.out; have hcz106_0 : wc.cell? ⟨gb335, 0, none⟩ = some (.bool t330) := bc BK335 0; have hcz106_1 : wc.cell? ⟨gb335, 1, none⟩ = some (.int .i64 t331) := bc BK335 1; have hcz106_2 : wc.cell? ⟨gb335, 2, none⟩ = some (.int .i64 t332) := bc BK335 2; have hcz106_3 : wc.cell? ⟨gb335, 3, none⟩ = some (.int .u64 t333) := bc BK335 3; have hfz106_0 := blk_frozen BK335.out 0; have hfz106_1 := blk_frozen BK335.out 1; have hfz106_2 := blk_frozen BK335.out 2; have hfz106_3 := blk_frozen BK335.out 3
       try go_wp2
       replace BK334 := Aside0.mk (blk_drew BK334.out); replace BK335 := Aside0.mk (blk_drew BK335.out); replace HB := Aside0.mk (below_drew1 HB.out); refine start_ (n := 13) (S := fun w' => w'.cell? ⟨gb334, 0, none⟩ = some (.bool t326) ∧ w'.cell? ⟨gb334, 1, none⟩ = some (.int .i64 t327) ∧ w'.cell? ⟨gb334, 2, none⟩ = some (.int .i64 t328) ∧ w'.cell? ⟨gb334, 3, none⟩ = some (.int .u64 t329) ∧ w'.cell? ⟨gb335, 0, none⟩ = some (.bool t330) ∧ w'.cell? ⟨gb335, 1, none⟩ = some (.int .i64 t331) ∧ w'.cell? ⟨gb335, 2, none⟩ = some (.int .i64 t332) ∧ w'.cell? ⟨gb335, 3, none⟩ = some (.int .u64 t333)) (ds := []) #[false, false, false, false, false, false, false, false, false, false, false, false, false] (by kernel_rfl) rfl rfl ⟨bc BK334 0, bc BK334 1, bc BK334 2, bc BK334 3, bc BK335 0, bc BK335 1, bc BK335 2, bc BK335 3⟩ (fun hHeld => ?_); refine with_tabW r7_Div.tab13 r7_Div.bits13 (fun HT_ HW_ => ?_)
       generalize wc.drew = w107 at BK334 BK335 HB hHeld ⊢
       refine pure_ (i := 0) (N := some 71) (v := ?_) (a' := ?_) #[true, false, false, false, false, false, false, false, false, false, false, false, false] rfl rfl (any_of HT_.out (by kernel_rfl)) (fun _ _ _ h => h) (Or.inl ⟨by rfl, ?_⟩) ?_ ?_; rotate_left
       · intro w'
         go_simp
         with_reducible rfl
       rotate_left
       · exact APq
       refine pure_ (i := 4) (N := some 75) (v := ?_) (a' := ?_) #[true, false, false, false, true, false, false, false, false, false, false, false, false] rfl rfl (any_of HT_.out (by kernel_rfl)) (fun _ _ _ h => h) (Or.inl ⟨by rfl, ?_⟩) ?_ ?_; rotate_left
       · intro w'
         go_simp
         with_reducible rfl
       rotate_left
       · exact APq
       refine take_ (i := 1) (N := some 72) (v := ?_) (a' := ?_) #[true, true, false, false, true, false, false, false, false, false, false, false, false] rfl rfl (take_ofW HT_.out HW_.out (by kernel_rfl)) (fun _ _ _ h => h) (Or.inl ⟨by rfl, ?_⟩) hHeld ?_ ?_; rotate_left
       · rintro w' ⟨s0, s1, s2, s3, s4, s5, s6, s7⟩
         go_simp
         with_reducible rfl
       rotate_left
       · exact APq
       refine take_ (i := 5) (N := some 76) (v := ?_) (a' := ?_) #[true, true, false, false, true, true, false, false, false, false, false, false, false] rfl rfl (take_ofW HT_.out HW_.out (by kernel_rfl)) (fun _ _ _ h => h) (Or.inl ⟨by rfl, ?_⟩) hHeld ?_ ?_; rotate_left
       · rintro w' ⟨s0, s1, s2, s3, s4, s5, s6, s7⟩
         go_simp
         with_reducible rfl
       rotate_left
       · exact APq
       refine one_ (i := 2) (N := some 73) #[true, true, true, false, true, true, false, false, false, false, false, false, false] rfl rfl (one_of HT_.out (by kernel_rfl)) (by decide) (fun K hK => ?_); refine goes_ Try.func27 (by kernel_rfl) rfl #[.int .u64 t329] (by rfl) rfl rfl LMq ?_
       with_reducible refine (r2_Of.calls kj46 t329 t342 _ A62.out).mono ?_
       rintro e w108 ⟨v343, rfl, ho0, hb⟩; refine ⟨_, rfl, ?_⟩; have HO344 := Aside0.mk (Kd.V_lower (Kd.V_mono (ok' := fun k_ => k_ ≠ gb334 ∧ k_ ≠ gb335) ho0 (fun k_ hk_ => ⟨(Kd.freshB BK334.out k_ hk_), (Kd.freshB BK335.out k_ hk_)⟩)) (below_size HB.out)); replace BK334 := Aside0.mk (blk_below BK334.out hb); replace BK335 := Aside0.mk (blk_below BK335.out hb); replace HB := Aside0.mk (below_step HB.out hb)
       (try clear hb)
       (try clear hb2)
       (try clear hk)
       (try clear hi)
       (try clear ho0)
       obtain ⟨Ao109, co109, eo109⟩ := Kd.V_slice HO344.out
       (first | subst eo109 | (injection eo109 with f1_ f2_ f3_; have f4_ := f1_.symm; have f5_ := f3_.symm; clear f1_ f2_ f3_; subst f4_; subst f5_))
       refine hK.out _ _ ⟨bc BK334 0, bc BK334 1, bc BK334 2, bc BK334 3, bc BK335 0, bc BK335 1, bc BK335 2, bc BK335 3⟩ (fun hHeld => ?_); clear hK K; refine norm_ (a' := ?_) ?_ ?_; rotate_left
       · show Act.put _ (some 73) _ = _
         exact APq
       refine one_ (i := 3) (N := some 74) #[true, true, true, true, true, true, false, false, false, false, false, false, false] rfl rfl (one_of HT_.out (by kernel_rfl)) (by decide) (fun K hK => ?_); refine goes_ Try.func26 (by kernel_rfl) rfl #[.slice Ao109 t342.length co109, .int .i64 120] (by rfl) rfl rfl LMq ?_
       with_reducible refine (r2_Shl.calls kj46 _ _ t342 120 t345 _ ?side1 ?side2 A63.out).mono ?_
       (case side1 => exact kC (Kd.V_reads' HO344.out).2.2)
       (case side2 => exact (Kd.V_reads' HO344.out).2.1)
       rintro e w110 ⟨v346, rfl, ho0, hb⟩; refine ⟨_, rfl, ?_⟩; replace HO344 := Aside0.mk (Kd.V_below (kV HO344) hb); have HO347 := Aside0.mk (Kd.V_lower (Kd.V_mono (ok' := fun k_ => k_ ≠ gb334 ∧ k_ ≠ gb335) ho0 (fun k_ hk_ => ⟨(Kd.freshB BK334.out k_ hk_), (Kd.freshB BK335.out k_ hk_)⟩)) (below_size HB.out)); replace BK334 := Aside0.mk (blk_below BK334.out hb); replace BK335 := Aside0.mk (blk_below BK335.out hb); replace HB := Aside0.mk (below_step HB.out hb)
       (try clear hb)
       (try clear hb2)
       (try clear hk)
       (try clear hi)
       (try clear ho0)
       refine hK.out _ _ ⟨bc BK334 0, bc BK334 1, bc BK334 2, bc BK334 3, bc BK335 0, bc BK335 1, bc BK335 2, bc BK335 3⟩ (fun hHeld => ?_); clear hK K; refine norm_ (a' := ?_) ?_ ?_; rotate_left
       · show Act.put _ (some 74) _ = _
         exact APq
       refine one_ (i := 6) (N := some 77) #[true, true, true, true, true, true, true, false, false, false, false, false, false] rfl rfl (one_of HT_.out (by kernel_rfl)) (by decide) (fun K hK => ?_); refine goes_ Try.func27 (by kernel_rfl) rfl #[.int .u64 t333] (by rfl) rfl rfl LMq ?_
       with_reducible refine (r2_Of.calls kj46 t333 t348 _ A64.out).mono ?_
       rintro e w111 ⟨v349, rfl, ho0, hb⟩; refine ⟨_, rfl, ?_⟩; replace HO344 := Aside0.mk (Kd.V_below (kV HO344) hb); replace HO347 := Aside0.mk (Kd.V_below (kV HO347) hb); have HO350 := Aside0.mk (Kd.V_lower (Kd.V_mono (ok' := fun k_ => k_ ≠ gb334 ∧ k_ ≠ gb335) ho0 (fun k_ hk_ => ⟨(Kd.freshB BK334.out k_ hk_), (Kd.freshB BK335.out k_ hk_)⟩)) (below_size HB.out)); replace BK334 := Aside0.mk (blk_below BK334.out hb); replace BK335 := Aside0.mk (blk_below BK335.out hb); replace HB := Aside0.mk (below_step HB.out hb)
       (try clear hb)
       (try clear hb2)
       (try clear hk)
       (try clear hi)
       (try clear ho0)
       obtain ⟨Ao112, co112, eo112⟩ := Kd.V_slice HO347.out
       (first | subst eo112 | (injection eo112 with f1_ f2_ f3_; have f4_ := f1_.symm; have f5_ := f3_.symm; clear f1_ f2_ f3_; subst f4_; subst f5_))
       obtain ⟨Ao113, co113, eo113⟩ := Kd.V_slice HO350.out
       (first | subst eo113 | (injection eo113 with f1_ f2_ f3_; have f4_ := f1_.symm; have f5_ := f3_.symm; clear f1_ f2_ f3_; subst f4_; subst f5_))
       refine hK.out _ _ ⟨bc BK334 0, bc BK334 1, bc BK334 2, bc BK334 3, bc BK335 0, bc BK335 1, bc BK335 2, bc BK335 3⟩ (fun hHeld => ?_); clear hK K; refine norm_ (a' := ?_) ?_ ?_; rotate_left
       · show Act.put _ (some 77) _ = _
         exact APq
       refine one_ (i := 7) (N := some 78) #[true, true, true, true, true, true, true, true, false, false, false, false, false] rfl rfl (one_of HT_.out (by kernel_rfl)) (by decide) (fun K hK => ?_); refine goes_ Try.func25 (by kernel_rfl) rfl #[.slice Ao112 t345.length co112, .slice Ao113 t348.length co113] (by rfl) rfl rfl LMq ?_
       with_reducible refine (r2_Parts.calls kj46 _ _ t345 _ _ t348 t351 t354 _ ?side1 ?side2 ?side3 ?side4 A65.out).mono ?_
       (case side1 => exact kC (Kd.V_reads' HO347.out).2.2)
       (case side2 => exact (Kd.V_reads' HO347.out).2.1)
       (case side3 => exact kC (Kd.V_reads' HO350.out).2.2)
       (case side4 => exact (Kd.V_reads' HO350.out).2.1)
       rintro e w114 ⟨v352, v355, rfl, ho0, ho1, hb⟩; refine ⟨_, rfl, ?_⟩; replace HO344 := Aside0.mk (Kd.V_below (kV HO344) hb); replace HO347 := Aside0.mk (Kd.V_below (kV HO347) hb); replace HO350 := Aside0.mk (Kd.V_below (kV HO350) hb); have HO353 := Aside0.mk (Kd.V_lower (Kd.V_mono (ok' := fun k_ => k_ ≠ gb334 ∧ k_ ≠ gb335) ho0 (fun k_ hk_ => ⟨(Kd.freshB BK334.out k_ hk_), (Kd.freshB BK335.out k_ hk_)⟩)) (below_size HB.out)); have HO356 := Aside0.mk (Kd.V_lower (Kd.V_mono (ok' := fun k_ => k_ ≠ gb334 ∧ k_ ≠ gb335) ho1 (fun k_ hk_ => ⟨(Kd.freshB BK334.out k_ hk_), (Kd.freshB BK335.out k_ hk_)⟩)) (below_size HB.out)); replace BK334 := Aside0.mk (blk_below BK334.out hb); replace BK335 := Aside0.mk (blk_below BK335.out hb); replace HB := Aside0.mk (below_step HB.out hb)
       (try clear hb)
       (try clear hb2)
       (try clear hk)
       (try clear hi)
       (try clear ho0)
       (try clear ho1)
       refine hK.out _ _ ⟨bc BK334 0, bc BK334 1, bc BK334 2, bc BK334 3, bc BK335 0, bc BK335 1, bc BK335 2, bc BK335 3⟩ (fun hHeld => ?_); clear hK K; refine norm_ (a' := ?_) ?_ ?_; rotate_left
       · show Act.put _ (some 78) _ = _
         exact APq
       refine pure_ (i := 8) (N := some 70) (v := ?_) (a' := ?_) #[true, true, true, true, true, true, true, true, true, false, false, false, false] rfl rfl (any_of HT_.out (by kernel_rfl)) (fun _ _ _ h => h) (Or.inl ⟨by rfl, ?_⟩) ?_ ?_; rotate_left
       · intro w'
         go_simp
         with_reducible rfl
       rotate_left
       · exact APq
       refine pure_ (i := 9) (N := some 79) (v := ?_) (a' := ?_) #[true, true, true, true, true, true, true, true, true, true, false, false, false] rfl rfl (any_of HT_.out (by kernel_rfl)) (fun _ _ _ h => h) (Or.inl ⟨by rfl, ?_⟩) ?_ ?_; rotate_left
       · intro w'
         go_simp
         with_reducible rfl
       rotate_left
       · exact APq
       refine pure_ (i := 10) (N := some 80) (v := ?_) (a' := ?_) #[true, true, true, true, true, true, true, true, true, true, true, false, false] rfl rfl (any_of HT_.out (by kernel_rfl)) (fun _ _ _ h => h) (Or.inl ⟨by rfl, ?_⟩) ?_ ?_; rotate_left
       · intro w'
         go_simp
         with_reducible rfl
       rotate_left
       · exact APq
       refine pure_ (i := 11) (N := some 11) (v := ?_) (a' := ?_) #[true, true, true, true, true, true, true, true, true, true, true, true, false] rfl rfl (any_of HT_.out (by kernel_rfl)) (fun _ _ _ h => h) (Or.inl ⟨by rfl, ?_⟩) ?_ ?_; rotate_left
       · intro w'
         go_simp
         with_reducible rfl
       rotate_left
       · exact APq
       refine pure_ (i := 12) (N := some 12) (v := ?_) (a' := ?_) #[true, true, true, true, true, true, true, true, true, true, true, true, true] rfl rfl (any_of HT_.out (by kernel_rfl)) (fun _ _ _ h => h) (Or.inl ⟨by rfl, ?_⟩) ?_ ?_; rotate_left
       · intro w'
         go_simp
         with_reducible rfl
       rotate_left
       · exact APq
       refine done_ (done_of HT_.out (by kernel_rfl)) ?_; obtain ⟨Ao115, co115, eo115⟩ := Kd.V_slice HO353.out; subst eo115
       try go_wp2
       replace HO344 := Aside0.mk (Kd.V_drew HO344.out); replace HO347 := Aside0.mk (Kd.V_drew HO347.out); replace HO350 := Aside0.mk (Kd.V_drew HO350.out); replace HO353 := Aside0.mk (Kd.V_drew HO353.out); replace HO356 := Aside0.mk (Kd.V_drew HO356.out); replace BK334 := Aside0.mk (blk_drew BK334.out); replace BK335 := Aside0.mk (blk_drew BK335.out); replace HB := Aside0.mk (below_drew1 HB.out); refine start_ (n := 12) (S := fun w' => w'.cell? ⟨gb334, 0, none⟩ = some (.bool t326) ∧ w'.cell? ⟨gb334, 1, none⟩ = some (.int .i64 t327) ∧ w'.cell? ⟨gb334, 2, none⟩ = some (.int .i64 t328) ∧ w'.cell? ⟨gb334, 3, none⟩ = some (.int .u64 t329) ∧ w'.cell? ⟨gb335, 0, none⟩ = some (.bool t330) ∧ w'.cell? ⟨gb335, 1, none⟩ = some (.int .i64 t331) ∧ w'.cell? ⟨gb335, 2, none⟩ = some (.int .i64 t332) ∧ w'.cell? ⟨gb335, 3, none⟩ = some (.int .u64 t333)) (ds := []) #[false, false, false, false, false, false, false, false, false, false, false, false] (by kernel_rfl) rfl rfl ⟨bc BK334 0, bc BK334 1, bc BK334 2, bc BK334 3, bc BK335 0, bc BK335 1, bc BK335 2, bc BK335 3⟩ (fun hHeld => ?_); refine with_tabW r7_Div.tab14 r7_Div.bits14 (fun HT_ HW_ => ?_)
       generalize w114.drew = w116 at HO344 HO347 HO350 HO353 HO356 BK334 BK335 HB hHeld ⊢
       refine pure_ (i := 0) (N := some 81) (v := ?_) (a' := ?_) #[true, false, false, false, false, false, false, false, false, false, false, false] rfl rfl (any_of HT_.out (by kernel_rfl)) (fun _ _ _ h => h) (Or.inl ⟨by rfl, ?_⟩) ?_ ?_; rotate_left
       · intro w'
         go_simp
         with_reducible rfl
       rotate_left
       · exact APq
       refine pure_ (i := 1) (N := some 82) (v := ?_) (a' := ?_) #[true, true, false, false, false, false, false, false, false, false, false, false] rfl rfl (any_of HT_.out (by kernel_rfl)) (fun _ _ _ h => h) (Or.inl ⟨by rfl, ?_⟩) ?_ ?_; rotate_left
       · intro w'
         go_simp
         with_reducible rfl
       rotate_left
       · exact APq
       refine pure_ (i := 3) (N := some 84) (v := ?_) (a' := ?_) #[true, true, false, true, false, false, false, false, false, false, false, false] rfl rfl (any_of HT_.out (by kernel_rfl)) (fun _ _ _ h => h) (Or.inl ⟨by rfl, ?_⟩) ?_ ?_; rotate_left
       · intro w'
         go_simp
         with_reducible rfl
       rotate_left
       · exact APq
       refine pure_ (i := 7) (N := some 88) (v := ?_) (a' := ?_) #[true, true, false, true, false, false, false, true, false, false, false, false] rfl rfl (any_of HT_.out (by kernel_rfl)) (fun _ _ _ h => h) (Or.inl ⟨by rfl, ?_⟩) ?_ ?_; rotate_left
       · intro w'
         go_simp
         with_reducible rfl
       rotate_left
       · exact APq
       refine take_ (i := 2) (N := some 83) (v := ?_) (a' := ?_) #[true, true, true, true, false, false, false, true, false, false, false, false] rfl rfl (take_ofW HT_.out HW_.out (by kernel_rfl)) (fun _ _ _ h => h) (Or.inl ⟨by rfl, ?_⟩) hHeld ?_ ?_; rotate_left
       · rintro w' ⟨s0, s1, s2, s3, s4, s5, s6, s7⟩
         go_simp
         with_reducible rfl
       rotate_left
       · exact APq
       refine take_ (i := 4) (N := some 85) (v := ?_) (a' := ?_) #[true, true, true, true, true, false, false, true, false, false, false, false] rfl rfl (take_ofW HT_.out HW_.out (by kernel_rfl)) (fun _ _ _ h => h) (Or.inl ⟨by rfl, ?_⟩) hHeld ?_ ?_; rotate_left
       · rintro w' ⟨s0, s1, s2, s3, s4, s5, s6, s7⟩
         go_simp
         with_reducible rfl
       rotate_left
       · exact APq
       refine pure_ (i := 5) (N := some 86) (v := ?_) (a' := ?_) #[true, true, true, true, true, true, false, true, false, false, false, false] rfl rfl (any_of HT_.out (by kernel_rfl)) (fun _ _ _ h => h) (Or.inl ⟨by rfl, ?_⟩) ?_ ?_; rotate_left
       · intro w'
         go_simp
         with_reducible rfl
       rotate_left
       · exact APq
       refine pure_ (i := 6) (N := some 87) (v := ?_) (a' := ?_) #[true, true, true, true, true, true, true, true, false, false, false, false] rfl rfl (any_of HT_.out (by kernel_rfl)) (fun _ _ _ h => h) (Or.inl ⟨by rfl, ?_⟩) ?_ ?_; rotate_left
       · intro w'
         go_simp
         with_reducible rfl
       rotate_left
       · exact APq
       refine join_ (σ := Value × Nat) 1 #[true, true, true, true, true, true, true, true, true, true, true, false] (fun s_ => [(89, s_.1), (13, .pointer (some ⟨s_.2, 0, none⟩)), (90, .agg #[.bool (t326 != t330), .int .i64 (wrap64 ((wrap64 (t328 - t332)) - 121)), s_.1])]) (fun s_ w' => (w'.cell? ⟨gb334, 0, none⟩ = some (.bool t326) ∧ w'.cell? ⟨gb334, 1, none⟩ = some (.int .i64 t327) ∧ w'.cell? ⟨gb334, 2, none⟩ = some (.int .i64 t328) ∧ w'.cell? ⟨gb334, 3, none⟩ = some (.int .u64 t329) ∧ w'.cell? ⟨gb335, 0, none⟩ = some (.bool t330) ∧ w'.cell? ⟨gb335, 1, none⟩ = some (.int .i64 t331) ∧ w'.cell? ⟨gb335, 2, none⟩ = some (.int .i64 t332) ∧ w'.cell? ⟨gb335, 3, none⟩ = some (.int .u64 t333)) ∧ (Kd.V (Kd.int .u32) 86 w' w.heap.size (fun k_ => k_ ≠ gb334 ∧ k_ ≠ gb335 ∧ k_ ≠ s_.2) (.slice Ao109 t342.length co109) t342) ∧ (Kd.V (Kd.int .u32) 86 w' w.heap.size (fun k_ => k_ ≠ gb334 ∧ k_ ≠ gb335 ∧ k_ ≠ s_.2) (.slice Ao112 t345.length co112) t345) ∧ (Kd.V (Kd.int .u32) 86 w' w.heap.size (fun k_ => k_ ≠ gb334 ∧ k_ ≠ gb335 ∧ k_ ≠ s_.2) (.slice Ao113 t348.length co113) t348) ∧ (Kd.V (Kd.int .u32) 86 w' w.heap.size (fun k_ => k_ ≠ gb334 ∧ k_ ≠ gb335 ∧ k_ ≠ s_.2) (.slice Ao115 t351.length co115) t351) ∧ (Kd.V (Kd.int .u32) 86 w' w.heap.size (fun k_ => k_ ≠ gb334 ∧ k_ ≠ gb335 ∧ k_ ≠ s_.2) v355 t354) ∧ (Kd.V (Kd.int .u32) 86 w' w.heap.size (fun k_ => k_ ≠ gb334 ∧ k_ ≠ gb335 ∧ k_ ≠ s_.2) s_.1 t357) ∧ (w'.heap[gb334]? = some (.cells #[.bool t326, .int .i64 t327, .int .i64 t328, .int .u64 t329] 51 (0, 0))) ∧ (w'.heap[gb335]? = some (.cells #[.bool t330, .int .i64 t331, .int .i64 t332, .int .u64 t333] 51 (0, 0))) ∧ (w'.heap[s_.2]? = some (.cells #[.bool false, .int .i64 0, .slice none 0 0] 62 (0, 0))) ∧ (w.heap.size ≤ s_.2) ∧ (w.heap.size ≤ s_.2) ∧ (gb334 ≠ s_.2) ∧ (s_.2 ≠ gb334) ∧ (gb335 ≠ s_.2) ∧ (s_.2 ≠ gb335) ∧ (Below w.heap.size w w')) ?_ ?_; rotate_left
       · intro hCont
         refine two_ (i := 8) (j := 10) (Ni := some 89) (Nj := some 13) #[true, true, true, true, true, true, true, true, true, false, false, false] #[true, true, true, true, true, true, true, true, false, false, true, false] rfl rfl rfl rfl (two_of HT_.out (by kernel_rfl)) (by decide) (by decide) (fun K hK => ?_) (fun K hK => ?_)
         · skip
           refine goes_ Try.func26 (by kernel_rfl) rfl #[.slice Ao115 t351.length co115, .int .i64 1] (by rfl) rfl rfl LMq ?_
           with_reducible refine (r2_Shl.calls kj46 _ _ t351 1 t357 _ ?side1 ?side2 A66.out).mono ?_
           (case side1 => exact kC (Kd.V_reads' HO353.out).2.2)
           (case side2 => exact (Kd.V_reads' HO353.out).2.1)
           rintro e w117 ⟨v358, rfl, ho0, hb⟩; refine ⟨_, rfl, ?_⟩; replace HO344 := Aside0.mk (Kd.V_below (kV HO344) hb); replace HO347 := Aside0.mk (Kd.V_below (kV HO347) hb); replace HO350 := Aside0.mk (Kd.V_below (kV HO350) hb); replace HO353 := Aside0.mk (Kd.V_below (kV HO353) hb); replace HO356 := Aside0.mk (Kd.V_below (kV HO356) hb); have HO359 := Aside0.mk (Kd.V_lower (Kd.V_mono (ok' := fun k_ => k_ ≠ gb334 ∧ k_ ≠ gb335) ho0 (fun k_ hk_ => ⟨(Kd.freshB BK334.out k_ hk_), (Kd.freshB BK335.out k_ hk_)⟩)) (below_size HB.out)); replace BK334 := Aside0.mk (blk_below BK334.out hb); replace BK335 := Aside0.mk (blk_below BK335.out hb); replace HB := Aside0.mk (below_step HB.out hb)
           (try clear hb)
           (try clear hb2)
           (try clear hk)
           (try clear hi)
           (try clear ho0)
           obtain ⟨Ao118, co118, eo118⟩ := Kd.V_slice HO359.out
           (first | subst eo118 | (injection eo118 with f1_ f2_ f3_; have f4_ := f1_.symm; have f5_ := f3_.symm; clear f1_ f2_ f3_; subst f4_; subst f5_))
           refine hK.out _ _ ⟨bc BK334 0, bc BK334 1, bc BK334 2, bc BK334 3, bc BK335 0, bc BK335 1, bc BK335 2, bc BK335 3⟩ (fun hHeld => ?_); clear hK K; refine norm_ (a' := ?_) ?_ ?_; rotate_left
           · show Act.put _ (some 89) _ = _
             exact APq
           refine pure_ (i := 9) (N := some 90) (v := ?_) (a' := ?_) #[true, true, true, true, true, true, true, true, true, true, false, false] rfl rfl (any_of HT_.out (by kernel_rfl)) (fun _ _ _ h => h) (Or.inl ⟨by rfl, ?_⟩) ?_ ?_; rotate_left
           · intro w'
             go_simp
             with_reducible rfl
           rotate_left
           · exact APq
           refine one_ (i := 10) (N := some 13) #[true, true, true, true, true, true, true, true, true, true, true, false] rfl rfl (one_of HT_.out (by kernel_rfl)) (by decide) (fun K hK => ?_)
           refine box_step ?hg (N := 13) ?hd (cs := #[.bool false, .int .i64 0, .slice none 0 0]) (t := 62) ?hr ?_; (case hd => rfl); (case hg => rfl); (case hr => first | (go_simp; done) | (go_simp; rfl))
           intro gb360 hg w119 hbox hb; replace HO344 := Aside0.mk (Kd.V_below (Kd.V_elderB (kV HO344) gb360 (Nat.le_of_eq hg.symm)) hb); replace HO347 := Aside0.mk (Kd.V_below (Kd.V_elderB (kV HO347) gb360 (Nat.le_of_eq hg.symm)) hb); replace HO350 := Aside0.mk (Kd.V_below (Kd.V_elderB (kV HO350) gb360 (Nat.le_of_eq hg.symm)) hb); replace HO353 := Aside0.mk (Kd.V_below (Kd.V_elderB (kV HO353) gb360 (Nat.le_of_eq hg.symm)) hb); replace HO356 := Aside0.mk (Kd.V_below (Kd.V_elderB (kV HO356) gb360 (Nat.le_of_eq hg.symm)) hb); replace HO359 := Aside0.mk (Kd.V_below (Kd.V_elderB (kV HO359) gb360 (Nat.le_of_eq hg.symm)) hb); have BK360 := Aside0.mk (hbox); have GW360 := gsz hg HB; have GE360 := gsz hg HB; replace HB := Aside0.mk (below_step HB.out hb); have NB334_360 := gne hg BK334; have NB360_334 := gen hg BK334; replace BK334 := Aside0.mk (blk_below BK334.out hb); have NB335_360 := gne hg BK335; have NB360_335 := gen hg BK335; replace BK335 := Aside0.mk (blk_below BK335.out hb); clear hb hbox hg; refine hK.out _ _ ⟨bc BK334 0, bc BK334 1, bc BK334 2, bc BK334 3, bc BK335 0, bc BK335 1, bc BK335 2, bc BK335 3⟩ (fun hHeld => ?_); clear hK K; refine norm_ (a' := ?_) ?_ ?_; rotate_left
           · show Act.put _ (some 13) _ = _
             exact APq
           exact norm_ PAq (hCont (.slice Ao118 t357.length co118, gb360) _ ⟨hHeld, (by (with_reducible repeat (first | apply Kd.V_alloc | apply Kd.V_drewN | apply Kd.V_drew)); exact Kd.V_mono HO344.out (fun _ hk => ⟨hk.1.1, ⟨hk.1.2, hk.2⟩⟩)), (by (with_reducible repeat (first | apply Kd.V_alloc | apply Kd.V_drewN | apply Kd.V_drew)); exact Kd.V_mono HO347.out (fun _ hk => ⟨hk.1.1, ⟨hk.1.2, hk.2⟩⟩)), (by (with_reducible repeat (first | apply Kd.V_alloc | apply Kd.V_drewN | apply Kd.V_drew)); exact Kd.V_mono HO350.out (fun _ hk => ⟨hk.1.1, ⟨hk.1.2, hk.2⟩⟩)), (by (with_reducible repeat (first | apply Kd.V_alloc | apply Kd.V_drewN | apply Kd.V_drew)); exact Kd.V_mono HO353.out (fun _ hk => ⟨hk.1.1, ⟨hk.1.2, hk.2⟩⟩)), (by (with_reducible repeat (first | apply Kd.V_alloc | apply Kd.V_drewN | apply Kd.V_drew)); exact Kd.V_mono HO356.out (fun _ hk => ⟨hk.1.1, ⟨hk.1.2, hk.2⟩⟩)), (by (with_reducible repeat (first | apply Kd.V_alloc | apply Kd.V_drewN | apply Kd.V_drew)); exact Kd.V_mono HO359.out (fun _ hk => ⟨hk.1.1, ⟨hk.1.2, hk.2⟩⟩)), BK334.out, BK335.out, BK360.out, GW360.out, GE360.out, NB334_360.out, NB360_334.out, NB335_360.out, NB360_335.out, HB.out⟩)
         skip
         refine box_step ?hg (N := 13) ?hd (cs := #[.bool false, .int .i64 0, .slice none 0 0]) (t := 62) ?hr ?_; (case hd => rfl); (case hg => rfl); (case hr => first | (go_simp; done) | (go_simp; rfl))
         intro gb360 hg w117 hbox hb; replace HO344 := Aside0.mk (Kd.V_below (Kd.V_elderB (kV HO344) gb360 (Nat.le_of_eq hg.symm)) hb); replace HO347 := Aside0.mk (Kd.V_below (Kd.V_elderB (kV HO347) gb360 (Nat.le_of_eq hg.symm)) hb); replace HO350 := Aside0.mk (Kd.V_below (Kd.V_elderB (kV HO350) gb360 (Nat.le_of_eq hg.symm)) hb); replace HO353 := Aside0.mk (Kd.V_below (Kd.V_elderB (kV HO353) gb360 (Nat.le_of_eq hg.symm)) hb); replace HO356 := Aside0.mk (Kd.V_below (Kd.V_elderB (kV HO356) gb360 (Nat.le_of_eq hg.symm)) hb); have BK360 := Aside0.mk (hbox); have GW360 := gsz hg HB; have GE360 := gsz hg HB; replace HB := Aside0.mk (below_step HB.out hb); have NB334_360 := gne hg BK334; have NB360_334 := gen hg BK334; replace BK334 := Aside0.mk (blk_below BK334.out hb); have NB335_360 := gne hg BK335; have NB360_335 := gen hg BK335; replace BK335 := Aside0.mk (blk_below BK335.out hb); clear hb hbox hg; refine hK.out _ _ ⟨bc BK334 0, bc BK334 1, bc BK334 2, bc BK334 3, bc BK335 0, bc BK335 1, bc BK335 2, bc BK335 3⟩ (fun hHeld => ?_); clear hK K; refine norm_ (a' := ?_) ?_ ?_; rotate_left
         · show Act.put _ (some 13) _ = _
           exact APq
         refine one_ (i := 8) (N := some 89) #[true, true, true, true, true, true, true, true, true, false, true, false] rfl rfl (one_of HT_.out (by kernel_rfl)) (by decide) (fun K hK => ?_); refine goes_ Try.func26 (by kernel_rfl) rfl #[.slice Ao115 t351.length co115, .int .i64 1] (by rfl) rfl rfl LMq ?_
         with_reducible refine (r2_Shl.calls kj46 _ _ t351 1 t357 _ ?side1 ?side2 A66.out).mono ?_
         (case side1 => exact kC (Kd.V_reads' HO353.out).2.2)
         (case side2 => exact (Kd.V_reads' HO353.out).2.1)
         rintro e w118 ⟨v358, rfl, ho0, hb⟩; refine ⟨_, rfl, ?_⟩; replace HO344 := Aside0.mk (Kd.V_below (kV HO344) hb); replace HO347 := Aside0.mk (Kd.V_below (kV HO347) hb); replace HO350 := Aside0.mk (Kd.V_below (kV HO350) hb); replace HO353 := Aside0.mk (Kd.V_below (kV HO353) hb); replace HO356 := Aside0.mk (Kd.V_below (kV HO356) hb); have HO359 := Aside0.mk (Kd.V_lower (Kd.V_mono (ok' := fun k_ => k_ ≠ gb334 ∧ k_ ≠ gb335 ∧ k_ ≠ gb360) ho0 (fun k_ hk_ => ⟨(Kd.freshB BK334.out k_ hk_), (Kd.freshB BK335.out k_ hk_), (Kd.freshB BK360.out k_ hk_)⟩)) (below_size HB.out)); replace BK334 := Aside0.mk (blk_below BK334.out hb); replace BK335 := Aside0.mk (blk_below BK335.out hb); replace BK360 := Aside0.mk (blk_below BK360.out hb); replace HB := Aside0.mk (below_step HB.out hb)
         (try clear hb)
         (try clear hb2)
         (try clear hk)
         (try clear hi)
         (try clear ho0)
         obtain ⟨Ao119, co119, eo119⟩ := Kd.V_slice HO359.out
         (first | subst eo119 | (injection eo119 with f1_ f2_ f3_; have f4_ := f1_.symm; have f5_ := f3_.symm; clear f1_ f2_ f3_; subst f4_; subst f5_))
         refine hK.out _ _ ⟨bc BK334 0, bc BK334 1, bc BK334 2, bc BK334 3, bc BK335 0, bc BK335 1, bc BK335 2, bc BK335 3⟩ (fun hHeld => ?_); clear hK K; refine norm_ (a' := ?_) ?_ ?_; rotate_left
         · show Act.put _ (some 89) _ = _
           exact APq
         refine pure_ (i := 9) (N := some 90) (v := ?_) (a' := ?_) #[true, true, true, true, true, true, true, true, true, true, true, false] rfl rfl (any_of HT_.out (by kernel_rfl)) (fun _ _ _ h => h) (Or.inl ⟨by rfl, ?_⟩) ?_ ?_; rotate_left
         · intro w'
           go_simp
           with_reducible rfl
         rotate_left
         · exact APq
         exact norm_ PAq (hCont (.slice Ao119 t357.length co119, gb360) _ ⟨hHeld, (by (with_reducible repeat (first | apply Kd.V_alloc | apply Kd.V_drewN | apply Kd.V_drew)); exact Kd.V_mono HO344.out (fun _ hk => ⟨hk.1.1, ⟨hk.1.2, hk.2⟩⟩)), (by (with_reducible repeat (first | apply Kd.V_alloc | apply Kd.V_drewN | apply Kd.V_drew)); exact Kd.V_mono HO347.out (fun _ hk => ⟨hk.1.1, ⟨hk.1.2, hk.2⟩⟩)), (by (with_reducible repeat (first | apply Kd.V_alloc | apply Kd.V_drewN | apply Kd.V_drew)); exact Kd.V_mono HO350.out (fun _ hk => ⟨hk.1.1, ⟨hk.1.2, hk.2⟩⟩)), (by (with_reducible repeat (first | apply Kd.V_alloc | apply Kd.V_drewN | apply Kd.V_drew)); exact Kd.V_mono HO353.out (fun _ hk => ⟨hk.1.1, ⟨hk.1.2, hk.2⟩⟩)), (by (with_reducible repeat (first | apply Kd.V_alloc | apply Kd.V_drewN | apply Kd.V_drew)); exact Kd.V_mono HO356.out (fun _ hk => ⟨hk.1.1, ⟨hk.1.2, hk.2⟩⟩)), (kV HO359), BK334.out, BK335.out, BK360.out, GW360.out, GE360.out, NB334_360.out, NB360_334.out, NB335_360.out, NB360_335.out, HB.out⟩)
       rintro ⟨v358, gb360⟩ w120 ⟨hS_, h0_, h1_, h2_, h3_, h4_, h5_, h6_, h7_, h8_, h9_, h10_, h11_, h12_, h13_, h14_, h15_⟩; replace HO344 : Aside0 (Kd.V (Kd.int .u32) 86 w120 w.heap.size (fun k_ => k_ ≠ gb334 ∧ k_ ≠ gb335 ∧ k_ ≠ gb360) (.slice Ao109 t342.length co109) t342) := ⟨h0_⟩; replace HO347 : Aside0 (Kd.V (Kd.int .u32) 86 w120 w.heap.size (fun k_ => k_ ≠ gb334 ∧ k_ ≠ gb335 ∧ k_ ≠ gb360) (.slice Ao112 t345.length co112) t345) := ⟨h1_⟩; replace HO350 : Aside0 (Kd.V (Kd.int .u32) 86 w120 w.heap.size (fun k_ => k_ ≠ gb334 ∧ k_ ≠ gb335 ∧ k_ ≠ gb360) (.slice Ao113 t348.length co113) t348) := ⟨h2_⟩; replace HO353 : Aside0 (Kd.V (Kd.int .u32) 86 w120 w.heap.size (fun k_ => k_ ≠ gb334 ∧ k_ ≠ gb335 ∧ k_ ≠ gb360) (.slice Ao115 t351.length co115) t351) := ⟨h3_⟩; replace HO356 : Aside0 (Kd.V (Kd.int .u32) 86 w120 w.heap.size (fun k_ => k_ ≠ gb334 ∧ k_ ≠ gb335 ∧ k_ ≠ gb360) v355 t354) := ⟨h4_⟩; have HO359 : Aside0 (Kd.V (Kd.int .u32) 86 w120 w.heap.size (fun k_ => k_ ≠ gb334 ∧ k_ ≠ gb335 ∧ k_ ≠ gb360) v358 t357) := ⟨h5_⟩; replace BK334 : Aside0 (w120.heap[gb334]? = some (.cells #[.bool t326, .int .i64 t327, .int .i64 t328, .int .u64 t329] 51 (0, 0))) := ⟨h6_⟩; replace BK335 : Aside0 (w120.heap[gb335]? = some (.cells #[.bool t330, .int .i64 t331, .int .i64 t332, .int .u64 t333] 51 (0, 0))) := ⟨h7_⟩; have BK360 : Aside0 (w120.heap[gb360]? = some (.cells #[.bool false, .int .i64 0, .slice none 0 0] 62 (0, 0))) := ⟨h8_⟩; have GW360 : Aside0 (w.heap.size ≤ gb360) := ⟨h9_⟩; have GE360 : Aside0 (w.heap.size ≤ gb360) := ⟨h10_⟩; have NB334_360 : Aside0 (gb334 ≠ gb360) := ⟨h11_⟩; have NB360_334 : Aside0 (gb360 ≠ gb334) := ⟨h12_⟩; have NB335_360 : Aside0 (gb335 ≠ gb360) := ⟨h13_⟩; have NB360_335 : Aside0 (gb360 ≠ gb335) := ⟨h14_⟩; replace HB : Aside0 (Below w.heap.size w w120) := ⟨h15_⟩; clear h0_ h1_ h2_ h3_ h4_ h5_ h6_ h7_ h8_ h9_ h10_ h11_ h12_ h13_ h14_ h15_; have hHeld : w120.cell? ⟨gb334, 0, none⟩ = some (.bool t326) ∧ w120.cell? ⟨gb334, 1, none⟩ = some (.int .i64 t327) ∧ w120.cell? ⟨gb334, 2, none⟩ = some (.int .i64 t328) ∧ w120.cell? ⟨gb334, 3, none⟩ = some (.int .u64 t329) ∧ w120.cell? ⟨gb335, 0, none⟩ = some (.bool t330) ∧ w120.cell? ⟨gb335, 1, none⟩ = some (.int .i64 t331) ∧ w120.cell? ⟨gb335, 2, none⟩ = some (.int .i64 t332) ∧ w120.cell? ⟨gb335, 3, none⟩ = some (.int .u64 t333) := hS_; obtain ⟨Ao121, co121, eo121⟩ := Kd.V_slice HO359.out
       (first | subst eo121 | (injection eo121 with f1_ f2_ f3_; have f4_ := f1_.symm; have f5_ := f3_.symm; clear f1_ f2_ f3_; subst f4_; subst f5_))
       refine norm_ (a' := ?_) ?_ ?_; rotate_left
       · simp only [putAll, Act.put, List.setIfInBounds_toArray, List.set_cons_zero, List.set_cons_succ]
         rfl
       refine one_ (i := 11) (N := none) #[true, true, true, true, true, true, true, true, true, true, true, true] rfl rfl (one_of HT_.out (by kernel_rfl)) (by decide) (fun K hK => ?_); have hs122 : w120.cell? ⟨gb360, 0, none⟩ = some (.bool false) := bc BK360 0; have hfs122 := blk_frozen BK360.out 0; have hns122_0 := NB334_360.out; have hns122_1 := NB335_360.out; have hms122_0 := NB360_334.out; have hms122_1 := NB360_335.out; have hs123 : w120.cell? ⟨gb360, 1, none⟩ = some (.int .i64 0) := bc BK360 1; have hfs123 := blk_frozen BK360.out 1; have hns123_0 := NB334_360.out; have hns123_1 := NB335_360.out; have hms123_0 := NB360_334.out; have hms123_1 := NB360_335.out; have hs124 : w120.cell? ⟨gb360, 2, none⟩ = some (.slice none 0 0) := bc BK360 2; have hfs124 := blk_frozen BK360.out 2; have hns124_0 := NB334_360.out; have hns124_1 := NB335_360.out; have hms124_0 := NB360_334.out; have hms124_1 := NB360_335.out; refine skip_ (w1 := ?_) (by rfl) rfl ?_ ?_; rotate_left
       · go_simp
         rfl
       refine hK.out _ _ ⟨((cell_far (p := ⟨gb360, _, none⟩) NB334_360.out _).trans (((cell_far (p := ⟨gb360, _, none⟩) NB334_360.out _).trans (((cell_far (p := ⟨gb360, _, none⟩) NB334_360.out _).trans (hHeld.1)))))), ((cell_far (p := ⟨gb360, _, none⟩) NB334_360.out _).trans (((cell_far (p := ⟨gb360, _, none⟩) NB334_360.out _).trans (((cell_far (p := ⟨gb360, _, none⟩) NB334_360.out _).trans (hHeld.2.1)))))), ((cell_far (p := ⟨gb360, _, none⟩) NB334_360.out _).trans (((cell_far (p := ⟨gb360, _, none⟩) NB334_360.out _).trans (((cell_far (p := ⟨gb360, _, none⟩) NB334_360.out _).trans (hHeld.2.2.1)))))), ((cell_far (p := ⟨gb360, _, none⟩) NB334_360.out _).trans (((cell_far (p := ⟨gb360, _, none⟩) NB334_360.out _).trans (((cell_far (p := ⟨gb360, _, none⟩) NB334_360.out _).trans (hHeld.2.2.2.1)))))), ((cell_far (p := ⟨gb360, _, none⟩) NB335_360.out _).trans (((cell_far (p := ⟨gb360, _, none⟩) NB335_360.out _).trans (((cell_far (p := ⟨gb360, _, none⟩) NB335_360.out _).trans (hHeld.2.2.2.2.1)))))), ((cell_far (p := ⟨gb360, _, none⟩) NB335_360.out _).trans (((cell_far (p := ⟨gb360, _, none⟩) NB335_360.out _).trans (((cell_far (p := ⟨gb360, _, none⟩) NB335_360.out _).trans (hHeld.2.2.2.2.2.1)))))), ((cell_far (p := ⟨gb360, _, none⟩) NB335_360.out _).trans (((cell_far (p := ⟨gb360, _, none⟩) NB335_360.out _).trans (((cell_far (p := ⟨gb360, _, none⟩) NB335_360.out _).trans (hHeld.2.2.2.2.2.2.1)))))), ((cell_far (p := ⟨gb360, _, none⟩) NB335_360.out _).trans (((cell_far (p := ⟨gb360, _, none⟩) NB335_360.out _).trans (((cell_far (p := ⟨gb360, _, none⟩) NB335_360.out _).trans (hHeld.2.2.2.2.2.2.2))))))⟩ (fun hHeld => ?_); clear hK K; refine done_ (done_of HT_.out (by kernel_rfl)) ?_; have n0_ : Aside0 (Kd.V (Kd.int .u32) 86 (((w120.setCell ⟨gb360, 0, none⟩ (.bool (t326 != t330))).setCell ⟨gb360, 1, none⟩ (.int .i64 (wrap64 ((wrap64 (t328 - t332)) - 121)))).setCell ⟨gb360, 2, none⟩ (.slice Ao121 t357.length co121)) w.heap.size (fun k_ => k_ ≠ gb334 ∧ k_ ≠ gb335 ∧ k_ ≠ gb360) (.slice Ao109 t342.length co109) t342) := ⟨by (with_reducible repeat (first | apply Kd.V_alloc | apply Kd.V_drewN | apply Kd.V_drew)); exact Kd.V_mono (Kd.V_far (p := ⟨gb360, 2, none⟩) (Kd.V_far (p := ⟨gb360, 1, none⟩) (Kd.V_far (p := ⟨gb360, 0, none⟩) (Kd.V_mono HO344.out (fun k_ hk => (⟨hk, hk.2.2⟩ : _ ∧ k_ ≠ gb360))) (fun _ hk => hk.2) (.bool (t326 != t330))) (fun _ hk => hk.2) (.int .i64 (wrap64 ((wrap64 (t328 - t332)) - 121)))) (fun _ hk => hk.2) (.slice Ao121 t357.length co121)) (fun _ hk => ⟨hk.1.1, ⟨hk.1.2.1, hk.1.2.2⟩⟩)⟩; have n1_ : Aside0 (Kd.V (Kd.int .u32) 86 (((w120.setCell ⟨gb360, 0, none⟩ (.bool (t326 != t330))).setCell ⟨gb360, 1, none⟩ (.int .i64 (wrap64 ((wrap64 (t328 - t332)) - 121)))).setCell ⟨gb360, 2, none⟩ (.slice Ao121 t357.length co121)) w.heap.size (fun k_ => k_ ≠ gb334 ∧ k_ ≠ gb335 ∧ k_ ≠ gb360) (.slice Ao112 t345.length co112) t345) := ⟨by (with_reducible repeat (first | apply Kd.V_alloc | apply Kd.V_drewN | apply Kd.V_drew)); exact Kd.V_mono (Kd.V_far (p := ⟨gb360, 2, none⟩) (Kd.V_far (p := ⟨gb360, 1, none⟩) (Kd.V_far (p := ⟨gb360, 0, none⟩) (Kd.V_mono HO347.out (fun k_ hk => (⟨hk, hk.2.2⟩ : _ ∧ k_ ≠ gb360))) (fun _ hk => hk.2) (.bool (t326 != t330))) (fun _ hk => hk.2) (.int .i64 (wrap64 ((wrap64 (t328 - t332)) - 121)))) (fun _ hk => hk.2) (.slice Ao121 t357.length co121)) (fun _ hk => ⟨hk.1.1, ⟨hk.1.2.1, hk.1.2.2⟩⟩)⟩; have n2_ : Aside0 (Kd.V (Kd.int .u32) 86 (((w120.setCell ⟨gb360, 0, none⟩ (.bool (t326 != t330))).setCell ⟨gb360, 1, none⟩ (.int .i64 (wrap64 ((wrap64 (t328 - t332)) - 121)))).setCell ⟨gb360, 2, none⟩ (.slice Ao121 t357.length co121)) w.heap.size (fun k_ => k_ ≠ gb334 ∧ k_ ≠ gb335 ∧ k_ ≠ gb360) (.slice Ao113 t348.length co113) t348) := ⟨by (with_reducible repeat (first | apply Kd.V_alloc | apply Kd.V_drewN | apply Kd.V_drew)); exact Kd.V_mono (Kd.V_far (p := ⟨gb360, 2, none⟩) (Kd.V_far (p := ⟨gb360, 1, none⟩) (Kd.V_far (p := ⟨gb360, 0, none⟩) (Kd.V_mono HO350.out (fun k_ hk => (⟨hk, hk.2.2⟩ : _ ∧ k_ ≠ gb360))) (fun _ hk => hk.2) (.bool (t326 != t330))) (fun _ hk => hk.2) (.int .i64 (wrap64 ((wrap64 (t328 - t332)) - 121)))) (fun _ hk => hk.2) (.slice Ao121 t357.length co121)) (fun _ hk => ⟨hk.1.1, ⟨hk.1.2.1, hk.1.2.2⟩⟩)⟩; have n3_ : Aside0 (Kd.V (Kd.int .u32) 86 (((w120.setCell ⟨gb360, 0, none⟩ (.bool (t326 != t330))).setCell ⟨gb360, 1, none⟩ (.int .i64 (wrap64 ((wrap64 (t328 - t332)) - 121)))).setCell ⟨gb360, 2, none⟩ (.slice Ao121 t357.length co121)) w.heap.size (fun k_ => k_ ≠ gb334 ∧ k_ ≠ gb335 ∧ k_ ≠ gb360) (.slice Ao115 t351.length co115) t351) := ⟨by (with_reducible repeat (first | apply Kd.V_alloc | apply Kd.V_drewN | apply Kd.V_drew)); exact Kd.V_mono (Kd.V_far (p := ⟨gb360, 2, none⟩) (Kd.V_far (p := ⟨gb360, 1, none⟩) (Kd.V_far (p := ⟨gb360, 0, none⟩) (Kd.V_mono HO353.out (fun k_ hk => (⟨hk, hk.2.2⟩ : _ ∧ k_ ≠ gb360))) (fun _ hk => hk.2) (.bool (t326 != t330))) (fun _ hk => hk.2) (.int .i64 (wrap64 ((wrap64 (t328 - t332)) - 121)))) (fun _ hk => hk.2) (.slice Ao121 t357.length co121)) (fun _ hk => ⟨hk.1.1, ⟨hk.1.2.1, hk.1.2.2⟩⟩)⟩; have n4_ : Aside0 (Kd.V (Kd.int .u32) 86 (((w120.setCell ⟨gb360, 0, none⟩ (.bool (t326 != t330))).setCell ⟨gb360, 1, none⟩ (.int .i64 (wrap64 ((wrap64 (t328 - t332)) - 121)))).setCell ⟨gb360, 2, none⟩ (.slice Ao121 t357.length co121)) w.heap.size (fun k_ => k_ ≠ gb334 ∧ k_ ≠ gb335 ∧ k_ ≠ gb360) v355 t354) := ⟨by (with_reducible repeat (first | apply Kd.V_alloc | apply Kd.V_drewN | apply Kd.V_drew)); exact Kd.V_mono (Kd.V_far (p := ⟨gb360, 2, none⟩) (Kd.V_far (p := ⟨gb360, 1, none⟩) (Kd.V_far (p := ⟨gb360, 0, none⟩) (Kd.V_mono HO356.out (fun k_ hk => (⟨hk, hk.2.2⟩ : _ ∧ k_ ≠ gb360))) (fun _ hk => hk.2) (.bool (t326 != t330))) (fun _ hk => hk.2) (.int .i64 (wrap64 ((wrap64 (t328 - t332)) - 121)))) (fun _ hk => hk.2) (.slice Ao121 t357.length co121)) (fun _ hk => ⟨hk.1.1, ⟨hk.1.2.1, hk.1.2.2⟩⟩)⟩; have n5_ : Aside0 (Kd.V (Kd.int .u32) 86 (((w120.setCell ⟨gb360, 0, none⟩ (.bool (t326 != t330))).setCell ⟨gb360, 1, none⟩ (.int .i64 (wrap64 ((wrap64 (t328 - t332)) - 121)))).setCell ⟨gb360, 2, none⟩ (.slice Ao121 t357.length co121)) w.heap.size (fun k_ => k_ ≠ gb334 ∧ k_ ≠ gb335 ∧ k_ ≠ gb360) (.slice Ao121 t357.length co121) t357) := ⟨by (with_reducible repeat (first | apply Kd.V_alloc | apply Kd.V_drewN | apply Kd.V_drew)); exact Kd.V_mono (Kd.V_far (p := ⟨gb360, 2, none⟩) (Kd.V_far (p := ⟨gb360, 1, none⟩) (Kd.V_far (p := ⟨gb360, 0, none⟩) (Kd.V_mono HO359.out (fun k_ hk => (⟨hk, hk.2.2⟩ : _ ∧ k_ ≠ gb360))) (fun _ hk => hk.2) (.bool (t326 != t330))) (fun _ hk => hk.2) (.int .i64 (wrap64 ((wrap64 (t328 - t332)) - 121)))) (fun _ hk => hk.2) (.slice Ao121 t357.length co121)) (fun _ hk => ⟨hk.1.1, ⟨hk.1.2.1, hk.1.2.2⟩⟩)⟩; have n6_ : Aside0 ((((w120.setCell ⟨gb360, 0, none⟩ (.bool (t326 != t330))).setCell ⟨gb360, 1, none⟩ (.int .i64 (wrap64 ((wrap64 (t328 - t332)) - 121)))).setCell ⟨gb360, 2, none⟩ (.slice Ao121 t357.length co121)).heap[gb334]? = some (.cells #[.bool t326, .int .i64 t327, .int .i64 t328, .int .u64 t329] 51 (0, 0))) := ⟨by (with_reducible repeat (first | refine blk_drewN ?_ _ | refine blk_drew ?_ | refine blk_alloc ?_ _)); refine blk_far ?_ NB334_360.out _; refine blk_far ?_ NB334_360.out _; refine blk_far ?_ NB334_360.out _; (with_reducible repeat (first | refine blk_drewN ?_ _ | refine blk_drew ?_ | refine blk_alloc ?_ _)); exact BK334.out⟩; have n7_ : Aside0 ((((w120.setCell ⟨gb360, 0, none⟩ (.bool (t326 != t330))).setCell ⟨gb360, 1, none⟩ (.int .i64 (wrap64 ((wrap64 (t328 - t332)) - 121)))).setCell ⟨gb360, 2, none⟩ (.slice Ao121 t357.length co121)).heap[gb335]? = some (.cells #[.bool t330, .int .i64 t331, .int .i64 t332, .int .u64 t333] 51 (0, 0))) := ⟨by (with_reducible repeat (first | refine blk_drewN ?_ _ | refine blk_drew ?_ | refine blk_alloc ?_ _)); refine blk_far ?_ NB335_360.out _; refine blk_far ?_ NB335_360.out _; refine blk_far ?_ NB335_360.out _; (with_reducible repeat (first | refine blk_drewN ?_ _ | refine blk_drew ?_ | refine blk_alloc ?_ _)); exact BK335.out⟩; have n8_ : Aside0 ((((w120.setCell ⟨gb360, 0, none⟩ (.bool (t326 != t330))).setCell ⟨gb360, 1, none⟩ (.int .i64 (wrap64 ((wrap64 (t328 - t332)) - 121)))).setCell ⟨gb360, 2, none⟩ (.slice Ao121 t357.length co121)).heap[gb360]? = some (.cells #[.bool (t326 != t330), .int .i64 (wrap64 ((wrap64 (t328 - t332)) - 121)), .slice Ao121 t357.length co121] 62 (0, 0))) := ⟨by (with_reducible repeat (first | refine blk_drewN ?_ _ | refine blk_drew ?_ | refine blk_alloc ?_ _)); refine blk_put (cs := #[.bool (t326 != t330), .int .i64 (wrap64 ((wrap64 (t328 - t332)) - 121)), .slice none 0 0]) ?_ 2 _ rfl; refine blk_put (cs := #[.bool (t326 != t330), .int .i64 0, .slice none 0 0]) ?_ 1 _ rfl; refine blk_put (cs := #[.bool false, .int .i64 0, .slice none 0 0]) ?_ 0 _ rfl; (with_reducible repeat (first | refine blk_drewN ?_ _ | refine blk_drew ?_ | refine blk_alloc ?_ _)); exact BK360.out⟩; have n9_ : Aside0 (Below w.heap.size w (((w120.setCell ⟨gb360, 0, none⟩ (.bool (t326 != t330))).setCell ⟨gb360, 1, none⟩ (.int .i64 (wrap64 ((wrap64 (t328 - t332)) - 121)))).setCell ⟨gb360, 2, none⟩ (.slice Ao121 t357.length co121))) := ⟨by repeat (first | (with_reducible first | exact HB.out | apply below_alloc | apply pw_below_drewN | apply below_drew1 | refine below_set ?_ GE334.out | refine below_set ?_ GE335.out | refine below_set ?_ GE360.out) | exact HB.out)⟩
       (try clear HO344)
       (try clear HO347)
       (try clear HO350)
       (try clear HO353)
       (try clear HO356)
       (try clear HO359)
       (try clear BK334)
       (try clear BK335)
       (try clear BK360)
       (try clear HB)
       generalize (((w120.setCell ⟨gb360, 0, none⟩ (.bool (t326 != t330))).setCell ⟨gb360, 1, none⟩ (.int .i64 (wrap64 ((wrap64 (t328 - t332)) - 121)))).setCell ⟨gb360, 2, none⟩ (.slice Ao121 t357.length co121)) = w125 at n0_ n1_ n2_ n3_ n4_ n5_ n6_ n7_ n8_ n9_ ⊢
       have HO344 := n0_; have HO347 := n1_; have HO350 := n2_; have HO353 := n3_; have HO356 := n4_; have HO359 := n5_; have BK334 := n6_; have BK335 := n7_; have BK360 := n8_; have HB := n9_; clear n0_ n1_ n2_ n3_ n4_ n5_ n6_ n7_ n8_ n9_; obtain ⟨Ao126, co126, eo126⟩ := Kd.V_slice HO356.out; subst eo126; have hnb127 := NB360_334.out; have hnc127 := NB334_360.out; have hnb128 := NB360_335.out; have hnc128 := NB335_360.out; have hcz129_0 : w125.cell? ⟨gb360, 0, none⟩ = some (.bool (t326 != t330)) := bc BK360 0; have hcz129_1 : w125.cell? ⟨gb360, 1, none⟩ = some (.int .i64 (wrap64 ((wrap64 (t328 - t332)) - 121))) := bc BK360 1; have hcz129_2 : w125.cell? ⟨gb360, 2, none⟩ = some (.slice Ao121 t357.length co121) := bc BK360 2; have hfz129_0 := blk_frozen BK360.out 0; have hfz129_1 := blk_frozen BK360.out 1; have hfz129_2 := blk_frozen BK360.out 2
       try go_wp2_with (first | ((with_reducible refine gate_callee (f := 29) rfl ?_); refine goesL_ (some 101) rfl rfl Try.func29 (by kernel_rfl) rfl #[.agg #[.bool (t326 != t330), .int .i64 (wrap64 ((wrap64 (t328 - t332)) - 121)), .slice Ao121 t357.length co121], .int .i64 a2] rfl LMq ?_; (with_reducible refine (r4_Round.calls kj46 (t326 != t330) (wrap64 ((wrap64 (t328 - t332)) - 121)) (fun k_ => (k_ ≠ gb334 ∧ (k_ ≠ gb335 ∧ k_ ≠ gb360))) _ _ t357 a2 t369 t370 _ ?side1 A104.out).mono ?_); (case side1 => exact HO359.out); rintro e w130 ⟨rfl, hb⟩; refine ⟨_, rfl, ?_⟩; replace HO344 := Aside0.mk (Kd.V_below (kV HO344) hb); replace HO347 := Aside0.mk (Kd.V_below (kV HO347) hb); replace HO350 := Aside0.mk (Kd.V_below (kV HO350) hb); replace HO353 := Aside0.mk (Kd.V_below (kV HO353) hb); replace HO356 := Aside0.mk (Kd.V_below (kV HO356) hb); replace HO359 := Aside0.mk (Kd.V_below (kV HO359) hb); replace BK334 := Aside0.mk (blk_below (g := gb334) (o := .cells #[.bool t326, .int .i64 t327, .int .i64 t328, .int .u64 t329] 51 (0, 0)) (kB BK334) hb); replace BK335 := Aside0.mk (blk_below (g := gb335) (o := .cells #[.bool t330, .int .i64 t331, .int .i64 t332, .int .u64 t333] 51 (0, 0)) (kB BK335) hb); replace BK360 := Aside0.mk (blk_below (g := gb360) (o := .cells #[.bool (t326 != t330), .int .i64 (wrap64 ((wrap64 (t328 - t332)) - 121)), .slice Ao121 t357.length co121] 62 (0, 0)) (kB BK360) hb); replace HB := Aside0.mk (below_step (by repeat (first | (with_reducible first | exact HB.out | apply below_alloc | apply pw_below_drewN | apply below_drew1 | refine below_set ?_ GE334.out | refine below_set ?_ GE335.out | refine below_set ?_ GE360.out) | exact HB.out)) hb); (try clear hb); (try clear hb2); (try clear hk); (try clear hi)))
       go_ret2
       exact ⟨by first | rfl | (simp [errW_none, errW_some] <;> rfl) | (simp [*, errW_none, errW_some] <;> rfl), by repeat (first | (with_reducible first | exact HB.out | apply below_alloc | apply pw_below_drewN | apply below_drew1 | refine below_set ?_ GE334.out | refine below_set ?_ GE335.out | refine below_set ?_ GE360.out) | exact HB.out)⟩
end Go.Proofs.Ytedjlpfggjcmfaa.X
