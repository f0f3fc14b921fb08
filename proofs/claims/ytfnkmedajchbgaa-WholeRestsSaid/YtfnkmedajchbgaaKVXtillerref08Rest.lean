import Derived.Test.YtfnkmedajchbgaaKV4
import Derived.Test.YtfnkmedajchbgaaKVXtillerref02Parts
import Derived.Test.YtfnkmedajchbgaaKVXtillerref04Round
set_option linter.unusedVariables false
set_option linter.unusedSimpArgs false
namespace Go.Proofs.Ytfnkmedajchbgaa.X
open Go.RowKit Go.Proofs.YtfnkmedajchbgaaW.PrintWords Go.Proofs.YtfnkmedajchbgaaW.PrintLast Go.Proofs.YtfnkmedajchbgaaW.PrintMore
attribute [local go_sem] max2_int min2_int max_two min_two max_three min_three max_four min_four
mutual
def r8_Rest.j0 : Nat → Int → Int → Bool → Bool → Bool → Int → Int → Int → Bool → Int → Int → Int → Option (Int × Int)
 | 0, _, _, _, _, _, _, _, _, _, _, _, _ => none
 | k + 1, x0, x1, x2, x28, qx, q01, qr, q05, q0b, q02, qs, q06 => if x28 = true then ((r5_None.f x0 x1).bind fun q0c => (some (9221120237041090560, q0c))) else (if q01 = 3 then (r8_Rest.j1 k x0 x2 true qx q01 qr q05 q0b q02 qs q06) else (r8_Rest.j1 k x0 x2 (q02 == 0) qx q01 qr q05 q0b q02 qs q06))
def r8_Rest.j1 : Nat → Int → Bool → Bool → Bool → Int → Int → Int → Bool → Int → Int → Int → Option (Int × Int)
 | 0, _, _, _, _, _, _, _, _, _, _, _ => none
 | k + 1, x0, x2, x39, qx, q01, qr, q05, q0b, q02, qs, q06 => if x39 = true then (some (9221120237041090560, 1)) else (if q02 = 3 then (r8_Rest.j2 k x0 x2 true qx q01 qr q05 q0b q02 qs q06) else (r8_Rest.j2 k x0 x2 (q01 == 0) qx q01 qr q05 q0b q02 qs q06))
def r8_Rest.j2 : Nat → Int → Bool → Bool → Bool → Int → Int → Int → Bool → Int → Int → Int → Option (Int × Int)
 | 0, _, _, _, _, _, _, _, _, _, _, _ => none
 | k + 1, x0, x2, x47, qx, q01, qr, q05, q0b, q02, qs, q06 => if x47 = true then (some (x0, 0)) else ((r2_Of.f k q05).bind fun qz => ((r2_Shl.f k qz (wrap64 (qr - (mn qr qs)))).bind fun qt => ((r2_Of.f k q06).bind fun qu => ((r2_Shl.f k qu (wrap64 (qs - (mn qr qs)))).bind fun q2 => ((r2_Parts.f k qt q2).bind fun q6 => ((r2_Shl.f k q6.2 1).bind fun qm => ((r2_Cmp.f k qm q2).bind fun qc => (if x2 = true then (if qc > 0 then (r8_Rest.j3 k (mn qr qs) q2 q6.2 qx true) else (if qc = 0 then (if (q6.1.length : Int) > 0 then (if 0 < (q6.1.length : Int) then (r8_Rest.j3 k (mn qr qs) q2 q6.2 qx ((Int.tmod (rd q6.1 0) 2) == 1)) else (none)) else (r8_Rest.j3 k (mn qr qs) q2 q6.2 qx false)) else (r8_Rest.j3 k (mn qr qs) q2 q6.2 qx false))) else (r8_Rest.j3 k (mn qr qs) q2 q6.2 qx false)))))))))
def r8_Rest.j3 : Nat → Int → List Int → List Int → Bool → Bool → Option (Int × Int)
 | 0, _, _, _, _, _ => none
 | k + 1, x10, x12, x14, x15, q3b => if q3b = true then ((r2_Sub.f k x12 x14).bind fun q03 => ((r4_Round.f k (!x15) x10 q03 0).bind fun q0g => (some (q0g.1, 0)))) else ((r4_Round.f k x15 x10 x14 0).bind fun q19 => (some (q19.1, 0)))
end
def r8_Rest.f (k : Nat) (a0 : Int) (a1 : Int) (a2 : Bool) : Option (Int × Int) := (r3_Take.f a0).bind fun qn => ((r3_Take.f a1).bind fun qk => ((r3_NaN.f a0).bind fun q00 => (if q00 = true then (r8_Rest.j0 k a0 a1 a2 true qn.1 qn.2.1 qn.2.2.1 qn.2.2.2 qk.1 qk.2.1 qk.2.2.1 qk.2.2.2) else ((r3_NaN.f a1).bind fun qp => (r8_Rest.j0 k a0 a1 a2 qp qn.1 qn.2.1 qn.2.2.1 qn.2.2.2 qk.1 qk.2.1 qk.2.2.1 qk.2.2.2)))))
theorem r8_Rest.mono_l : ∀ k, (∀ y0 y1 y2 y3 y4 y5 y6 y7 y8 y9 y10 y11, LeO (r8_Rest.j0 k y0 y1 y2 y3 y4 y5 y6 y7 y8 y9 y10 y11) (r8_Rest.j0 (k + 1) y0 y1 y2 y3 y4 y5 y6 y7 y8 y9 y10 y11)) ∧ (∀ y0 y1 y2 y3 y4 y5 y6 y7 y8 y9 y10, LeO (r8_Rest.j1 k y0 y1 y2 y3 y4 y5 y6 y7 y8 y9 y10) (r8_Rest.j1 (k + 1) y0 y1 y2 y3 y4 y5 y6 y7 y8 y9 y10)) ∧ (∀ y0 y1 y2 y3 y4 y5 y6 y7 y8 y9 y10, LeO (r8_Rest.j2 k y0 y1 y2 y3 y4 y5 y6 y7 y8 y9 y10) (r8_Rest.j2 (k + 1) y0 y1 y2 y3 y4 y5 y6 y7 y8 y9 y10)) ∧ (∀ y0 y1 y2 y3 y4, LeO (r8_Rest.j3 k y0 y1 y2 y3 y4) (r8_Rest.j3 (k + 1) y0 y1 y2 y3 y4))
 | 0 => ⟨fun _ _ _ _ _ _ _ _ _ _ _ _ r h => by simp [r8_Rest.j0] at h, fun _ _ _ _ _ _ _ _ _ _ _ r h => by simp [r8_Rest.j1] at h, fun _ _ _ _ _ _ _ _ _ _ _ r h => by simp [r8_Rest.j2] at h, fun _ _ _ _ _ r h => by simp [r8_Rest.j3] at h⟩
 | k + 1 => by
  obtain ⟨ih0, ih1, ih2, ih3⟩ := r8_Rest.mono_l k; refine ⟨?_, ?_, ?_, ?_⟩
  · intro y0 y1 y2 y3 y4 y5 y6 y7 y8 y9 y10 y11
    unfold r8_Rest.j0
    repeat' (with_reducible first | exact ih0 _ _ _ _ _ _ _ _ _ _ _ _ | exact ih1 _ _ _ _ _ _ _ _ _ _ _ | exact ih2 _ _ _ _ _ _ _ _ _ _ _ | exact ih3 _ _ _ _ _ | exact r2_Cmp.mono _ _ _ | exact r2_Of.mono _ _ | exact r2_Parts.mono _ _ _ | exact r2_Shl.mono _ _ _ | exact r2_Sub.mono _ _ _ | exact r4_Round.mono _ _ _ _ _ | exact LeO.refl _ | exact LeO.none _ | refine LeO.ite ?_ ?_ | refine LeO.bind ?_ (fun _ => ?_))
  · intro y0 y1 y2 y3 y4 y5 y6 y7 y8 y9 y10
    unfold r8_Rest.j1
    repeat' (with_reducible first | exact ih0 _ _ _ _ _ _ _ _ _ _ _ _ | exact ih1 _ _ _ _ _ _ _ _ _ _ _ | exact ih2 _ _ _ _ _ _ _ _ _ _ _ | exact ih3 _ _ _ _ _ | exact r2_Cmp.mono _ _ _ | exact r2_Of.mono _ _ | exact r2_Parts.mono _ _ _ | exact r2_Shl.mono _ _ _ | exact r2_Sub.mono _ _ _ | exact r4_Round.mono _ _ _ _ _ | exact LeO.refl _ | exact LeO.none _ | refine LeO.ite ?_ ?_ | refine LeO.bind ?_ (fun _ => ?_))
  · intro y0 y1 y2 y3 y4 y5 y6 y7 y8 y9 y10
    unfold r8_Rest.j2
    repeat' (with_reducible first | exact ih0 _ _ _ _ _ _ _ _ _ _ _ _ | exact ih1 _ _ _ _ _ _ _ _ _ _ _ | exact ih2 _ _ _ _ _ _ _ _ _ _ _ | exact ih3 _ _ _ _ _ | exact r2_Cmp.mono _ _ _ | exact r2_Of.mono _ _ | exact r2_Parts.mono _ _ _ | exact r2_Shl.mono _ _ _ | exact r2_Sub.mono _ _ _ | exact r4_Round.mono _ _ _ _ _ | exact LeO.refl _ | exact LeO.none _ | refine LeO.ite ?_ ?_ | refine LeO.bind ?_ (fun _ => ?_))
  intro y0 y1 y2 y3 y4
  unfold r8_Rest.j3
  repeat' (with_reducible first | exact ih0 _ _ _ _ _ _ _ _ _ _ _ _ | exact ih1 _ _ _ _ _ _ _ _ _ _ _ | exact ih2 _ _ _ _ _ _ _ _ _ _ _ | exact ih3 _ _ _ _ _ | exact r2_Cmp.mono _ _ _ | exact r2_Of.mono _ _ | exact r2_Parts.mono _ _ _ | exact r2_Shl.mono _ _ _ | exact r2_Sub.mono _ _ _ | exact r4_Round.mono _ _ _ _ _ | exact LeO.refl _ | exact LeO.none _ | refine LeO.ite ?_ ?_ | refine LeO.bind ?_ (fun _ => ?_))
theorem r8_Rest.mono : ∀ a0 a1 a2 k, LeO (r8_Rest.f k a0 a1 a2) (r8_Rest.f (k + 1) a0 a1 a2) := by
 intro a0 a1 a2 k; obtain ⟨ih0, ih1, ih2, ih3⟩ := r8_Rest.mono_l k
 unfold r8_Rest.f
 repeat' (with_reducible first | exact ih0 _ _ _ _ _ _ _ _ _ _ _ _ | exact ih1 _ _ _ _ _ _ _ _ _ _ _ | exact ih2 _ _ _ _ _ _ _ _ _ _ _ | exact ih3 _ _ _ _ _ | exact r2_Cmp.mono _ _ _ | exact r2_Of.mono _ _ | exact r2_Parts.mono _ _ _ | exact r2_Shl.mono _ _ _ | exact r2_Sub.mono _ _ _ | exact r4_Round.mono _ _ _ _ _ | exact LeO.refl _ | exact LeO.none _ | refine LeO.ite ?_ ?_ | refine LeO.bind ?_ (fun _ => ?_))
def r8_Rest.T9 : Bool × List (List Nat × List Nat) := (true, [([], []), ([0], [0]), ([1], [1]), ([], []), ([3], [3]), ([], []), ([4, 5], [4, 5]), ([2, 6, 2], [2, 6]), ([], []), ([8], [8]), ([9, 7], [9]), ([], []), ([11], [11]), ([], []), ([12, 13], [12, 13]), ([10, 14, 10], [10, 14]), ([7, 15, 0, 1, 2, 3, 4, 5, 6, 7], [7]), ([15, 16, 0, 1, 2, 3, 4, 5, 6, 7, 8, 9, 10, 11, 12, 13, 14, 15, 16], [15])])
def r8_Rest.B9 : List Nat := [0, 1, 3, 0, 8, 0, 56, 127, 0, 256, 1023, 0, 2048, 0, 14336, 32767, 65535, 131071]
theorem r8_Rest.tab9 : rtab .any (opsOf Try.f18 9) = r8_Rest.T9 := by kernel_rfl
theorem r8_Rest.bits9 : waitsOk r8_Rest.T9.2 r8_Rest.B9 = true := by kernel_rfl
set_option maxHeartbeats 8000000 in
set_option maxRecDepth 100000 in
theorem r8_Rest.calls (k : Nat) (a0 : Int) (a1 : Int) (a2 : Bool) (r1 : Int) (r2 : Int) (w : World) (h : r8_Rest.f k a0 a1 a2 = some (r1, r2)) :
 Calls Try.prog 18 #[.int .u64 a0, .int .u64 a1, .bool a2] w fun e w' => e = .returned (.tuple #[.int .u64 r1, .int .i64 r2]) ∧ Below w.heap.size w w' := by
 have hu86 := Try.underlying86; have hu66 := Try.underlying66; have HB := aK (Below.refl w.heap.size w); have H : ((r3_Take.f a0).bind fun qn => ((r3_Take.f a1).bind fun qk => ((r3_NaN.f a0).bind fun q00 => (if q00 = true then (r8_Rest.j0 k a0 a1 a2 true qn.1 qn.2.1 qn.2.2.1 qn.2.2.2 qk.1 qk.2.1 qk.2.2.1 qk.2.2.2) else ((r3_NaN.f a1).bind fun qp => (r8_Rest.j0 k a0 a1 a2 qp qn.1 qn.2.1 qn.2.2.1 qn.2.2.2 qk.1 qk.2.1 qk.2.2.1 qk.2.2.2)))))) = some (r1, r2) := h; clear h; replace H := Option.bind_eq_some_iff.mp H; obtain ⟨⟨q0, q9, q7, qd⟩, A40, H⟩ := H; replace H : ((r3_Take.f a1).bind fun qk => ((r3_NaN.f a0).bind fun q00 => (if q00 = true then (r8_Rest.j0 k a0 a1 a2 true q0 q9 q7 qd qk.1 qk.2.1 qk.2.2.1 qk.2.2.2) else ((r3_NaN.f a1).bind fun qp => (r8_Rest.j0 k a0 a1 a2 qp q0 q9 q7 qd qk.1 qk.2.1 qk.2.2.1 qk.2.2.2))))) = some (r1, r2) := H; have A4 := aK A40; clear A40; replace H := Option.bind_eq_some_iff.mp H; obtain ⟨⟨qg, qa, q8, qe⟩, A50, H⟩ := H; replace H : ((r3_NaN.f a0).bind fun q00 => (if q00 = true then (r8_Rest.j0 k a0 a1 a2 true q0 q9 q7 qd qg qa q8 qe) else ((r3_NaN.f a1).bind fun qp => (r8_Rest.j0 k a0 a1 a2 qp q0 q9 q7 qd qg qa q8 qe)))) = some (r1, r2) := H; have A5 := aK A50; clear A50; have HC6 := aK H; clear H
 go_enter Try.func18, Try.ntmps18
 go_upto_region 2 with (first | ((with_reducible refine gate_callee (f := 50) rfl ?_); refine goesL_ (some 20) rfl rfl Try.func50 (by kernel_rfl) rfl #[.int .u64 a0] rfl (by (try simp only [List.map_toArray, List.map_cons, List.map_nil]); first | done | rfl | (simp only [List.length_drop, List.length_take]; rfl) | (simp [go_sem]; done) | (simp [go_sem, wrap64]; omega)) ?_; (with_reducible refine (r3_Take.calls a0 q0 q9 q7 qd _ A4.out).mono ?_); rintro e w7 ⟨rfl, hb⟩; refine ⟨_, rfl, ?_⟩; replace HB := aK (below_step (kH HB) hb); (try clear hb); (try clear hb2); (try clear hk); (try clear hi)) | ((with_reducible refine gate_callee (f := 50) rfl ?_); refine goesL_ (some 22) rfl rfl Try.func50 (by kernel_rfl) rfl #[.int .u64 a1] rfl (by (try simp only [List.map_toArray, List.map_cons, List.map_nil]); first | done | rfl | (simp only [List.length_drop, List.length_take]; rfl) | (simp [go_sem]; done) | (simp [go_sem, wrap64]; omega)) ?_; (with_reducible refine (r3_Take.calls a1 qg qa q8 qe _ A5.out).mono ?_); rintro e w8 ⟨rfl, hb⟩; refine ⟨_, rfl, ?_⟩; replace HB := aK (below_step (kH HB) hb); (try clear hb); (try clear hb2); (try clear hk); (try clear hi)) | ((with_reducible refine gate_dst (N := 8) rfl ?_); (try (refine gate_guard (by rfl) ?_; dsimp only)); refine box_event ?hg (N := 8) ?hd (cs := #[.bool false, .int .i64 0, .int .i64 0, .int .u64 0]) (t := 86) ?hr ?_; (case hd => rfl); (case hg => rfl); (case hr => first | (go_simp; done) | (go_simp; rfl)); intro qb hg w9 hbox hb; have q3 := aK (hbox); have GW414 := aK ((by rw [hg]; exact (below_size (kH HB)) : w.heap.size ≤ qb)); have qh := aK ((by rw [hg]; exact (below_size (kH HB)) : w.heap.size ≤ qb)); replace HB := aK (below_step (kH HB) hb); clear hb hbox hg) | ((with_reducible refine gate_dst (N := 9) rfl ?_); (try (refine gate_guard (by rfl) ?_; dsimp only)); refine box_event ?hg (N := 9) ?hd (cs := #[.bool false, .int .i64 0, .int .i64 0, .int .u64 0]) (t := 86) ?hr ?_; (case hd => rfl); (case hg => rfl); (case hr => first | (go_simp; done) | (go_simp; rfl)); intro qf hg w10 hbox hb; have q5 := aK (hbox); have GW415 := aK ((by rw [hg]; exact (below_size (kHs HB qh)) : w.heap.size ≤ qf)); have qj := aK ((by rw [hg]; exact (below_size (kHs HB qh)) : w.heap.size ≤ qf)); replace HB := aK (below_step (kHs HB qh) hb); have q0d := aK ((by rw [hg]; exact Nat.ne_of_lt (blk_lt (g := qb) (o := .cells #[.bool false, .int .i64 0, .int .i64 0, .int .u64 0] 86 (0, 0)) (kB q3)) : qb ≠ qf)); have q0e := aK ((by rw [hg]; exact Nat.ne_of_gt (blk_lt (g := qb) (o := .cells #[.bool false, .int .i64 0, .int .i64 0, .int .u64 0] 86 (0, 0)) (kB q3)) : qf ≠ qb)); replace q3 := aK (blk_below (g := qb) (o := .cells #[.bool false, .int .i64 0, .int .i64 0, .int .u64 0] 86 (0, 0)) (kB q3) hb); clear hb hbox hg; have hnb11 := q0d.out; have hnc11 := q0e.out; obtain ⟨q0j, q0k, q0l, q0m, q0n, q0o, q0p, q0q⟩ := W4q q3; obtain ⟨q0r, q0s, q0t, q0u, q0v, q0w, q0x, q0y⟩ := W4q q5))
 (try simp only [Act.put, List.setIfInBounds_toArray, List.set_cons_zero, List.set_cons_succ])
 go_cut [28] (fun v28 wc => ∃ (kq : Nat) (q0z : Bool), v28 = .bool q0z ∧ Aside0 (r8_Rest.j0 kq a0 a1 a2 q0z q0 q9 q7 qd qg qa q8 qe = some (r1, r2)) ∧ Aside0 (kq ≤ k) ∧ Aside0 (wc.heap[qb]? = some (.cells #[.bool q0, .int .i64 q9, .int .i64 q7, .int .u64 qd] 86 (0, 0))) ∧ Aside0 (wc.heap[qf]? = some (.cells #[.bool qg, .int .i64 qa, .int .i64 q8, .int .u64 qe] 86 (0, 0))) ∧ Aside0 (Below w.heap.size w wc))
 case first =>
  have H := HC6.out; clear HC6; replace H := Option.bind_eq_some_iff.mp H; obtain ⟨q00, q24, H⟩ := H; replace H : (if q00 = true then (r8_Rest.j0 k a0 a1 a2 true q0 q9 q7 qd qg qa q8 qe) else ((r3_NaN.f a1).bind fun qp => (r8_Rest.j0 k a0 a1 a2 qp q0 q9 q7 qd qg qa q8 qe))) = some (r1, r2) := H; have A14 := aK q24; clear q24
  by_cases c15 : q00 = true
  · subst c15
    have H1 : (r8_Rest.j0 k a0 a1 a2 true q0 q9 q7 qd qg qa q8 qe) = some (r1, r2) := by rw [if_pos rfl] at H; exact H
    clear H; have H := H1; clear H1; have H' := aK H; clear H
    go_wp2_with (first | ((with_reducible refine gate_callee (f := 33) rfl ?_); refine goesL_ (some 24) rfl rfl Try.func33 (by kernel_rfl) rfl #[.int .u64 a0] rfl (by (try simp only [List.map_toArray, List.map_cons, List.map_nil]); first | done | rfl | (simp only [List.length_drop, List.length_take]; rfl) | (simp [go_sem]; done) | (simp [go_sem, wrap64]; omega)) ?_; (with_reducible refine (r3_NaN.calls a0 true _ A14.out).mono ?_); rintro e w16 ⟨rfl, hb⟩; refine ⟨_, rfl, ?_⟩; replace q3 := aK (blk_below (g := qb) (o := .cells #[.bool q0, .int .i64 q9, .int .i64 q7, .int .u64 qd] 86 (0, 0)) (kF q3) hb); replace q5 := aK (blk_below (g := qf) (o := .cells #[.bool qg, .int .i64 qa, .int .i64 q8, .int .u64 qe] 86 (0, 0)) (kF q5) hb); replace HB := aK (below_step (kHt HB qh qj) hb); (try clear hb); (try clear hb2); (try clear hk); (try clear hi)))
    go_meet
    case rel => exact ⟨_, (true), RSq, (by first | exact H' | (subst_vars; exact H')), ⟨by first | omega | exact Nat.le_refl _⟩, ⟨kB q3⟩, ⟨kB q5⟩, ⟨kHt HB qh qj⟩⟩
  replace c15 := Bool.eq_false_iff.mpr c15; subst c15
  have H1 : ((r3_NaN.f a1).bind fun qp => (r8_Rest.j0 k a0 a1 a2 qp q0 q9 q7 qd qg qa q8 qe)) = some (r1, r2) := by rw [if_neg (show ¬ (false = true) by decide)] at H; exact H
  clear H; have H := H1; clear H1; replace H := Option.bind_eq_some_iff.mp H; obtain ⟨qp, q25, H⟩ := H; replace H : (r8_Rest.j0 k a0 a1 a2 qp q0 q9 q7 qd qg qa q8 qe) = some (r1, r2) := H; have A17 := aK q25; clear q25; have H' := aK H; clear H
  go_wp2_with (first | ((with_reducible refine gate_callee (f := 33) rfl ?_); refine goesL_ (some 24) rfl rfl Try.func33 (by kernel_rfl) rfl #[.int .u64 a0] rfl (by (try simp only [List.map_toArray, List.map_cons, List.map_nil]); first | done | rfl | (simp only [List.length_drop, List.length_take]; rfl) | (simp [go_sem]; done) | (simp [go_sem, wrap64]; omega)) ?_; (with_reducible refine (r3_NaN.calls a0 false _ A14.out).mono ?_); rintro e w18 ⟨rfl, hb⟩; refine ⟨_, rfl, ?_⟩; replace q3 := aK (blk_below (g := qb) (o := .cells #[.bool q0, .int .i64 q9, .int .i64 q7, .int .u64 qd] 86 (0, 0)) (kF q3) hb); replace q5 := aK (blk_below (g := qf) (o := .cells #[.bool qg, .int .i64 qa, .int .i64 q8, .int .u64 qe] 86 (0, 0)) (kF q5) hb); replace HB := aK (below_step (kHt HB qh qj) hb); (try clear hb); (try clear hb2); (try clear hk); (try clear hi)) | (go_at_call 33; (with_reducible refine (r3_NaN.calls a1 qp _ A17.out).mono ?_); rintro e w19 ⟨rfl, hb⟩; replace q3 := aK (blk_below (g := qb) (o := .cells #[.bool q0, .int .i64 q9, .int .i64 q7, .int .u64 qd] 86 (0, 0)) (kB q3) hb); replace q5 := aK (blk_below (g := qf) (o := .cells #[.bool qg, .int .i64 qa, .int .i64 q8, .int .u64 qe] 86 (0, 0)) (kB q5) hb); replace HB := aK (below_step (kHt HB qh qj) hb); (try clear hb); (try clear hb2); (try clear hk); (try clear hi)))
  go_meet
  case rel => exact ⟨_, (qp), RSq, (by first | exact H' | (subst_vars; exact H')), ⟨by first | omega | exact Nat.le_refl _⟩, ⟨kB q3⟩, ⟨kB q5⟩, ⟨kHt HB qh qj⟩⟩
 case rest =>
  clear HC6; (try clear c1); (try clear p2); (try clear c3); (try clear c5); (try clear p6); (try clear c11); (try clear c15); (try clear c18); (try clear q0j q0k q0l q0m); (try clear q0r q0s q0t q0u); (try clear q0n q0o q0p q0q); (try clear q0v q0w q0x q0y); obtain ⟨kq, q0z, rfl, HA, HJ5, q3, q5, HB⟩ := hcut
  cases kq with
  | zero => exact absurd HA.out (by simp [r8_Rest.j0])
  | succ kj5 =>
   have H := HA.out; clear HA
   simp only [r8_Rest.j0] at H
   by_cases c20 : q0z = true
   · subst c20
     have H1 : ((r5_None.f a0 a1).bind fun q0c => (some (9221120237041090560, q0c))) = some (r1, r2) := by rw [if_pos rfl] at H; exact H
     clear H; have H := H1; clear H1; replace H := Option.bind_eq_some_iff.mp H; obtain ⟨q0c, q26, H⟩ := H; replace H : (some (9221120237041090560, q0c)) = some (r1, r2) := H; have A21 := aK q26; clear q26
     simp only [Option.some.injEq, Prod.mk.injEq] at H
     obtain ⟨rfl, rfl⟩ := H
     go_wp2_with (first | ((with_reducible refine gate_callee (f := 34) rfl ?_); refine goesL_ (some 31) rfl rfl Try.func34 (by kernel_rfl) rfl #[.int .u64 a0, .int .u64 a1] rfl (by (try simp only [List.map_toArray, List.map_cons, List.map_nil]); first | done | rfl | (simp only [List.length_drop, List.length_take]; rfl) | (simp [go_sem]; done) | (simp [go_sem, wrap64]; omega)) ?_; (with_reducible refine (r5_None.calls a0 a1 q0c _ A21.out).mono ?_); rintro e w22 ⟨rfl, hb⟩; refine ⟨_, rfl, ?_⟩; replace q3 := aK (blk_below (g := qb) (o := .cells #[.bool q0, .int .i64 q9, .int .i64 q7, .int .u64 qd] 86 (0, 0)) (kB q3) hb); replace q5 := aK (blk_below (g := qf) (o := .cells #[.bool qg, .int .i64 qa, .int .i64 q8, .int .u64 qe] 86 (0, 0)) (kB q5) hb); replace HB := aK (below_step (kHt HB qh qj) hb); (try clear hb); (try clear hb2); (try clear hk); (try clear hi)))
     go_ret2
     exact ⟨by first | rfl | (simp [errW_none, errW_some] <;> rfl) | (simp [*, errW_none, errW_some] <;> rfl), kHt HB qh qj⟩
   replace c20 := Bool.eq_false_iff.mpr c20; subst c20
   have H1 : (if q9 = 3 then (r8_Rest.j1 kj5 a0 a2 true q0 q9 q7 qd qg qa q8 qe) else (r8_Rest.j1 kj5 a0 a2 (qa == 0) q0 q9 q7 qd qg qa q8 qe)) = some (r1, r2) := by rw [if_neg (show ¬ (false = true) by decide)] at H; exact H
   clear H; have H := H1; clear H1; have q1a := aK H; clear H
   go_upto_region 4 with (fail)
   go_cut [39] (fun v39 wc => ∃ (kq : Nat) (q10 : Bool), v39 = .bool q10 ∧ Aside0 (r8_Rest.j1 kq a0 a2 q10 q0 q9 q7 qd qg qa q8 qe = some (r1, r2)) ∧ Aside0 (kq ≤ kj5) ∧ Aside0 (wc.heap[qb]? = some (.cells #[.bool q0, .int .i64 q9, .int .i64 q7, .int .u64 qd] 86 (0, 0))) ∧ Aside0 (wc.heap[qf]? = some (.cells #[.bool qg, .int .i64 qa, .int .i64 q8, .int .u64 qe] 86 (0, 0))) ∧ Aside0 (Below w.heap.size w wc))
   case first =>
    have H := q1a.out; clear q1a
    by_cases c24 : q9 = 3
    · rw [if_pos c24] at H
      have q04 : (q9 == 3) = true := beq_iff_eq.mpr c24; have q11 : (q9 != 3) = false := bne_eq_false_iff_eq.mpr c24; clear c24
      (first | rw [q04] | (simp only [i64_w, i32_w]; rw [q04]) | skip)
      have H' := aK H; clear H; have hnb25 := q0d.out; have hnc25 := q0e.out; obtain ⟨q1b, q1c, q1d, q1e, q1f, q1g, q1h, q1i⟩ := W4q q3
      go_wp2
      go_meet
      case rel => exact ⟨_, (true), RSq, (by first | exact H' | (subst_vars; exact H')), ⟨by have := HJ5.out; first | omega | exact Nat.le_refl _⟩, ⟨kB q3⟩, ⟨kB q5⟩, ⟨kHt HB qh qj⟩⟩
    rw [if_neg c24] at H
    have q04 : (q9 == 3) = false := beq_eq_false_iff_ne.mpr c24; have q11 : (q9 != 3) = true := bne_iff_ne.mpr c24
    (first | rw [q04] | (simp only [i64_w, i32_w]; rw [q04]) | skip)
    have H' := aK H; clear H; have hnb27 := q0d.out; have hnc27 := q0e.out; obtain ⟨q1j, q1k, q1l, q1m, q1n, q1o, q1p, q1q⟩ := W4q q3; obtain ⟨q1r, q1s, q1t, q1u, q1v, q1w, q1x, q1y⟩ := W4q q5
    go_wp2
    go_meet
    case rel => exact ⟨_, ((qa == 0)), RSq, (by first | exact H' | (subst_vars; exact H')), ⟨by have := HJ5.out; first | omega | exact Nat.le_refl _⟩, ⟨kB q3⟩, ⟨kB q5⟩, ⟨kHt HB qh qj⟩⟩
   case rest =>
    clear q1a; (try clear c1); (try clear c2); (try clear p2); (try clear c3); (try clear c5); (try clear p6); (try clear c11); (try clear c15); (try clear c18); (try clear c20); (try clear c24); (try clear q04); (try clear q11); (try clear c25); (try clear c27); (try clear q0j q0k q0l q0m); (try clear q0r q0s q0t q0u); (try clear q1b q1c q1d q1e); (try clear q1j q1k q1l q1m); (try clear q1r q1s q1t q1u); (try clear q0n q0o q0p q0q); (try clear q0v q0w q0x q0y); (try clear q1f q1g q1h q1i); (try clear q1n q1o q1p q1q); (try clear q1v q1w q1x q1y); (try clear p2); (try clear p6); obtain ⟨kq, q10, rfl, HA, q07, q3, q5, HB⟩ := hcut
    cases kq with
    | zero => exact absurd HA.out (by simp [r8_Rest.j1])
    | succ q1z =>
     have H := HA.out; clear HA
     simp only [r8_Rest.j1] at H
     by_cases c30 : q10 = true
     · subst c30
       have H1 : (some (9221120237041090560, 1)) = some (r1, r2) := by rw [if_pos rfl] at H; exact H
       clear H; have H := H1; clear H1
       simp only [Option.some.injEq, Prod.mk.injEq] at H
       obtain ⟨rfl, rfl⟩ := H
       go_wp2
       go_ret2
       exact ⟨by first | rfl | (simp [errW_none, errW_some] <;> rfl) | (simp [*, errW_none, errW_some] <;> rfl), kHt HB qh qj⟩
     replace c30 := Bool.eq_false_iff.mpr c30; subst c30
     have H1 : (if qa = 3 then (r8_Rest.j2 q1z a0 a2 true q0 q9 q7 qd qg qa q8 qe) else (r8_Rest.j2 q1z a0 a2 (q9 == 0) q0 q9 q7 qd qg qa q8 qe)) = some (r1, r2) := by rw [if_neg (show ¬ (false = true) by decide)] at H; exact H
     clear H; have H := H1; clear H1; have q20 := aK H; clear H
     go_upto_region 6 with (fail)
     go_cut [47] (fun v47 wc => ∃ (kq : Nat) (q12 : Bool), v47 = .bool q12 ∧ Aside0 (r8_Rest.j2 kq a0 a2 q12 q0 q9 q7 qd qg qa q8 qe = some (r1, r2)) ∧ Aside0 (kq ≤ q1z) ∧ Aside0 (wc.heap[qb]? = some (.cells #[.bool q0, .int .i64 q9, .int .i64 q7, .int .u64 qd] 86 (0, 0))) ∧ Aside0 (wc.heap[qf]? = some (.cells #[.bool qg, .int .i64 qa, .int .i64 q8, .int .u64 qe] 86 (0, 0))) ∧ Aside0 (Below w.heap.size w wc))
     case first =>
      have H := q20.out; clear q20
      by_cases c32 : qa = 3
      · rw [if_pos c32] at H
        have q08 : (qa == 3) = true := beq_iff_eq.mpr c32; have q21 : (qa != 3) = false := bne_eq_false_iff_eq.mpr c32; clear c32
        (first | rw [q08] | (simp only [i64_w, i32_w]; rw [q08]) | skip)
        have H' := aK H; clear H; have hnb33 := q0e.out; have hnc33 := q0d.out; obtain ⟨q27, q28, q29, q2a, q2b, q2c, q2d, q2e⟩ := W4q q5
        go_wp2
        go_meet
        case rel => exact ⟨_, (true), RSq, (by first | exact H' | (subst_vars; exact H')), ⟨by have := HJ5.out; have := q07.out; first | omega | exact Nat.le_refl _⟩, ⟨kB q3⟩, ⟨kB q5⟩, ⟨kHt HB qh qj⟩⟩
      rw [if_neg c32] at H
      have q08 : (qa == 3) = false := beq_eq_false_iff_ne.mpr c32; have q21 : (qa != 3) = true := bne_iff_ne.mpr c32
      (first | rw [q08] | (simp only [i64_w, i32_w]; rw [q08]) | skip)
      have H' := aK H; clear H; have hnb35 := q0e.out; have hnc35 := q0d.out; obtain ⟨q2f, q2g, q2h, q2i, q2j, q2k, q2l, q2m⟩ := W4q q5; obtain ⟨q2n, q2o, q2p, q2q, q2r, q2s, q2t, q2u⟩ := W4q q3
      go_wp2
      go_meet
      case rel => exact ⟨_, ((q9 == 0)), RSq, (by first | exact H' | (subst_vars; exact H')), ⟨by have := HJ5.out; have := q07.out; first | omega | exact Nat.le_refl _⟩, ⟨kB q3⟩, ⟨kB q5⟩, ⟨kHt HB qh qj⟩⟩
     case rest =>
      clear q20; (try clear c1); (try clear c2); (try clear p2); (try clear c3); (try clear c5); (try clear p6); (try clear c11); (try clear c15); (try clear c18); (try clear c20); (try clear c24); (try clear q04); (try clear q11); (try clear c25); (try clear c27); (try clear c30); (try clear c32); (try clear q08); (try clear q21); (try clear c33); (try clear c34); (try clear c35); (try clear q0j q0k q0l q0m); (try clear q0r q0s q0t q0u); (try clear q1b q1c q1d q1e); (try clear q1j q1k q1l q1m); (try clear q1r q1s q1t q1u); (try clear q27 q28 q29 q2a); (try clear q2f q2g q2h q2i); (try clear q2n q2o q2p q2q); (try clear q0n q0o q0p q0q); (try clear q0v q0w q0x q0y); (try clear q1f q1g q1h q1i); (try clear q1n q1o q1p q1q); (try clear q1v q1w q1x q1y); (try clear q2b q2c q2d q2e); (try clear q2j q2k q2l q2m); (try clear q2r q2s q2t q2u); (try clear p2); (try clear p6); obtain ⟨kq, q12, rfl, HA, q0h, q3, q5, HB⟩ := hcut
      cases kq with
      | zero => exact absurd HA.out (by simp [r8_Rest.j2])
      | succ q1 =>
       have H := HA.out; clear HA
       simp only [r8_Rest.j2] at H
       by_cases c38 : q12 = true
       · subst c38
         have H1 : (some (a0, 0)) = some (r1, r2) := by rw [if_pos rfl] at H; exact H
         clear H; have H := H1; clear H1
         simp only [Option.some.injEq, Prod.mk.injEq] at H
         obtain ⟨rfl, rfl⟩ := H
         go_wp2
         go_ret2
         exact ⟨by first | rfl | (simp [errW_none, errW_some] <;> rfl) | (simp [*, errW_none, errW_some] <;> rfl), kHt HB qh qj⟩
       replace c38 := Bool.eq_false_iff.mpr c38; subst c38
       have H1 : ((r2_Of.f q1 qd).bind fun qz => ((r2_Shl.f q1 qz (wrap64 (q7 - (mn q7 q8)))).bind fun qt => ((r2_Of.f q1 qe).bind fun qu => ((r2_Shl.f q1 qu (wrap64 (q8 - (mn q7 q8)))).bind fun q2 => ((r2_Parts.f q1 qt q2).bind fun q6 => ((r2_Shl.f q1 q6.2 1).bind fun qm => ((r2_Cmp.f q1 qm q2).bind fun qc => (if a2 = true then (if qc > 0 then (r8_Rest.j3 q1 (mn q7 q8) q2 q6.2 q0 true) else (if qc = 0 then (if (q6.1.length : Int) > 0 then (if 0 < (q6.1.length : Int) then (r8_Rest.j3 q1 (mn q7 q8) q2 q6.2 q0 ((Int.tmod (rd q6.1 0) 2) == 1)) else (none)) else (r8_Rest.j3 q1 (mn q7 q8) q2 q6.2 q0 false)) else (r8_Rest.j3 q1 (mn q7 q8) q2 q6.2 q0 false))) else (r8_Rest.j3 q1 (mn q7 q8) q2 q6.2 q0 false))))))))) = some (r1, r2) := by rw [if_neg (show ¬ (false = true) by decide)] at H; exact H
       clear H; have H := H1; clear H1; obtain ⟨ji39, hji39⟩ : ∃ j_ : Int, (mn q7 q8) = j_ := ⟨_, rfl⟩
       replace H : ((r2_Of.f q1 qd).bind fun qz => ((r2_Shl.f q1 qz (wrap64 (q7 - (ji39)))).bind fun qt => ((r2_Of.f q1 qe).bind fun qu => ((r2_Shl.f q1 qu (wrap64 (q8 - (ji39)))).bind fun q2 => ((r2_Parts.f q1 qt q2).bind fun q6 => ((r2_Shl.f q1 q6.2 1).bind fun qm => ((r2_Cmp.f q1 qm q2).bind fun qc => (if a2 = true then (if qc > 0 then (r8_Rest.j3 q1 ji39 q2 q6.2 q0 true) else (if qc = 0 then (if (q6.1.length : Int) > 0 then (if 0 < (q6.1.length : Int) then (r8_Rest.j3 q1 ji39 q2 q6.2 q0 ((Int.tmod (rd q6.1 0) 2) == 1)) else (none)) else (r8_Rest.j3 q1 ji39 q2 q6.2 q0 false)) else (r8_Rest.j3 q1 ji39 q2 q6.2 q0 false))) else (r8_Rest.j3 q1 ji39 q2 q6.2 q0 false))))))))) = some (r1, r2) := by first | (rw [hji39] at H; exact H) | (simp only [hji39] at H ⊢; exact H)
       have hji39_ : (if q8 < q7 then q8 else q7) = ji39 := hji39; replace H := Option.bind_eq_some_iff.mp H; obtain ⟨qz, q2v, H⟩ := H; replace H : ((r2_Shl.f q1 qz (wrap64 (q7 - (ji39)))).bind fun qt => ((r2_Of.f q1 qe).bind fun qu => ((r2_Shl.f q1 qu (wrap64 (q8 - (ji39)))).bind fun q2 => ((r2_Parts.f q1 qt q2).bind fun q6 => ((r2_Shl.f q1 q6.2 1).bind fun qm => ((r2_Cmp.f q1 qm q2).bind fun qc => (if a2 = true then (if qc > 0 then (r8_Rest.j3 q1 ji39 q2 q6.2 q0 true) else (if qc = 0 then (if (q6.1.length : Int) > 0 then (if 0 < (q6.1.length : Int) then (r8_Rest.j3 q1 ji39 q2 q6.2 q0 ((Int.tmod (rd q6.1 0) 2) == 1)) else (none)) else (r8_Rest.j3 q1 ji39 q2 q6.2 q0 false)) else (r8_Rest.j3 q1 ji39 q2 q6.2 q0 false))) else (r8_Rest.j3 q1 ji39 q2 q6.2 q0 false)))))))) = some (r1, r2) := H; have A40 := aK q2v; clear q2v; replace H := Option.bind_eq_some_iff.mp H; obtain ⟨qt, q2w, H⟩ := H; replace H : ((r2_Of.f q1 qe).bind fun qu => ((r2_Shl.f q1 qu (wrap64 (q8 - (ji39)))).bind fun q2 => ((r2_Parts.f q1 qt q2).bind fun q6 => ((r2_Shl.f q1 q6.2 1).bind fun qm => ((r2_Cmp.f q1 qm q2).bind fun qc => (if a2 = true then (if qc > 0 then (r8_Rest.j3 q1 ji39 q2 q6.2 q0 true) else (if qc = 0 then (if (q6.1.length : Int) > 0 then (if 0 < (q6.1.length : Int) then (r8_Rest.j3 q1 ji39 q2 q6.2 q0 ((Int.tmod (rd q6.1 0) 2) == 1)) else (none)) else (r8_Rest.j3 q1 ji39 q2 q6.2 q0 false)) else (r8_Rest.j3 q1 ji39 q2 q6.2 q0 false))) else (r8_Rest.j3 q1 ji39 q2 q6.2 q0 false))))))) = some (r1, r2) := H; have A41 := aK q2w; clear q2w; replace H := Option.bind_eq_some_iff.mp H; obtain ⟨qu, q2x, H⟩ := H; replace H : ((r2_Shl.f q1 qu (wrap64 (q8 - (ji39)))).bind fun q2 => ((r2_Parts.f q1 qt q2).bind fun q6 => ((r2_Shl.f q1 q6.2 1).bind fun qm => ((r2_Cmp.f q1 qm q2).bind fun qc => (if a2 = true then (if qc > 0 then (r8_Rest.j3 q1 ji39 q2 q6.2 q0 true) else (if qc = 0 then (if (q6.1.length : Int) > 0 then (if 0 < (q6.1.length : Int) then (r8_Rest.j3 q1 ji39 q2 q6.2 q0 ((Int.tmod (rd q6.1 0) 2) == 1)) else (none)) else (r8_Rest.j3 q1 ji39 q2 q6.2 q0 false)) else (r8_Rest.j3 q1 ji39 q2 q6.2 q0 false))) else (r8_Rest.j3 q1 ji39 q2 q6.2 q0 false)))))) = some (r1, r2) := H; have A42 := aK q2x; clear q2x; replace H := Option.bind_eq_some_iff.mp H; obtain ⟨q2, q2y, H⟩ := H; replace H : ((r2_Parts.f q1 qt q2).bind fun q6 => ((r2_Shl.f q1 q6.2 1).bind fun qm => ((r2_Cmp.f q1 qm q2).bind fun qc => (if a2 = true then (if qc > 0 then (r8_Rest.j3 q1 ji39 q2 q6.2 q0 true) else (if qc = 0 then (if (q6.1.length : Int) > 0 then (if 0 < (q6.1.length : Int) then (r8_Rest.j3 q1 ji39 q2 q6.2 q0 ((Int.tmod (rd q6.1 0) 2) == 1)) else (none)) else (r8_Rest.j3 q1 ji39 q2 q6.2 q0 false)) else (r8_Rest.j3 q1 ji39 q2 q6.2 q0 false))) else (r8_Rest.j3 q1 ji39 q2 q6.2 q0 false))))) = some (r1, r2) := H; have A43 := aK q2y; clear q2y; replace H := Option.bind_eq_some_iff.mp H; obtain ⟨⟨ql, qi⟩, q2z, H⟩ := H; replace H : ((r2_Shl.f q1 qi 1).bind fun qm => ((r2_Cmp.f q1 qm q2).bind fun qc => (if a2 = true then (if qc > 0 then (r8_Rest.j3 q1 ji39 q2 qi q0 true) else (if qc = 0 then (if (ql.length : Int) > 0 then (if 0 < (ql.length : Int) then (r8_Rest.j3 q1 ji39 q2 qi q0 ((Int.tmod (rd ql 0) 2) == 1)) else (none)) else (r8_Rest.j3 q1 ji39 q2 qi q0 false)) else (r8_Rest.j3 q1 ji39 q2 qi q0 false))) else (r8_Rest.j3 q1 ji39 q2 qi q0 false)))) = some (r1, r2) := H; have A44 := aK q2z; clear q2z; replace H := Option.bind_eq_some_iff.mp H; obtain ⟨qm, q30, H⟩ := H; replace H : ((r2_Cmp.f q1 qm q2).bind fun qc => (if a2 = true then (if qc > 0 then (r8_Rest.j3 q1 ji39 q2 qi q0 true) else (if qc = 0 then (if (ql.length : Int) > 0 then (if 0 < (ql.length : Int) then (r8_Rest.j3 q1 ji39 q2 qi q0 ((Int.tmod (rd ql 0) 2) == 1)) else (none)) else (r8_Rest.j3 q1 ji39 q2 qi q0 false)) else (r8_Rest.j3 q1 ji39 q2 qi q0 false))) else (r8_Rest.j3 q1 ji39 q2 qi q0 false))) = some (r1, r2) := H; have A45 := aK q30; clear q30; replace H := Option.bind_eq_some_iff.mp H; obtain ⟨qc, q31, H⟩ := H; replace H : (if a2 = true then (if qc > 0 then (r8_Rest.j3 q1 ji39 q2 qi q0 true) else (if qc = 0 then (if (ql.length : Int) > 0 then (if 0 < (ql.length : Int) then (r8_Rest.j3 q1 ji39 q2 qi q0 ((Int.tmod (rd ql 0) 2) == 1)) else (none)) else (r8_Rest.j3 q1 ji39 q2 qi q0 false)) else (r8_Rest.j3 q1 ji39 q2 qi q0 false))) else (r8_Rest.j3 q1 ji39 q2 qi q0 false)) = some (r1, r2) := H; have A46 := aK q31; clear q31; have q22 := aK H; clear H; have hnb48 := q0d.out; have hnc48 := q0e.out; obtain ⟨q3c, q3d, q3e, q3f, q3g, q3h, q3i, q3j⟩ := W4q q3; obtain ⟨q3k, q3l, q3m, q3n, q3o, q3p, q3q, q3r⟩ := W4q q5
       try go_wp2
       replace q3 := aK (blk_drew q3.out); replace q5 := aK (blk_drew q5.out); replace HB := aK (below_drew1 HB.out); refine start_ (n := 18) (S := fun w' => w'.cell? ⟨qb, 0, none⟩ = some (.bool q0) ∧ w'.cell? ⟨qb, 1, none⟩ = some (.int .i64 q9) ∧ w'.cell? ⟨qb, 2, none⟩ = some (.int .i64 q7) ∧ w'.cell? ⟨qb, 3, none⟩ = some (.int .u64 qd) ∧ w'.cell? ⟨qf, 0, none⟩ = some (.bool qg) ∧ w'.cell? ⟨qf, 1, none⟩ = some (.int .i64 qa) ∧ w'.cell? ⟨qf, 2, none⟩ = some (.int .i64 q8) ∧ w'.cell? ⟨qf, 3, none⟩ = some (.int .u64 qe)) (ds := []) #[false, false, false, false, false, false, false, false, false, false, false, false, false, false, false, false, false, false] (by kernel_rfl) rfl rfl ⟨bc q3 0, bc q3 1, bc q3 2, bc q3 3, bc q5 0, bc q5 1, bc q5 2, bc q5 3⟩ (fun hHeld => ?_); refine with_tabW r8_Rest.tab9 r8_Rest.bits9 (fun HT_ HW_ => ?_)
       generalize wc.drew = w51 at q3 q5 HB hHeld ⊢
       refine pure_ (i := 0) (N := some 54) (v := ?_) (a' := ?_) #[true, false, false, false, false, false, false, false, false, false, false, false, false, false, false, false, false, false] rfl rfl (any_of HT_.out (by kernel_rfl)) (fun _ _ _ h => h) (Or.inl ⟨by rfl, ?_⟩) ?_ ?_; rotate_left
       · intro w'
         go_simp
         with_reducible rfl
       rotate_left
       · exact APq
       refine pure_ (i := 3) (N := some 57) (v := ?_) (a' := ?_) #[true, false, false, true, false, false, false, false, false, false, false, false, false, false, false, false, false, false] rfl rfl (any_of HT_.out (by kernel_rfl)) (fun _ _ _ h => h) (Or.inl ⟨by rfl, ?_⟩) ?_ ?_; rotate_left
       · intro w'
         go_simp
         with_reducible rfl
       rotate_left
       · exact APq
       refine pure_ (i := 5) (N := some 59) (v := ?_) (a' := ?_) #[true, false, false, true, false, true, false, false, false, false, false, false, false, false, false, false, false, false] rfl rfl (any_of HT_.out (by kernel_rfl)) (fun _ _ _ h => h) (Or.inl ⟨by rfl, ?_⟩) ?_ ?_; rotate_left
       · intro w'
         go_simp
         with_reducible rfl
       rotate_left
       · exact APq
       refine pure_ (i := 8) (N := some 62) (v := ?_) (a' := ?_) #[true, false, false, true, false, true, false, false, true, false, false, false, false, false, false, false, false, false] rfl rfl (any_of HT_.out (by kernel_rfl)) (fun _ _ _ h => h) (Or.inl ⟨by rfl, ?_⟩) ?_ ?_; rotate_left
       · intro w'
         go_simp
         with_reducible rfl
       rotate_left
       · exact APq
       refine pure_ (i := 11) (N := some 65) (v := ?_) (a' := ?_) #[true, false, false, true, false, true, false, false, true, false, false, true, false, false, false, false, false, false] rfl rfl (any_of HT_.out (by kernel_rfl)) (fun _ _ _ h => h) (Or.inl ⟨by rfl, ?_⟩) ?_ ?_; rotate_left
       · intro w'
         go_simp
         with_reducible rfl
       rotate_left
       · exact APq
       refine pure_ (i := 13) (N := some 67) (v := ?_) (a' := ?_) #[true, false, false, true, false, true, false, false, true, false, false, true, false, true, false, false, false, false] rfl rfl (any_of HT_.out (by kernel_rfl)) (fun _ _ _ h => h) (Or.inl ⟨by rfl, ?_⟩) ?_ ?_; rotate_left
       · intro w'
         go_simp
         with_reducible rfl
       rotate_left
       · exact APq
       refine take_ (i := 1) (N := some 55) (v := ?_) (a' := ?_) #[true, true, false, true, false, true, false, false, true, false, false, true, false, true, false, false, false, false] rfl rfl (take_ofW HT_.out HW_.out (by kernel_rfl)) (fun _ _ _ h => h) (Or.inl ⟨by rfl, ?_⟩) hHeld ?_ ?_; rotate_left
       · rintro w' ⟨s0, s1, s2, s3, s4, s5, s6, s7⟩
         go_simp
         with_reducible rfl
       rotate_left
       · exact APq
       refine take_ (i := 4) (N := some 58) (v := ?_) (a' := ?_) #[true, true, false, true, true, true, false, false, true, false, false, true, false, true, false, false, false, false] rfl rfl (take_ofW HT_.out HW_.out (by kernel_rfl)) (fun _ _ _ h => h) (Or.inl ⟨by rfl, ?_⟩) hHeld ?_ ?_; rotate_left
       · rintro w' ⟨s0, s1, s2, s3, s4, s5, s6, s7⟩
         go_simp
         with_reducible rfl
       rotate_left
       · exact APq
       refine pure_ (i := 6) (N := some 60) (v := ?_) (a' := ?_) #[true, true, false, true, true, true, true, false, true, false, false, true, false, true, false, false, false, false] rfl rfl (any_of HT_.out (by kernel_rfl)) (fun _ _ _ h => h) (Or.inl ⟨by rfl, ?_⟩) ?_ ?_; rotate_left
       · intro w'
         go_simp
         with_reducible rfl
       rotate_left
       · exact APq
       refine take_ (i := 9) (N := some 63) (v := ?_) (a' := ?_) #[true, true, false, true, true, true, true, false, true, true, false, true, false, true, false, false, false, false] rfl rfl (take_ofW HT_.out HW_.out (by kernel_rfl)) (fun _ _ _ h => h) (Or.inl ⟨by rfl, ?_⟩) hHeld ?_ ?_; rotate_left
       · rintro w' ⟨s0, s1, s2, s3, s4, s5, s6, s7⟩
         go_simp
         with_reducible rfl
       rotate_left
       · exact APq
       refine take_ (i := 12) (N := some 66) (v := ?_) (a' := ?_) #[true, true, false, true, true, true, true, false, true, true, false, true, true, true, false, false, false, false] rfl rfl (take_ofW HT_.out HW_.out (by kernel_rfl)) (fun _ _ _ h => h) (Or.inl ⟨by rfl, ?_⟩) hHeld ?_ ?_; rotate_left
       · rintro w' ⟨s0, s1, s2, s3, s4, s5, s6, s7⟩
         go_simp
         with_reducible rfl
       rotate_left
       · exact APq
       refine pure_ (i := 14) (N := some 68) (v := ?_) (a' := ?_) #[true, true, false, true, true, true, true, false, true, true, false, true, true, true, true, false, false, false] rfl rfl (any_of HT_.out (by kernel_rfl)) (fun _ _ _ h => h) (Or.inl ⟨by rfl, ?_⟩) ?_ ?_; rotate_left
       · intro w'
         go_simp
         with_reducible rfl
       rotate_left
       · exact APq
       refine one_ (i := 2) (N := some 56) #[true, true, true, true, true, true, true, false, true, true, false, true, true, true, true, false, false, false] rfl rfl (one_of HT_.out (by kernel_rfl)) (by decide) (fun K hK => ?_); refine goes_ Try.func44 (by kernel_rfl) rfl #[.int .u64 qd] (by rfl) rfl rfl (by (try simp only [List.map_toArray, List.map_cons, List.map_nil]); first | done | rfl | (simp only [List.length_drop, List.length_take]; rfl) | (simp [go_sem]; done) | (simp [go_sem, wrap64]; omega)) ?_
       with_reducible refine (r2_Of.calls q1 qd qz _ A40.out).mono ?_
       rintro e w52 ⟨v420, rfl, ho0, hb⟩; refine ⟨_, rfl, ?_⟩; have qq := aK (Kd.V_lower (Kd.V_mono (ok' := fun k_ => k_ ≠ qb ∧ k_ ≠ qf) ho0 (fun k_ hk_ => ⟨(Kd.freshB q3.out k_ hk_), (Kd.freshB q5.out k_ hk_)⟩)) (below_size HB.out)); replace q3 := aK (blk_below q3.out hb); replace q5 := aK (blk_below q5.out hb); replace HB := aK (below_step HB.out hb)
       (try clear hb)
       (try clear hb2)
       (try clear hk)
       (try clear hi)
       (try clear ho0)
       obtain ⟨q3s, q3t, eo53⟩ := Kd.V_slice qq.out
       (first | subst eo53 | (injection eo53 with f1_ f2_ f3_; have f4_ := f1_.symm; have f5_ := f3_.symm; clear f1_ f2_ f3_; subst f4_; subst f5_))
       refine hK.out _ _ ⟨bc q3 0, bc q3 1, bc q3 2, bc q3 3, bc q5 0, bc q5 1, bc q5 2, bc q5 3⟩ (fun hHeld => ?_); clear hK K; refine norm_ (a' := ?_) ?_ ?_; rotate_left
       · show Act.put _ (some 56) _ = _
         exact APq
       refine one_ (i := 7) (N := some 61) #[true, true, true, true, true, true, true, true, true, true, false, true, true, true, true, false, false, false] rfl rfl (one_of HT_.out (by kernel_rfl)) (by decide) (fun K hK => ?_); refine goes_ Try.func51 (by kernel_rfl) rfl #[.slice q3s qz.length q3t, .int .i64 (wrap64 (q7 - (ji39)))] (by rfl) rfl rfl (by (try simp only [List.map_toArray, List.map_cons, List.map_nil]); first | done | (simp only [hji39]; rfl) | rfl | (simp only [List.length_drop, List.length_take]; rfl) | (simp [go_sem]; done) | (simp [go_sem, wrap64]; omega)) ?_
       with_reducible refine (r2_Shl.calls q1 _ _ qz (wrap64 (q7 - (ji39))) qt _ ?side1 ?side2 A41.out).mono ?_
       (case side1 => exact kC (Kd.V_reads' qq.out).2.2)
       (case side2 => exact (Kd.V_reads' qq.out).2.1)
       rintro e w54 ⟨v423, rfl, ho0, hb⟩; refine ⟨_, rfl, ?_⟩; replace qq := aK (Kd.V_below (kV qq) hb); have qv := aK (Kd.V_lower (Kd.V_mono (ok' := fun k_ => k_ ≠ qb ∧ k_ ≠ qf) ho0 (fun k_ hk_ => ⟨(Kd.freshB q3.out k_ hk_), (Kd.freshB q5.out k_ hk_)⟩)) (below_size HB.out)); replace q3 := aK (blk_below q3.out hb); replace q5 := aK (blk_below q5.out hb); replace HB := aK (below_step HB.out hb)
       (try clear hb)
       (try clear hb2)
       (try clear hk)
       (try clear hi)
       (try clear ho0)
       refine hK.out _ _ ⟨bc q3 0, bc q3 1, bc q3 2, bc q3 3, bc q5 0, bc q5 1, bc q5 2, bc q5 3⟩ (fun hHeld => ?_); clear hK K; refine norm_ (a' := ?_) ?_ ?_; rotate_left
       · show Act.put _ (some 61) _ = _
         exact APq
       refine one_ (i := 10) (N := some 64) #[true, true, true, true, true, true, true, true, true, true, true, true, true, true, true, false, false, false] rfl rfl (one_of HT_.out (by kernel_rfl)) (by decide) (fun K hK => ?_); refine goes_ Try.func44 (by kernel_rfl) rfl #[.int .u64 qe] (by rfl) rfl rfl (by (try simp only [List.map_toArray, List.map_cons, List.map_nil]); first | done | rfl | (simp only [List.length_drop, List.length_take]; rfl) | (simp [go_sem]; done) | (simp [go_sem, wrap64]; omega)) ?_
       with_reducible refine (r2_Of.calls q1 qe qu _ A42.out).mono ?_
       rintro e w55 ⟨v426, rfl, ho0, hb⟩; refine ⟨_, rfl, ?_⟩; replace qq := aK (Kd.V_below (kV qq) hb); replace qv := aK (Kd.V_below (kV qv) hb); have qy := aK (Kd.V_lower (Kd.V_mono (ok' := fun k_ => k_ ≠ qb ∧ k_ ≠ qf) ho0 (fun k_ hk_ => ⟨(Kd.freshB q3.out k_ hk_), (Kd.freshB q5.out k_ hk_)⟩)) (below_size HB.out)); replace q3 := aK (blk_below q3.out hb); replace q5 := aK (blk_below q5.out hb); replace HB := aK (below_step HB.out hb)
       (try clear hb)
       (try clear hb2)
       (try clear hk)
       (try clear hi)
       (try clear ho0)
       obtain ⟨q3u, q3v, eo56⟩ := Kd.V_slice qy.out
       (first | subst eo56 | (injection eo56 with f1_ f2_ f3_; have f4_ := f1_.symm; have f5_ := f3_.symm; clear f1_ f2_ f3_; subst f4_; subst f5_))
       refine hK.out _ _ ⟨bc q3 0, bc q3 1, bc q3 2, bc q3 3, bc q5 0, bc q5 1, bc q5 2, bc q5 3⟩ (fun hHeld => ?_); clear hK K; refine norm_ (a' := ?_) ?_ ?_; rotate_left
       · show Act.put _ (some 64) _ = _
         exact APq
       refine one_ (i := 15) (N := some 69) #[true, true, true, true, true, true, true, true, true, true, true, true, true, true, true, true, false, false] rfl rfl (one_of HT_.out (by kernel_rfl)) (by decide) (fun K hK => ?_); refine goes_ Try.func51 (by kernel_rfl) rfl #[.slice q3u qu.length q3v, .int .i64 (wrap64 (q8 - (ji39)))] (by rfl) rfl rfl (by (try simp only [List.map_toArray, List.map_cons, List.map_nil]); first | done | (simp only [hji39]; rfl) | rfl | (simp only [List.length_drop, List.length_take]; rfl) | (simp [go_sem]; done) | (simp [go_sem, wrap64]; omega)) ?_
       with_reducible refine (r2_Shl.calls q1 _ _ qu (wrap64 (q8 - (ji39))) q2 _ ?side1 ?side2 A43.out).mono ?_
       (case side1 => exact kC (Kd.V_reads' qy.out).2.2)
       (case side2 => exact (Kd.V_reads' qy.out).2.1)
       rintro e w57 ⟨v429, rfl, ho0, hb⟩; refine ⟨_, rfl, ?_⟩; replace qq := aK (Kd.V_below (kV qq) hb); replace qv := aK (Kd.V_below (kV qv) hb); replace qy := aK (Kd.V_below (kV qy) hb); have qo := aK (Kd.V_lower (Kd.V_mono (ok' := fun k_ => k_ ≠ qb ∧ k_ ≠ qf) ho0 (fun k_ hk_ => ⟨(Kd.freshB q3.out k_ hk_), (Kd.freshB q5.out k_ hk_)⟩)) (below_size HB.out)); replace q3 := aK (blk_below q3.out hb); replace q5 := aK (blk_below q5.out hb); replace HB := aK (below_step HB.out hb)
       (try clear hb)
       (try clear hb2)
       (try clear hk)
       (try clear hi)
       (try clear ho0)
       refine hK.out _ _ ⟨bc q3 0, bc q3 1, bc q3 2, bc q3 3, bc q5 0, bc q5 1, bc q5 2, bc q5 3⟩ (fun hHeld => ?_); clear hK K; refine norm_ (a' := ?_) ?_ ?_; rotate_left
       · show Act.put _ (some 69) _ = _
         exact APq
       refine pure_ (i := 16) (N := some 11) (v := ?_) (a' := ?_) #[true, true, true, true, true, true, true, true, true, true, true, true, true, true, true, true, true, false] rfl rfl (any_of HT_.out (by kernel_rfl)) (fun _ _ _ h => h) (Or.inl ⟨by rfl, ?_⟩) ?_ ?_; rotate_left
       · intro w'
         go_simp
         with_reducible rfl
       rotate_left
       · exact APq
       refine pure_ (i := 17) (N := some 12) (v := ?_) (a' := ?_) #[true, true, true, true, true, true, true, true, true, true, true, true, true, true, true, true, true, true] rfl rfl (any_of HT_.out (by kernel_rfl)) (fun _ _ _ h => h) (Or.inl ⟨by rfl, ?_⟩) ?_ ?_; rotate_left
       · intro w'
         go_simp
         with_reducible rfl
       rotate_left
       · exact APq
       refine done_ (done_of HT_.out (by kernel_rfl)) ?_; obtain ⟨q3w, q3x, eo58⟩ := Kd.V_slice qv.out; subst eo58; obtain ⟨q13, q14, eo59⟩ := Kd.V_slice qo.out; subst eo59
       go_upto_region 13 with (first | ((with_reducible refine gate_callee (f := 52) rfl ?_); refine goesL_ (some 73) rfl rfl Try.func52 (by kernel_rfl) rfl #[.slice q3w qt.length q3x, .slice q13 q2.length q14] rfl (by (try simp only [List.map_toArray, List.map_cons, List.map_nil]); first | done | rfl | (simp only [List.length_drop, List.length_take]; rfl) | (simp [go_sem]; done) | (simp [go_sem, wrap64]; omega)) ?_; (with_reducible refine (r2_Parts.calls q1 _ _ qt _ _ q2 ql qi _ ?side1 ?side2 ?side3 ?side4 A44.out).mono ?_); (case side1 => exact kC (Kd.V_reads' qv.out).2.2); (case side2 => exact (Kd.V_reads' qv.out).2.1); (case side3 => exact kC (Kd.V_reads' qo.out).2.2); (case side4 => exact (Kd.V_reads' qo.out).2.1); rintro e w60 ⟨v432, v435, rfl, ho0, ho1, hb⟩; refine ⟨_, rfl, ?_⟩; replace qq := aK (Kd.V_below (kV qq) hb); replace qv := aK (Kd.V_below (kV qv) hb); replace qy := aK (Kd.V_below (kV qy) hb); replace qo := aK (Kd.V_below (kV qo) hb); have q09 := aK (Kd.V_lower (Kd.V_mono (ok' := fun k_ => k_ ≠ qb ∧ k_ ≠ qf) ho0 (fun k_ hk_ => ⟨(Kd.freshB (g := qb) (o := .cells #[.bool q0, .int .i64 q9, .int .i64 q7, .int .u64 qd] 86 (0, 0)) (kB q3) k_ hk_), (Kd.freshB (g := qf) (o := .cells #[.bool qg, .int .i64 qa, .int .i64 q8, .int .u64 qe] 86 (0, 0)) (kB q5) k_ hk_)⟩)) (below_size (kHt HB qh qj))); have qw := aK (Kd.V_lower (Kd.V_mono (ok' := fun k_ => k_ ≠ qb ∧ k_ ≠ qf) ho1 (fun k_ hk_ => ⟨(Kd.freshB (g := qb) (o := .cells #[.bool q0, .int .i64 q9, .int .i64 q7, .int .u64 qd] 86 (0, 0)) (kB q3) k_ hk_), (Kd.freshB (g := qf) (o := .cells #[.bool qg, .int .i64 qa, .int .i64 q8, .int .u64 qe] 86 (0, 0)) (kB q5) k_ hk_)⟩)) (below_size (kHt HB qh qj))); replace q3 := aK (blk_below (g := qb) (o := .cells #[.bool q0, .int .i64 q9, .int .i64 q7, .int .u64 qd] 86 (0, 0)) (kB q3) hb); replace q5 := aK (blk_below (g := qf) (o := .cells #[.bool qg, .int .i64 qa, .int .i64 q8, .int .u64 qe] 86 (0, 0)) (kB q5) hb); replace HB := aK (below_step (kHt HB qh qj) hb); (try clear hb); (try clear hb2); (try clear hk); (try clear hi); (try clear ho0); (try clear ho1); obtain ⟨q3y, q3z, q40, q41, q42, q43, q45, q46⟩ := W4q q3; obtain ⟨q15, q16, eo62⟩ := Kd.V_slice qw.out; subst eo62) | ((with_reducible refine gate_callee (f := 51) rfl ?_); refine goesL_ (some 79) rfl rfl Try.func51 (by kernel_rfl) rfl #[.slice q15 qi.length q16, .int .i64 1] rfl (by (try simp only [List.map_toArray, List.map_cons, List.map_nil]); first | done | rfl | (simp only [List.length_drop, List.length_take]; rfl) | (simp [go_sem]; done) | (simp [go_sem, wrap64]; omega)) ?_; (with_reducible refine (r2_Shl.calls q1 _ _ qi 1 qm _ ?side1 ?side2 A45.out).mono ?_); (case side1 => exact kC (Kd.V_reads' qw.out).2.2); (case side2 => exact (Kd.V_reads' qw.out).2.1); rintro e w63 ⟨v438, rfl, ho0, hb⟩; refine ⟨_, rfl, ?_⟩; replace qq := aK (Kd.V_below (kV qq) hb); replace qv := aK (Kd.V_below (kV qv) hb); replace qy := aK (Kd.V_below (kV qy) hb); replace qo := aK (Kd.V_below (kV qo) hb); replace q09 := aK (Kd.V_below (kV q09) hb); replace qw := aK (Kd.V_below (kV qw) hb); have q0i := aK (Kd.V_lower (Kd.V_mono (ok' := fun k_ => k_ ≠ qb ∧ k_ ≠ qf) ho0 (fun k_ hk_ => ⟨(Kd.freshB (g := qb) (o := .cells #[.bool q0, .int .i64 q9, .int .i64 q7, .int .u64 qd] 86 (0, 0)) (kB q3) k_ hk_), (Kd.freshB (g := qf) (o := .cells #[.bool qg, .int .i64 qa, .int .i64 q8, .int .u64 qe] 86 (0, 0)) (kB q5) k_ hk_)⟩)) (below_size (kHt HB qh qj))); replace q3 := aK (blk_below (g := qb) (o := .cells #[.bool q0, .int .i64 q9, .int .i64 q7, .int .u64 qd] 86 (0, 0)) (kB q3) hb); replace q5 := aK (blk_below (g := qf) (o := .cells #[.bool qg, .int .i64 qa, .int .i64 q8, .int .u64 qe] 86 (0, 0)) (kB q5) hb); replace HB := aK (below_step (kHt HB qh qj) hb); (try clear hb); (try clear hb2); (try clear hk); (try clear hi); (try clear ho0); obtain ⟨q47, q48, eo64⟩ := Kd.V_slice q0i.out; subst eo64) | ((with_reducible refine gate_callee (f := 53) rfl ?_); refine goesL_ (some 81) rfl rfl Try.func53 (by kernel_rfl) rfl #[.slice q47 qm.length q48, .slice q13 q2.length q14] rfl (by (try simp only [List.map_toArray, List.map_cons, List.map_nil]); first | done | rfl | (simp only [List.length_drop, List.length_take]; rfl) | (simp [go_sem]; done) | (simp [go_sem, wrap64]; omega)) ?_; (with_reducible refine (r2_Cmp.calls q1 _ _ qm _ _ q2 qc _ ?side1 ?side2 ?side3 ?side4 A46.out).mono ?_); (case side1 => exact kC (Kd.V_reads' q0i.out).2.2); (case side2 => exact (Kd.V_reads' q0i.out).2.1); (case side3 => exact kC (Kd.V_reads' qo.out).2.2); (case side4 => exact (Kd.V_reads' qo.out).2.1); rintro e w65 ⟨rfl, hb⟩; refine ⟨_, rfl, ?_⟩; replace qq := aK (Kd.V_below (kV qq) hb); replace qv := aK (Kd.V_below (kV qv) hb); replace qy := aK (Kd.V_below (kV qy) hb); replace qo := aK (Kd.V_below (kV qo) hb); replace q09 := aK (Kd.V_below (kV q09) hb); replace qw := aK (Kd.V_below (kV qw) hb); replace q0i := aK (Kd.V_below (kV q0i) hb); replace q3 := aK (blk_below (g := qb) (o := .cells #[.bool q0, .int .i64 q9, .int .i64 q7, .int .u64 qd] 86 (0, 0)) (kB q3) hb); replace q5 := aK (blk_below (g := qf) (o := .cells #[.bool qg, .int .i64 qa, .int .i64 q8, .int .u64 qe] 86 (0, 0)) (kB q5) hb); replace HB := aK (below_step (kHt HB qh qj) hb); (try clear hb); (try clear hb2); (try clear hk); (try clear hi)))
       (try simp only [Act.put, List.setIfInBounds_toArray, List.set_cons_zero, List.set_cons_succ])
       go_cut [102] (fun v102 wc => ∃ (kq : Nat) (q17 : Bool), v102 = .bool q17 ∧ Aside0 (r8_Rest.j3 kq ji39 q2 qi q0 q17 = some (r1, r2)) ∧ Aside0 (kq ≤ q1) ∧ Aside0 (Kd.V (Kd.int .u32) 23 wc w.heap.size (fun k_ => k_ ≠ qb ∧ k_ ≠ qf) (.slice q13 q2.length q14) q2) ∧ Aside0 (Kd.V (Kd.int .u32) 23 wc w.heap.size (fun k_ => k_ ≠ qb ∧ k_ ≠ qf) (.slice q15 qi.length q16) qi) ∧ Aside0 (wc.heap[qb]? = some (.cells #[.bool q0, .int .i64 q9, .int .i64 q7, .int .u64 qd] 86 (0, 0))) ∧ Aside0 (wc.heap[qf]? = some (.cells #[.bool qg, .int .i64 qa, .int .i64 q8, .int .u64 qe] 86 (0, 0))) ∧ Aside0 (Below w.heap.size w wc))
       case first =>
        have H := q22.out; clear q22
        by_cases c66 : a2 = true
        · subst c66
          have H1 : (if qc > 0 then (r8_Rest.j3 q1 ji39 q2 qi q0 true) else (if qc = 0 then (if (ql.length : Int) > 0 then (if 0 < (ql.length : Int) then (r8_Rest.j3 q1 ji39 q2 qi q0 ((Int.tmod (rd ql 0) 2) == 1)) else (none)) else (r8_Rest.j3 q1 ji39 q2 qi q0 false)) else (r8_Rest.j3 q1 ji39 q2 qi q0 false))) = some (r1, r2) := by rw [if_pos rfl] at H; exact H
          clear H; have H := H1; clear H1
          by_cases c67 : qc > 0
          · rw [if_pos c67] at H
            have q0f : decide (0 < qc) = true := decide_eq_true c67; clear c67
            (first | rw [q0f] | (simp only [i64_w, i32_w]; rw [q0f]) | skip)
            have H' := aK H; clear H
            go_wp2
            go_meet
            case rel => exact ⟨_, (true), RSq, (by first | exact H' | (subst_vars; exact H')), ⟨by have := HJ5.out; have := q07.out; have := q0h.out; first | omega | exact Nat.le_refl _⟩, ⟨kV qo⟩, ⟨kV qw⟩, ⟨kB q3⟩, ⟨kB q5⟩, ⟨kHt HB qh qj⟩⟩
          rw [if_neg c67] at H
          have q0f : decide (0 < qc) = false := decide_eq_false c67; clear c67
          (first | rw [q0f] | (simp only [i64_w, i32_w]; rw [q0f]) | skip)
          by_cases c68 : qc = 0
          · rw [if_pos c68] at H
            have q32 : (qc == 0) = true := beq_iff_eq.mpr c68; have q33 : (qc != 0) = false := bne_eq_false_iff_eq.mpr c68; clear c68
            by_cases c69 : (ql.length : Int) > 0
            · rw [if_pos c69] at H
              have q34 : decide (0 < (ql.length : Int)) = true := decide_eq_true c69; have q35 : decide (0 < ql.length) = true := decide_eq_true (by omega); clear c69
              by_cases c70 : 0 < (ql.length : Int)
              · rw [if_pos c70] at H
                have q49 : decide (0 < (ql.length : Int)) = true := decide_eq_true c70; have q4a : decide (0 < ql.length) = true := decide_eq_true (by omega); clear c70; have H' := aK H; clear H; obtain ⟨Ao71, co71, eo71⟩ := Kd.V_slice q09.out; subst eo71; have p441 : 0 ≤ (0 : Int) := (by omega); have q441 : 0 < (ql.length : Int) := of_decide_eq_true ASq; obtain ⟨ad441, e441, q23⟩ := Kd.at_int (Kd.V_reads' q09.out).2.2 0 p441 q441
                cases e441
                have qi441 : (0 < ql.length) = True := eq_true (by omega)
                (try rw [show ((0 : Int)).toNat = 0 from rfl] at q23)
                (try rw [Addr.add_zero'] at q23)
                replace p441 := eq_true p441; replace q441 := eq_true q441
                go_wp2
                go_meet
                case rel => exact ⟨_, (((Int.tmod (rd ql 0) 2) == 1)), RSq, (by first | exact H' | (subst_vars; exact H')), ⟨by have := HJ5.out; have := q07.out; have := q0h.out; first | omega | exact Nat.le_refl _⟩, ⟨kV qo⟩, ⟨kV qw⟩, ⟨kB q3⟩, ⟨kB q5⟩, ⟨kHt HB qh qj⟩⟩
              rw [if_neg c70] at H
              exact absurd H (by simp)
            rw [if_neg c69] at H
            have q34 : decide (0 < (ql.length : Int)) = false := decide_eq_false c69; have q35 : decide (0 < ql.length) = false := decide_eq_false (by omega); clear c69; have H' := aK H; clear H; obtain ⟨Ao72, co72, eo72⟩ := Kd.V_slice q09.out; subst eo72
            go_wp2
            go_meet
            case rel => exact ⟨_, (false), RSq, (by first | exact H' | (subst_vars; exact H')), ⟨by have := HJ5.out; have := q07.out; have := q0h.out; first | omega | exact Nat.le_refl _⟩, ⟨kV qo⟩, ⟨kV qw⟩, ⟨kB q3⟩, ⟨kB q5⟩, ⟨kHt HB qh qj⟩⟩
          rw [if_neg c68] at H
          have q32 : (qc == 0) = false := beq_eq_false_iff_ne.mpr c68; have q33 : (qc != 0) = true := bne_iff_ne.mpr c68; have H' := aK H; clear H
          go_wp2
          go_meet
          case rel => exact ⟨_, (false), RSq, (by first | exact H' | (subst_vars; exact H')), ⟨by have := HJ5.out; have := q07.out; have := q0h.out; first | omega | exact Nat.le_refl _⟩, ⟨kV qo⟩, ⟨kV qw⟩, ⟨kB q3⟩, ⟨kB q5⟩, ⟨kHt HB qh qj⟩⟩
        replace c66 := Bool.eq_false_iff.mpr c66; subst c66
        have H1 : (r8_Rest.j3 q1 ji39 q2 qi q0 false) = some (r1, r2) := by rw [if_neg (show ¬ (false = true) by decide)] at H; exact H
        clear H; have H := H1; clear H1; have H' := aK H; clear H
        go_wp2
        go_meet
        case rel => exact ⟨_, (false), RSq, (by first | exact H' | (subst_vars; exact H')), ⟨by have := HJ5.out; have := q07.out; have := q0h.out; first | omega | exact Nat.le_refl _⟩, ⟨kV qo⟩, ⟨kV qw⟩, ⟨kB q3⟩, ⟨kB q5⟩, ⟨kHt HB qh qj⟩⟩
       case rest =>
        clear q22; (try clear c1); (try clear c2); (try clear p2); (try clear c3); (try clear c4); (try clear p4); (try clear q4); (try clear hx4); (try clear qi4); (try clear c5); (try clear c6); (try clear p6); (try clear c7); (try clear c11); (try clear c15); (try clear c18); (try clear c20); (try clear c24); (try clear q04); (try clear q11); (try clear c25); (try clear c27); (try clear c30); (try clear c32); (try clear q08); (try clear q21); (try clear c33); (try clear c34); (try clear c35); (try clear c38); (try clear c44); (try clear p44); (try clear q44); (try clear hx44); (try clear qi44); (try clear c48); (try clear c51); (try clear c52); (try clear c53); (try clear p64); (try clear c66); (try clear c67); (try clear q0f); (try clear c68); (try clear q32); (try clear q33); (try clear c69); (try clear q34); (try clear q35); (try clear c70); (try clear q49); (try clear q4a); (try clear q0j q0k q0l q0m); (try clear q0r q0s q0t q0u); (try clear q1b q1c q1d q1e); (try clear q1j q1k q1l q1m); (try clear q1r q1s q1t q1u); (try clear q27 q28 q29 q2a); (try clear q2f q2g q2h q2i); (try clear q2n q2o q2p q2q); (try clear q3c q3d q3e q3f); (try clear q3k q3l q3m q3n); (try clear q3y q3z q40 q41); (try clear q0n q0o q0p q0q); (try clear q0v q0w q0x q0y); (try clear q1f q1g q1h q1i); (try clear q1n q1o q1p q1q); (try clear q1v q1w q1x q1y); (try clear q2b q2c q2d q2e); (try clear q2j q2k q2l q2m); (try clear q2r q2s q2t q2u); (try clear q3g q3h q3i q3j); (try clear q3o q3p q3q q3r); (try clear q42 q43 q45 q46); (try clear q23); (try clear p2); (try clear p441); (try clear p6); (try clear q441); obtain ⟨kq, q17, rfl, HA, HJ46, HO_12, HO_14, q3, q5, HB⟩ := hcut
        cases kq with
        | zero => exact absurd HA.out (by simp [r8_Rest.j3])
        | succ q0a =>
         have H := HA.out; clear HA
         simp only [r8_Rest.j3] at H
         by_cases c73 : q17 = true
         · subst c73
           have H1 : ((r2_Sub.f q0a q2 qi).bind fun q03 => ((r4_Round.f q0a (!q0) ji39 q03 0).bind fun q0g => (some (q0g.1, 0)))) = some (r1, r2) := by rw [if_pos rfl] at H; exact H
           clear H; have H := H1; clear H1; replace H := Option.bind_eq_some_iff.mp H; obtain ⟨q03, q36, H⟩ := H; replace H : ((r4_Round.f q0a (!q0) ji39 q03 0).bind fun q0g => (some (q0g.1, 0))) = some (r1, r2) := H; have A74 := aK q36; clear q36; replace H := Option.bind_eq_some_iff.mp H; obtain ⟨⟨q37, q4b⟩, q38, H⟩ := H; replace H : (some (q37, 0)) = some (r1, r2) := H; have A75 := aK q38; clear q38
           simp only [Option.some.injEq, Prod.mk.injEq] at H
           obtain ⟨rfl, rfl⟩ := H
           go_wp2_with (first | ((with_reducible refine gate_callee (f := 54) rfl ?_); refine goesL_ (some 105) rfl rfl Try.func54 (by kernel_rfl) rfl #[.slice q13 q2.length q14, .slice q15 qi.length q16] rfl (by (try simp only [List.map_toArray, List.map_cons, List.map_nil]); first | done | rfl | (simp only [List.length_drop, List.length_take]; rfl) | (simp [go_sem]; done) | (simp [go_sem, wrap64]; omega)) ?_; (with_reducible refine (r2_Sub.calls q0a _ _ q2 _ _ qi q03 _ ?side1 ?side2 ?side3 ?side4 A74.out).mono ?_); (case side1 => exact kC (Kd.V_reads' HO_12.out).2.2); (case side2 => exact (Kd.V_reads' HO_12.out).2.1); (case side3 => exact kC (Kd.V_reads' HO_14.out).2.2); (case side4 => exact (Kd.V_reads' HO_14.out).2.1); rintro e w76 ⟨v443, rfl, ho0, hb⟩; refine ⟨_, rfl, ?_⟩; replace HO_12 := aK (Kd.V_below (kV HO_12) hb); replace HO_14 := aK (Kd.V_below (kV HO_14) hb); have q18 := aK (Kd.V_lower (Kd.V_mono (ok' := fun k_ => k_ ≠ qb ∧ k_ ≠ qf) ho0 (fun k_ hk_ => ⟨(Kd.freshB (g := qb) (o := .cells #[.bool q0, .int .i64 q9, .int .i64 q7, .int .u64 qd] 86 (0, 0)) (kB q3) k_ hk_), (Kd.freshB (g := qf) (o := .cells #[.bool qg, .int .i64 qa, .int .i64 q8, .int .u64 qe] 86 (0, 0)) (kB q5) k_ hk_)⟩)) (below_size (kHt HB qh qj))); replace q3 := aK (blk_below (g := qb) (o := .cells #[.bool q0, .int .i64 q9, .int .i64 q7, .int .u64 qd] 86 (0, 0)) (kB q3) hb); replace q5 := aK (blk_below (g := qf) (o := .cells #[.bool qg, .int .i64 qa, .int .i64 q8, .int .u64 qe] 86 (0, 0)) (kB q5) hb); replace HB := aK (below_step (kHt HB qh qj) hb); (try clear hb); (try clear hb2); (try clear hk); (try clear hi); (try clear ho0); obtain ⟨q4c, q4d, eo77⟩ := Kd.V_slice q18.out; subst eo77) | ((with_reducible refine gate_callee (f := 43) rfl ?_); refine goesL_ (some 113) rfl rfl Try.func43 (by kernel_rfl) rfl #[.agg #[.bool (!q0), .int .i64 ji39, .slice q4c q03.length q4d], .int .i64 0] rfl (by (try simp only [List.map_toArray, List.map_cons, List.map_nil]); first | done | (simp only [hji39]; rfl) | rfl | (simp only [List.length_drop, List.length_take]; rfl) | (simp [go_sem]; done) | (simp [go_sem, wrap64]; omega)) ?_; (with_reducible refine (r4_Round.calls q0a (!q0) ji39 (fun k_ => (k_ ≠ qb ∧ k_ ≠ qf)) _ _ q03 0 q37 q4b _ ?side1 A75.out).mono ?_); (case side1 => exact q18.out); rintro e w78 ⟨rfl, hb⟩; refine ⟨_, rfl, ?_⟩; replace HO_12 := aK (Kd.V_below (kV HO_12) hb); replace HO_14 := aK (Kd.V_below (kV HO_14) hb); replace q18 := aK (Kd.V_below (kV q18) hb); replace q3 := aK (blk_below (g := qb) (o := .cells #[.bool q0, .int .i64 q9, .int .i64 q7, .int .u64 qd] 86 (0, 0)) (kB q3) hb); replace q5 := aK (blk_below (g := qf) (o := .cells #[.bool qg, .int .i64 qa, .int .i64 q8, .int .u64 qe] 86 (0, 0)) (kB q5) hb); replace HB := aK (below_step (kHt HB qh qj) hb); (try clear hb); (try clear hb2); (try clear hk); (try clear hi)))
           go_ret2
           exact ⟨by first | rfl | (simp [errW_none, errW_some] <;> rfl) | (simp only [← hji39]; first | rfl | (simp [errW_none, errW_some] <;> rfl)) | (simp [*, errW_none, errW_some] <;> rfl), kHt HB qh qj⟩
         replace c73 := Bool.eq_false_iff.mpr c73; subst c73
         have H1 : ((r4_Round.f q0a q0 ji39 qi 0).bind fun q19 => (some (q19.1, 0))) = some (r1, r2) := by rw [if_neg (show ¬ (false = true) by decide)] at H; exact H
         clear H; have H := H1; clear H1; replace H := Option.bind_eq_some_iff.mp H; obtain ⟨⟨q39, q4e⟩, q3a, H⟩ := H; replace H : (some (q39, 0)) = some (r1, r2) := H; have A79 := aK q3a; clear q3a
         simp only [Option.some.injEq, Prod.mk.injEq] at H
         obtain ⟨rfl, rfl⟩ := H
         go_wp2_with (first | ((with_reducible refine gate_callee (f := 43) rfl ?_); refine goesL_ (some 113) rfl rfl Try.func43 (by kernel_rfl) rfl #[.agg #[.bool q0, .int .i64 ji39, .slice q15 qi.length q16], .int .i64 0] rfl (by (try simp only [List.map_toArray, List.map_cons, List.map_nil]); first | done | (simp only [hji39]; rfl) | rfl | (simp only [List.length_drop, List.length_take]; rfl) | (simp [go_sem]; done) | (simp [go_sem, wrap64]; omega)) ?_; (with_reducible refine (r4_Round.calls q0a q0 ji39 (fun k_ => (k_ ≠ qb ∧ k_ ≠ qf)) _ _ qi 0 q39 q4e _ ?side1 A79.out).mono ?_); (case side1 => exact HO_14.out); rintro e w80 ⟨rfl, hb⟩; refine ⟨_, rfl, ?_⟩; replace HO_12 := aK (Kd.V_below (kV HO_12) hb); replace HO_14 := aK (Kd.V_below (kV HO_14) hb); replace q3 := aK (blk_below (g := qb) (o := .cells #[.bool q0, .int .i64 q9, .int .i64 q7, .int .u64 qd] 86 (0, 0)) (kB q3) hb); replace q5 := aK (blk_below (g := qf) (o := .cells #[.bool qg, .int .i64 qa, .int .i64 q8, .int .u64 qe] 86 (0, 0)) (kB q5) hb); replace HB := aK (below_step (kHt HB qh qj) hb); (try clear hb); (try clear hb2); (try clear hk); (try clear hi)))
         go_ret2
         exact ⟨by first | rfl | (simp [errW_none, errW_some] <;> rfl) | (simp only [← hji39]; first | rfl | (simp [errW_none, errW_some] <;> rfl)) | (simp [*, errW_none, errW_some] <;> rfl), kHt HB qh qj⟩
end Go.Proofs.Ytfnkmedajchbgaa.X
