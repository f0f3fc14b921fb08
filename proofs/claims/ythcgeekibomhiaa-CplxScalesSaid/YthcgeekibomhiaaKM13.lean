import Derived.Test.YthcgeekibomhiaaKM6
import Derived.Test.YthcgeekibomhiaaKM11
import Derived.Test.YthcgeekibomhiaaKMXtillerref02Parts
section
namespace Go.Proofs.Ythcgeekibomhiaa.D
set_option linter.unusedVariables false
set_option linter.unusedSimpArgs false
open Go Go.RowKit X Br Go.Proofs.Ythcgeekibomhiaa.Den
def wide_DMc.f (a0 a1 a2 a3 b0 b1 b2 b3 : Int) : Option (Int × Int × Int × Int × Int × Int × Int × Int × Option Int) := (wide_DivMod.f a0 a1 a2 a3 b0 b1 b2 b3).bind fun q => some (q.1, q.2.1, q.2.2.1, q.2.2.2.1, q.2.2.2.2.1, q.2.2.2.2.2.1, q.2.2.2.2.2.2.1, q.2.2.2.2.2.2.2, none)
theorem wide_DMc.calls (a0 a1 a2 a3 b0 b1 b2 b3 r1 r2 r3 r4 r5 r6 r7 r8 : Int) (r9 : Option Int) (w : World) (h : wide_DMc.f a0 a1 a2 a3 b0 b1 b2 b3 = some (r1, r2, r3, r4, r5, r6, r7, r8, r9)) :
    Calls Try.prog 64 #[.agg #[.int .u64 a0, .int .u64 a1, .int .u64 a2, .int .u64 a3], .agg #[.int .u64 b0, .int .u64 b1, .int .u64 b2, .int .u64 b3]] w fun e w' => e = .returned (.tuple #[.agg #[.int .u64 r1, .int .u64 r2, .int .u64 r3, .int .u64 r4], .agg #[.int .u64 r5, .int .u64 r6, .int .u64 r7, .int .u64 r8], errW r9]) ∧ Below w.heap.size w w' := by
  unfold wide_DMc.f at h
  obtain ⟨q, hq, h⟩ := Option.bind_eq_some_iff.1 h
  obtain ⟨q1, q2, q3, q4, q5, q6, q7, q8⟩ := q
  simp only [Option.some.injEq, Prod.mk.injEq] at h
  obtain ⟨rfl, rfl, rfl, rfl, rfl, rfl, rfl, rfl, rfl⟩ := h
  exact wide_DivMod.calls a0 a1 a2 a3 b0 b1 b2 b3 _ _ _ _ _ _ _ _ w hq
theorem wide_DMc.eq {a b : Nat} (ha : a < T256) (hb : b < T256) (h : b ≠ 0) : wide_DMc.f (l0 a) (l1 a) (l2 a) (l3 a) (l0 b) (l1 b) (l2 b) (l3 b) = some (l0 (a / b), l1 (a / b), l2 (a / b), l3 (a / b), l0 (a % b), l1 (a % b), l2 (a % b), l3 (a % b), none) := by
  unfold wide_DMc.f
  rw [wide_DivMod.eq ha hb h, Option.bind_some]
noncomputable def r02_Of.f (n : Int) : Option (List Int) := evF fun k => r2_Of.f k n
noncomputable def r02_Parts.f (l m : List Int) : Option (List Int × List Int) := evF fun k => r2_Parts.f k l m
theorem r02_Of.wide (n : Int) (y : List Int) (w : World) (ι : Io) (vals : List Value) (h : r02_Of.f n = some y) (ho : ∀ b, own ι b → b < w.heap.size) (hr : RVL ι w [.v (.int .u64 n)] vals) :
    Calls Try.prog 71 vals.toArray w fun e w' => ∃ u, e = .returned u ∧ RV ι w' (.ro (.ints .u32 y)) u ∧ Below w.heap.size w w' := by
  obtain ⟨y0, rfl, h0⟩ := rvl1 hr
  obtain rfl : y0 = .int .u64 n := h0
  obtain ⟨K, hK⟩ := evF_spec h
  refine (r2_Of.calls K n y w (hK K (Nat.le_refl _))).mono ?_
  rintro e w' ⟨v, rfl, hV, hb⟩
  exact ⟨v, rfl, V_reads hV ho, hb⟩
theorem r02_Parts.wide (l m : List Int) (y : List Int × List Int) (w : World) (ι : Io) (vals : List Value) (h : r02_Parts.f l m = some y) (ho : ∀ b, own ι b → b < w.heap.size) (hr : RVL ι w [.ro (.ints .u32 l), .ro (.ints .u32 m)] vals) :
    Calls Try.prog 69 vals.toArray w fun e w' => ∃ u, e = .returned u ∧ RV ι w' (.tup [.ro (.ints .u32 y.1), .ro (.ints .u32 y.2)]) u ∧ Below w.heap.size w w' := by
  obtain ⟨y0, y1, rfl, h0, h1⟩ := rvl2 hr
  obtain ⟨A, c, rfl, hc, hC⟩ := reads_C h0
  obtain ⟨A1, c1, rfl, hc1, hC1⟩ := reads_C h1
  obtain ⟨K, hK⟩ := evF_spec h
  refine (r2_Parts.calls K A c l A1 c1 m y.1 y.2 w hC hc hC1 hc1 (hK K (Nat.le_refl _))).mono ?_
  rintro e w' ⟨v, v', rfl, hV, hV', hb⟩
  exact ⟨_, rfl, ⟨[v, v'], rfl, V_reads hV ho, V_reads hV' ho, trivial⟩, hb⟩
end Go.Proofs.Ythcgeekibomhiaa.D
end
section
namespace Go.Proofs.Ythcgeekibomhiaa.D
set_option linter.unusedVariables false
set_option linter.unusedSimpArgs false
open Go Go.RowKit Go.Proofs Go.Proofs.Ythcgeekibomhiaa.Den X
theorem wide_DMc.g : Den.Good Try.prog 64 [vW, vW] (β := Int × Int × Int × Int × Int × Int × Int × Int × Option Int) (fun y => .tup [.agg [.v (.int .u64 y.1), .v (.int .u64 y.2.1), .v (.int .u64 y.2.2.1), .v (.int .u64 y.2.2.2.1)], .agg [.v (.int .u64 y.2.2.2.2.1), .v (.int .u64 y.2.2.2.2.2.1), .v (.int .u64 y.2.2.2.2.2.2.1), .v (.int .u64 y.2.2.2.2.2.2.2.1)], .err 112 .i64 y.2.2.2.2.2.2.2.2]) (fun x => wide_DMc.f x.1.1 x.1.2.1 x.1.2.2.1 x.1.2.2.2 x.2.1 x.2.2.1 x.2.2.2.1 x.2.2.2.2) := of_calls Try.func64 (by kernel_rfl) rfl (fun _ => rfl) fun x y w h => wide_DMc.calls x.1.1 x.1.2.1 x.1.2.2.1 x.1.2.2.2 x.2.1 x.2.2.1 x.2.2.2.1 x.2.2.2.2 y.1 y.2.1 y.2.2.1 y.2.2.2.1 y.2.2.2.2.1 y.2.2.2.2.2.1 y.2.2.2.2.2.2.1 y.2.2.2.2.2.2.2.1 y.2.2.2.2.2.2.2.2 w h
noncomputable abbrev t67 : List (Nat × Entry) := (64, entry [vW, vW] (β := Int × Int × Int × Int × Int × Int × Int × Int × Option Int) (fun y => .tup [.agg [.v (.int .u64 y.1), .v (.int .u64 y.2.1), .v (.int .u64 y.2.2.1), .v (.int .u64 y.2.2.2.1)], .agg [.v (.int .u64 y.2.2.2.2.1), .v (.int .u64 y.2.2.2.2.2.1), .v (.int .u64 y.2.2.2.2.2.2.1), .v (.int .u64 y.2.2.2.2.2.2.2.1)], .err 112 .i64 y.2.2.2.2.2.2.2.2]) (fun x => wide_DMc.f x.1.1 x.1.2.1 x.1.2.2.1 x.1.2.2.2 x.2.1 x.2.2.1 x.2.2.2.1 x.2.2.2.2)) :: t66
theorem k67 : TblOK Try.prog (tbl t67) := .cons (wide_DMc.g.entry) k66
theorem quot_none.g : Den.Good Try.prog 63 [vu, vu] (β := Int × Int) (fun y => .tup [.v (.int .u64 y.1), .v (.int .u8 y.2)]) (fun x => quot_none.f x.1 x.2) := of_calls Try.func63 (by kernel_rfl) rfl (fun _ => rfl) fun x y w h => quot_none.calls x.1 x.2 y.1 y.2 w h
noncomputable abbrev t68 : List (Nat × Entry) := (63, entry [vu, vu] (β := Int × Int) (fun y => .tup [.v (.int .u64 y.1), .v (.int .u8 y.2)]) (fun x => quot_none.f x.1 x.2)) :: t67
theorem k68 : TblOK Try.prog (tbl t68) := .cons (quot_none.g.entry) k67
noncomputable def quot_DivC.j0 (a0 : Int) (a1 : Int) : Option (Int × Int) :=
  Option.bind (quot_none.f a0 a1) fun q => some (q.1, q.2)
noncomputable def quot_DivC.f (a0 : Int) (a1 : Int) (a2 : Int) : Option (Int × Int) :=
  Option.bind (pat_Take.f a0) fun q => Option.bind (pat_Take.f a1) fun q_1 => Option.bind (pat_IsNaN.f a0) fun q_2 => if q_2 = true then quot_DivC.j0 a0 a1 else Option.bind (pat_IsNaN.f a1) fun q_3 => if q_3 = true then quot_DivC.j0 a0 a1 else if q.2.1 = q_1.2.1 then if q.2.1 = 0 then some (9221120237041090560, 1) else if q.2.1 = 3 then some (9221120237041090560, 1) else if q.2.1 = 3 then some (bits .or .u64 9218868437227405312 (bits .and .u64 (bits .xor .u64 a0 a1) 9223372036854775808), 0) else if q_1.2.1 = 3 then some (bits .and .u64 (bits .xor .u64 a0 a1) 9223372036854775808, 0) else if q_1.2.1 = 0 then some (bits .or .u64 9218868437227405312 (bits .and .u64 (bits .xor .u64 a0 a1) 9223372036854775808), 2) else Option.bind (wide_Of.f q.2.2.2) fun q_4 => Option.bind (wide_Shl.f q_4.1 q_4.2.1 q_4.2.2.1 q_4.2.2.2 128) fun q_5 => Option.bind (wide_Of.f q_1.2.2.2) fun q_6 => Option.bind (wide_DMc.f q_5.1 q_5.2.1 q_5.2.2.1 q_5.2.2.2 q_6.1 q_6.2.1 q_6.2.2.1 q_6.2.2.2) fun q_7 => if ¬Option.isNone q_7.2.2.2.2.2.2.2.2 = true then some (9221120237041090560, 1) else Option.bind (rnd_Round.f (decide ¬bits .and .u64 (bits .xor .u64 a0 a1) 9223372036854775808 = 0) (wrap64 (wrap64 (q.2.2.1 - q_1.2.2.1) - 128)) q_7.1 q_7.2.1 q_7.2.2.1 q_7.2.2.2.1 (decide ¬(q_7.2.2.2.2.1 = 0 ∧ q_7.2.2.2.2.2.1 = 0 ∧ q_7.2.2.2.2.2.2.1 = 0 ∧ q_7.2.2.2.2.2.2.2.1 = 0)) a2) fun q => some (q.1, q.2) else if q.2.1 = 3 then some (bits .or .u64 9218868437227405312 (bits .and .u64 (bits .xor .u64 a0 a1) 9223372036854775808), 0) else if q_1.2.1 = 3 then some (bits .and .u64 (bits .xor .u64 a0 a1) 9223372036854775808, 0) else if q_1.2.1 = 0 then some (bits .or .u64 9218868437227405312 (bits .and .u64 (bits .xor .u64 a0 a1) 9223372036854775808), 2) else Option.bind (wide_Of.f q.2.2.2) fun q_4 => Option.bind (wide_Shl.f q_4.1 q_4.2.1 q_4.2.2.1 q_4.2.2.2 128) fun q_5 => Option.bind (wide_Of.f q_1.2.2.2) fun q_6 => Option.bind (wide_DMc.f q_5.1 q_5.2.1 q_5.2.2.1 q_5.2.2.2 q_6.1 q_6.2.1 q_6.2.2.1 q_6.2.2.2) fun q_7 => if ¬Option.isNone q_7.2.2.2.2.2.2.2.2 = true then some (9221120237041090560, 1) else Option.bind (rnd_Round.f (decide ¬bits .and .u64 (bits .xor .u64 a0 a1) 9223372036854775808 = 0) (wrap64 (wrap64 (q.2.2.1 - q_1.2.2.1) - 128)) q_7.1 q_7.2.1 q_7.2.2.1 q_7.2.2.2.1 (decide ¬(q_7.2.2.2.2.1 = 0 ∧ q_7.2.2.2.2.2.1 = 0 ∧ q_7.2.2.2.2.2.2.1 = 0 ∧ q_7.2.2.2.2.2.2.2.1 = 0)) a2) fun q => some (q.1, q.2)
noncomputable abbrev quot_DivC.c : Codec (Int × Int) := Ty.codec (.tup [vu, v8])
theorem quot_DivC.g : Den.Good Try.prog 39 [vu, vu, vi] quot_DivC.c.enc (fun x => quot_DivC.f x.1 x.2.1 x.2.2) := good hm k68 Try.func39 (by kernel_rfl) quot_DivC.c (fun x => by kernel_rfl)
noncomputable abbrev t69 : List (Nat × Entry) := (39, entry [vu, vu, vi] quot_DivC.c.enc (fun x => quot_DivC.f x.1 x.2.1 x.2.2)) :: t68
theorem k69 : TblOK Try.prog (tbl t69) := .cons (quot_DivC.g.entry) k68
theorem r02_Of.g : Den.Good Try.prog 71 [vu] (β := List Int) (fun y => .ro (.ints .u32 y)) (fun x => r02_Of.f x) := of_wide Try.func71 (by kernel_rfl) fun x y w ι vals h ho hr => r02_Of.wide x y w ι vals h ho hr
noncomputable abbrev t70 : List (Nat × Entry) := (71, entry [vu] (β := List Int) (fun y => .ro (.ints .u32 y)) (fun x => r02_Of.f x)) :: t69
theorem k70 : TblOK Try.prog (tbl t70) := .cons (r02_Of.g.entry) k69
theorem r02_Parts.g : Den.Good Try.prog 69 [vL, vL] (β := List Int × List Int) (fun y => .tup [.ro (.ints .u32 y.1), .ro (.ints .u32 y.2)]) (fun x => r02_Parts.f x.1 x.2) := of_wide Try.func69 (by kernel_rfl) fun x y w ι vals h ho hr => r02_Parts.wide x.1 x.2 y w ι vals h ho hr
noncomputable abbrev t71 : List (Nat × Entry) := (69, entry [vL, vL] (β := List Int × List Int) (fun y => .tup [.ro (.ints .u32 y.1), .ro (.ints .u32 y.2)]) (fun x => r02_Parts.f x.1 x.2)) :: t70
theorem k71 : TblOK Try.prog (tbl t71) := .cons (r02_Parts.g.entry) k70
noncomputable def ref07_signed.f (a0 : Int) (a1 : Bool) : Option (Int) :=
  if a1 = true then some ((a0 + 9223372036854775808) % 18446744073709551616) else some a0
noncomputable abbrev ref07_signed.c : Codec (Int) := Ty.codec (.one vu)
theorem ref07_signed.g : Den.Good Try.prog 68 [vu, vb] ref07_signed.c.enc (fun x => ref07_signed.f x.1 x.2) := good hm k71 Try.func68 (by kernel_rfl) ref07_signed.c (fun x => by kernel_rfl)
noncomputable abbrev t72 : List (Nat × Entry) := (68, entry [vu, vb] ref07_signed.c.enc (fun x => ref07_signed.f x.1 x.2)) :: t71
theorem k72 : TblOK Try.prog (tbl t72) := .cons (ref07_signed.g.entry) k71
noncomputable def ref07_Div.j0 (a0 : Int) (a1 : Int) : Option (Int × Int) :=
  Option.bind (ref05_None.f a0 a1) fun q => some (9221120237041090560, q)
noncomputable def ref07_Div.f (a0 : Int) (a1 : Int) (a2 : Int) : Option (Int × Int) :=
  Option.bind (r3_Take.f a0) fun q => Option.bind (r3_Take.f a1) fun q_1 => Option.bind (r3_NaN.f a0) fun q_2 => if q_2 = true then ref07_Div.j0 a0 a1 else Option.bind (r3_NaN.f a1) fun q_3 => if q_3 = true then ref07_Div.j0 a0 a1 else if q.2.1 = 3 then if q_1.2.1 = 3 then some (9221120237041090560, 1) else if q.2.1 = 0 then if q_1.2.1 = 0 then some (9221120237041090560, 1) else if q.2.1 = 3 then Option.bind (ref07_signed.f 9218868437227405312 !q.1 == q_1.1) fun q => some (q, 0) else if q_1.2.1 = 3 then Option.bind (ref07_signed.f 0 !q.1 == q_1.1) fun q => some (q, 0) else if q.2.1 = 0 then Option.bind (ref07_signed.f 0 !q.1 == q_1.1) fun q => some (q, 0) else if q_1.2.1 = 0 then Option.bind (ref07_signed.f 9218868437227405312 !q.1 == q_1.1) fun q => some (q, 2) else Option.bind (r02_Of.f q.2.2.2) fun q_4 => Option.bind (r02_Shl.f q_4 120) fun q_5 => Option.bind (r02_Of.f q_1.2.2.2) fun q_6 => Option.bind (r02_Parts.f q_5 q_6) fun q_7 => Option.bind (r02_Shl.f q_7.1 1) fun q_8 => if ((List.length (q_7.2) : Nat) : Int) > 0 then Option.bind (r02_Of.f 1) fun q_9 => Option.bind (r02_Add.f q_8 q_9) fun q_10 => Option.bind (r04_Round.f (!q.1 == q_1.1) (wrap64 (wrap64 (q.2.2.1 - q_1.2.2.1) - 121)) q_10 a2) fun q => some (q.1, q.2) else Option.bind (r04_Round.f (!q.1 == q_1.1) (wrap64 (wrap64 (q.2.2.1 - q_1.2.2.1) - 121)) q_8 a2) fun q => some (q.1, q.2) else if q.2.1 = 3 then Option.bind (ref07_signed.f 9218868437227405312 !q.1 == q_1.1) fun q => some (q, 0) else if q_1.2.1 = 3 then Option.bind (ref07_signed.f 0 !q.1 == q_1.1) fun q => some (q, 0) else if q.2.1 = 0 then Option.bind (ref07_signed.f 0 !q.1 == q_1.1) fun q => some (q, 0) else if q_1.2.1 = 0 then Option.bind (ref07_signed.f 9218868437227405312 !q.1 == q_1.1) fun q => some (q, 2) else Option.bind (r02_Of.f q.2.2.2) fun q_4 => Option.bind (r02_Shl.f q_4 120) fun q_5 => Option.bind (r02_Of.f q_1.2.2.2) fun q_6 => Option.bind (r02_Parts.f q_5 q_6) fun q_7 => Option.bind (r02_Shl.f q_7.1 1) fun q_8 => if ((List.length (q_7.2) : Nat) : Int) > 0 then Option.bind (r02_Of.f 1) fun q_9 => Option.bind (r02_Add.f q_8 q_9) fun q_10 => Option.bind (r04_Round.f (!q.1 == q_1.1) (wrap64 (wrap64 (q.2.2.1 - q_1.2.2.1) - 121)) q_10 a2) fun q => some (q.1, q.2) else Option.bind (r04_Round.f (!q.1 == q_1.1) (wrap64 (wrap64 (q.2.2.1 - q_1.2.2.1) - 121)) q_8 a2) fun q => some (q.1, q.2) else if q.2.1 = 0 then if q_1.2.1 = 0 then some (9221120237041090560, 1) else if q.2.1 = 3 then Option.bind (ref07_signed.f 9218868437227405312 !q.1 == q_1.1) fun q => some (q, 0) else if q_1.2.1 = 3 then Option.bind (ref07_signed.f 0 !q.1 == q_1.1) fun q => some (q, 0) else if q.2.1 = 0 then Option.bind (ref07_signed.f 0 !q.1 == q_1.1) fun q => some (q, 0) else if q_1.2.1 = 0 then Option.bind (ref07_signed.f 9218868437227405312 !q.1 == q_1.1) fun q => some (q, 2) else Option.bind (r02_Of.f q.2.2.2) fun q_4 => Option.bind (r02_Shl.f q_4 120) fun q_5 => Option.bind (r02_Of.f q_1.2.2.2) fun q_6 => Option.bind (r02_Parts.f q_5 q_6) fun q_7 => Option.bind (r02_Shl.f q_7.1 1) fun q_8 => if ((List.length (q_7.2) : Nat) : Int) > 0 then Option.bind (r02_Of.f 1) fun q_9 => Option.bind (r02_Add.f q_8 q_9) fun q_10 => Option.bind (r04_Round.f (!q.1 == q_1.1) (wrap64 (wrap64 (q.2.2.1 - q_1.2.2.1) - 121)) q_10 a2) fun q => some (q.1, q.2) else Option.bind (r04_Round.f (!q.1 == q_1.1) (wrap64 (wrap64 (q.2.2.1 - q_1.2.2.1) - 121)) q_8 a2) fun q => some (q.1, q.2) else if q.2.1 = 3 then Option.bind (ref07_signed.f 9218868437227405312 !q.1 == q_1.1) fun q => some (q, 0) else if q_1.2.1 = 3 then Option.bind (ref07_signed.f 0 !q.1 == q_1.1) fun q => some (q, 0) else if q.2.1 = 0 then Option.bind (ref07_signed.f 0 !q.1 == q_1.1) fun q => some (q, 0) else if q_1.2.1 = 0 then Option.bind (ref07_signed.f 9218868437227405312 !q.1 == q_1.1) fun q => some (q, 2) else Option.bind (r02_Of.f q.2.2.2) fun q_4 => Option.bind (r02_Shl.f q_4 120) fun q_5 => Option.bind (r02_Of.f q_1.2.2.2) fun q_6 => Option.bind (r02_Parts.f q_5 q_6) fun q_7 => Option.bind (r02_Shl.f q_7.1 1) fun q_8 => if ((List.length (q_7.2) : Nat) : Int) > 0 then Option.bind (r02_Of.f 1) fun q_9 => Option.bind (r02_Add.f q_8 q_9) fun q_10 => Option.bind (r04_Round.f (!q.1 == q_1.1) (wrap64 (wrap64 (q.2.2.1 - q_1.2.2.1) - 121)) q_10 a2) fun q => some (q.1, q.2) else Option.bind (r04_Round.f (!q.1 == q_1.1) (wrap64 (wrap64 (q.2.2.1 - q_1.2.2.1) - 121)) q_8 a2) fun q => some (q.1, q.2)
noncomputable abbrev ref07_Div.c : Codec (Int × Int) := Ty.codec (.tup [vu, vi])
theorem ref07_Div.g : Den.Good Try.prog 40 [vu, vu, vi] ref07_Div.c.enc (fun x => ref07_Div.f x.1 x.2.1 x.2.2) := good hm k72 Try.func40 (by kernel_rfl) ref07_Div.c (fun x => by kernel_rfl)
noncomputable abbrev t73 : List (Nat × Entry) := (40, entry [vu, vu, vi] ref07_Div.c.enc (fun x => ref07_Div.f x.1 x.2.1 x.2.2)) :: t72
theorem k73 : TblOK Try.prog (tbl t73) := .cons (ref07_Div.g.entry) k72
noncomputable def cplx_bothMul.f (a0 : Int) (a1 : Int) (a2 : Int) (a3 : Int) : Option (Int × Int × Int) :=
  Option.bind (prod_Mul.f a0 a2 0) fun q => Option.bind (prod_Mul.f a1 a3 0) fun q_1 => some (q.1, q_1.1, bits .or .u8 q.2 q_1.2)
noncomputable abbrev cplx_bothMul.c : Codec (Int × Int × Int) := (Ty.codec (.tup [vP, v8])).map (γ := Int × Int × Int) (fun y => (y.1.1, y.1.2, y.2)) (fun z => ((z.1, z.2.1), z.2.2)) (fun _ => rfl)
theorem cplx_bothMul.g : Den.Good Try.prog 34 [.b (.fn 28), vP, vP] cplx_bothMul.c.enc (fun x => cplx_bothMul.f x.2.1.1 x.2.1.2 x.2.2.1 x.2.2.2) := good hm k73 Try.func34 (by kernel_rfl) cplx_bothMul.c (fun x => by kernel_rfl)
noncomputable abbrev t74 : List (Nat × Entry) := (34, entry [.b (.fn 28), vP, vP] cplx_bothMul.c.enc (fun x => cplx_bothMul.f x.2.1.1 x.2.1.2 x.2.2.1 x.2.2.2)) :: t73
theorem k74 : TblOK Try.prog (tbl t74) := .cons (cplx_bothMul.g.entry) k73
noncomputable def cplx_bothDiv.f (a0 : Int) (a1 : Int) (a2 : Int) (a3 : Int) : Option (Int × Int × Int) :=
  Option.bind (quot_DivC.f a0 a2 0) fun q => Option.bind (quot_DivC.f a1 a3 0) fun q_1 => some (q.1, q_1.1, bits .or .u8 q.2 q_1.2)
noncomputable abbrev cplx_bothDiv.c : Codec (Int × Int × Int) := (Ty.codec (.tup [vP, v8])).map (γ := Int × Int × Int) (fun y => (y.1.1, y.1.2, y.2)) (fun z => ((z.1, z.2.1), z.2.2)) (fun _ => rfl)
theorem cplx_bothDiv.g : Den.Good Try.prog 34 [.b (.fn 39), vP, vP] cplx_bothDiv.c.enc (fun x => cplx_bothDiv.f x.2.1.1 x.2.1.2 x.2.2.1 x.2.2.2) := good hm k74 Try.func34 (by kernel_rfl) cplx_bothDiv.c (fun x => by kernel_rfl)
noncomputable abbrev t75 : List (Nat × Entry) := (34, entry [.b (.fn 39), vP, vP] cplx_bothDiv.c.enc (fun x => cplx_bothDiv.f x.2.1.1 x.2.1.2 x.2.2.1 x.2.2.2)) :: t74
theorem k75 : TblOK Try.prog (tbl t75) := .cons (cplx_bothDiv.g.entry) k74
noncomputable def cplx_Scale.f (a0 : Int) (a1 : Int) (a2 : Int) : Option (Int × Int × Int) :=
  Option.bind (cplx_bothMul.f a0 a1 a2 a2) fun q => some (q.1, q.2.1, q.2.2)
noncomputable abbrev cplx_Scale.c : Codec (Int × Int × Int) := (Ty.codec (.tup [vP, v8])).map (γ := Int × Int × Int) (fun y => (y.1.1, y.1.2, y.2)) (fun z => ((z.1, z.2.1), z.2.2)) (fun _ => rfl)
theorem cplx_Scale.g : Den.Good Try.prog 22 [vP, vu] cplx_Scale.c.enc (fun x => cplx_Scale.f x.1.1 x.1.2 x.2) := good hm k75 Try.func22 (by kernel_rfl) cplx_Scale.c (fun x => by kernel_rfl)
noncomputable abbrev t76 : List (Nat × Entry) := (22, entry [vP, vu] cplx_Scale.c.enc (fun x => cplx_Scale.f x.1.1 x.1.2 x.2)) :: t75
theorem k76 : TblOK Try.prog (tbl t76) := .cons (cplx_Scale.g.entry) k75
noncomputable def cplx_Div.f (a0 : Int) (a1 : Int) (a2 : Int) : Option (Int × Int × Int) :=
  Option.bind (cplx_bothDiv.f a0 a1 a2 a2) fun q => some (q.1, q.2.1, q.2.2)
noncomputable abbrev cplx_Div.c : Codec (Int × Int × Int) := (Ty.codec (.tup [vP, v8])).map (γ := Int × Int × Int) (fun y => (y.1.1, y.1.2, y.2)) (fun z => ((z.1, z.2.1), z.2.2)) (fun _ => rfl)
theorem cplx_Div.g : Den.Good Try.prog 24 [vP, vu] cplx_Div.c.enc (fun x => cplx_Div.f x.1.1 x.1.2 x.2) := good hm k76 Try.func24 (by kernel_rfl) cplx_Div.c (fun x => by kernel_rfl)
noncomputable abbrev t77 : List (Nat × Entry) := (24, entry [vP, vu] cplx_Div.c.enc (fun x => cplx_Div.f x.1.1 x.1.2 x.2)) :: t76
theorem k77 : TblOK Try.prog (tbl t77) := .cons (cplx_Div.g.entry) k76
noncomputable def cplx_More.f (a0 : Int) (a1 : Int) (a2 : Int) (a3 : Int) (a4 : Int) : Option (Int × Int × Int) :=
  Option.bind (prod_Fma.f a0 a2 a3 0) fun q => Option.bind (prod_Fma.f a1 a2 a4 0) fun q_1 => some (q.1, q_1.1, bits .or .u8 q.2 q_1.2)
noncomputable abbrev cplx_More.c : Codec (Int × Int × Int) := (Ty.codec (.tup [vP, v8])).map (γ := Int × Int × Int) (fun y => (y.1.1, y.1.2, y.2)) (fun z => ((z.1, z.2.1), z.2.2)) (fun _ => rfl)
theorem cplx_More.g : Den.Good Try.prog 26 [vP, vu, vP] cplx_More.c.enc (fun x => cplx_More.f x.1.1 x.1.2 x.2.1 x.2.2.1 x.2.2.2) := good hm k77 Try.func26 (by kernel_rfl) cplx_More.c (fun x => by kernel_rfl)
noncomputable abbrev t78 : List (Nat × Entry) := (26, entry [vP, vu, vP] cplx_More.c.enc (fun x => cplx_More.f x.1.1 x.1.2 x.2.1 x.2.2.1 x.2.2.2)) :: t77
theorem k78 : TblOK Try.prog (tbl t78) := .cons (cplx_More.g.entry) k77
noncomputable def ref17_Scale.f (a0 : Int) (a1 : Int) (a2 : Int) : Option (Int × Int × Int) :=
  Option.bind (ref06_Mul.f a0 a2 0) fun q => Option.bind (ref06_Mul.f a1 a2 0) fun q_1 => some (q.1, q_1.1, bits .or .i64 q.2 q_1.2)
noncomputable abbrev ref17_Scale.c : Codec (Int × Int × Int) := (Ty.codec (.tup [vP, vi])).map (γ := Int × Int × Int) (fun y => (y.1.1, y.1.2, y.2)) (fun z => ((z.1, z.2.1), z.2.2)) (fun _ => rfl)
theorem ref17_Scale.g : Den.Good Try.prog 23 [vP, vu] ref17_Scale.c.enc (fun x => ref17_Scale.f x.1.1 x.1.2 x.2) := good hm k78 Try.func23 (by kernel_rfl) ref17_Scale.c (fun x => by kernel_rfl)
noncomputable abbrev t79 : List (Nat × Entry) := (23, entry [vP, vu] ref17_Scale.c.enc (fun x => ref17_Scale.f x.1.1 x.1.2 x.2)) :: t78
theorem k79 : TblOK Try.prog (tbl t79) := .cons (ref17_Scale.g.entry) k78
noncomputable def ref17_Div.f (a0 : Int) (a1 : Int) (a2 : Int) : Option (Int × Int × Int) :=
  Option.bind (ref07_Div.f a0 a2 0) fun q => Option.bind (ref07_Div.f a1 a2 0) fun q_1 => some (q.1, q_1.1, bits .or .i64 q.2 q_1.2)
noncomputable abbrev ref17_Div.c : Codec (Int × Int × Int) := (Ty.codec (.tup [vP, vi])).map (γ := Int × Int × Int) (fun y => (y.1.1, y.1.2, y.2)) (fun z => ((z.1, z.2.1), z.2.2)) (fun _ => rfl)
theorem ref17_Div.g : Den.Good Try.prog 25 [vP, vu] ref17_Div.c.enc (fun x => ref17_Div.f x.1.1 x.1.2 x.2) := good hm k79 Try.func25 (by kernel_rfl) ref17_Div.c (fun x => by kernel_rfl)
noncomputable abbrev t80 : List (Nat × Entry) := (25, entry [vP, vu] ref17_Div.c.enc (fun x => ref17_Div.f x.1.1 x.1.2 x.2)) :: t79
theorem k80 : TblOK Try.prog (tbl t80) := .cons (ref17_Div.g.entry) k79
noncomputable def ref17_More.f (a0 : Int) (a1 : Int) (a2 : Int) (a3 : Int) (a4 : Int) : Option (Int × Int × Int) :=
  Option.bind (ref06_Fma.f a0 a2 a3 0) fun q => Option.bind (ref06_Fma.f a1 a2 a4 0) fun q_1 => some (q.1, q_1.1, bits .or .i64 q.2 q_1.2)
noncomputable abbrev ref17_More.c : Codec (Int × Int × Int) := (Ty.codec (.tup [vP, vi])).map (γ := Int × Int × Int) (fun y => (y.1.1, y.1.2, y.2)) (fun z => ((z.1, z.2.1), z.2.2)) (fun _ => rfl)
theorem ref17_More.g : Den.Good Try.prog 27 [vP, vu, vP] ref17_More.c.enc (fun x => ref17_More.f x.1.1 x.1.2 x.2.1 x.2.2.1 x.2.2.2) := good hm k80 Try.func27 (by kernel_rfl) ref17_More.c (fun x => by kernel_rfl)
noncomputable abbrev t81 : List (Nat × Entry) := (27, entry [vP, vu, vP] ref17_More.c.enc (fun x => ref17_More.f x.1.1 x.1.2 x.2.1 x.2.2.1 x.2.2.2)) :: t80
theorem k81 : TblOK Try.prog (tbl t81) := .cons (ref17_More.g.entry) k80
noncomputable def l17_Scales.f (a0 : Int) (a1 : Int) (a2 : Int) (a3 : Int) (a4 : Int) : Option (Bool) :=
  Option.bind (l17_pair.f a0 a1) fun q => Option.bind (cplx_Scale.f q.1 q.2 a2) fun q => Option.bind (ref17_Scale.f a0 a1 a2) fun q_1 => Option.bind (l17_pair.f a0 a1) fun q_2 => Option.bind (cplx_Div.f q_2.1 q_2.2 a2) fun q_3 => Option.bind (ref17_Div.f a0 a1 a2) fun q_4 => Option.bind (l17_pair.f a0 a1) fun q_5 => Option.bind (l17_pair.f a3 a4) fun q_6 => Option.bind (cplx_More.f q_5.1 q_5.2 a2 q_6.1 q_6.2) fun q_7 => Option.bind (ref17_More.f a0 a1 a2 a3 a4) fun q_8 => Option.bind (l17_is.f q.1 q.2.1 q.2.2 q_1.1 q_1.2.1 q_1.2.2) fun q => if q = true then Option.bind (l17_is.f q_3.1 q_3.2.1 q_3.2.2 q_4.1 q_4.2.1 q_4.2.2) fun q => if q = true then Option.bind (l17_is.f q_7.1 q_7.2.1 q_7.2.2 q_8.1 q_8.2.1 q_8.2.2) fun q => if q = true then Option.bind l17_sure.f fun q => if q = true then some true else some false else some false else some false else some false
noncomputable abbrev l17_Scales.c : Codec (Bool) := Ty.codec (.one vb)
theorem l17_Scales.g : Den.Good Try.prog 7 [vP, vu, vP] l17_Scales.c.enc (fun x => l17_Scales.f x.1.1 x.1.2 x.2.1 x.2.2.1 x.2.2.2) := good hm k81 Try.func7 (by kernel_rfl) l17_Scales.c (fun x => by kernel_rfl)
end Go.Proofs.Ythcgeekibomhiaa.D
end
section
namespace Go.Proofs.Ythcgeekibomhiaa
set_option linter.unusedVariables false
set_option linter.unusedSimpArgs false
open Go.RowKit X Go.Proofs.YthcgeekibomhiaaW.PrintWords
section
variable {x y B : Nat}
theorem parts_l1 (hB : B + 1 ≤ 1000000) (hy : y < 65536 ^ B) (hy0 : y ≠ 0) (r : Nat) (hr : r < 65536 * y) (X : List Int) (qs : List Int) (n8 : Int) (j : Nat) (hj : j < qs.length) (hq : qs.length < 4000000000000000000) (out : List Int × List Int)
    (next : Ev (fun k => r2_Parts.l0 k X (ln y) (ln (r % y)) (qs.set j ((r / y : Nat) : Int)) n8 ((j : Int) - 1)) out) :
    ∀ (e g : Nat), g = r / y + e → g ≤ 65535 → Ev (fun k => r2_Parts.l1 k X (ln y) (ln r) qs n8 (j : Int) (g : Int) (ln (y * g))) out := by
  have hdm := Nat.div_add_mod r y
  generalize r / y = q at *
  have hml := Nat.mod_lt r (show 0 < y by omega)
  have hP : 65536 ^ (B + 1) = 65536 ^ B * 65536 := Nat.pow_succ ..
  have hrB : r < 65536 ^ (B + 1) := by omega
  intro e
  induction e with
  | zero =>
    intro g hg hle
    rw [Nat.add_zero] at hg
    rw [hg] at hle ⊢
    have hsub : r - y * (q) = r % y := by omega
    have hsb := sub_ev hB hrB (y := y * (q)) (by omega)
    rw [hsub] at hsb
    have hc := cmp_ev hB (x := y * (q)) (y := r) (by omega) hrB
    have ec : ¬ cmpI (y * (q)) r > 0 := by unfold cmpI; split; omega; split <;> omega
    refine Ev.step (f := fun k => (r2_Cmp.f k (ln (y * (q))) (ln r)).bind fun t207 => (if t207 > 0 then ((r2_Sub.f k (ln (y * (q))) (ln y)).bind fun t208 => (r2_Parts.l1 k X (ln y) (ln r) qs n8 (j : Int) (IntKind.u64.wrap (((q : Nat) : Int) - 1)) t208)) else ((r2_Sub.f k (ln r) (ln (y * (q)))).bind fun t211 => (if 0 ≤ (j : Int) then (if (j : Int) < (qs.length : Int) then (r2_Parts.l0 k X (ln y) t211 (qs.set ((j : Int) : Int).toNat ((((q : Nat) : Int)) % 4294967296)) n8 (wrap64 ((j : Int) - 1))) else (none)) else (none))))) (fun k => by simp only [r2_Parts.l1]) (Ev.bind hc ?_)
    refine Ev.congr (fun k => by rw [if_neg ec]) (Ev.bind hsb (Ev.congr (fun k => ?_) next))
    rw [if_pos (by omega), if_pos (by omega), Int.toNat_natCast]
    congr 1
    · rw [show ((q : Int) % 4294967296) = (q : Int) by omega]
    · unfold wrap64; omega
  | succ e ih =>
    intro g hg hle
    have hgt : r < y * g := by
      have : y * (q + 1) ≤ y * g := Nat.mul_le_mul_left _ (by omega)
      rw [Nat.mul_add, Nat.mul_one] at this
      omega
    have hyg : y * g ≤ y * 65535 := Nat.mul_le_mul_left _ hle
    have e1 : y * g - y = y * (g - 1) := by rw [Nat.mul_sub, Nat.mul_one]
    have hsb := sub_ev hB (x := y * g) (y := y) (by omega) (Nat.le_mul_of_pos_right _ (by omega))
    rw [e1] at hsb
    have hc := cmp_ev hB (x := y * g) (y := r) (by omega) hrB
    have ec : cmpI (y * g) r > 0 := by unfold cmpI; rw [if_neg (by omega), if_pos hgt]; decide
    refine Ev.step (f := fun k => (r2_Cmp.f k (ln (y * g)) (ln r)).bind fun t207 => (if t207 > 0 then ((r2_Sub.f k (ln (y * g)) (ln y)).bind fun t208 => (r2_Parts.l1 k X (ln y) (ln r) qs n8 (j : Int) (IntKind.u64.wrap (((g : Nat) : Int) - 1)) t208)) else ((r2_Sub.f k (ln r) (ln (y * g))).bind fun t211 => (if 0 ≤ (j : Int) then (if (j : Int) < (qs.length : Int) then (r2_Parts.l0 k X (ln y) t211 (qs.set ((j : Int) : Int).toNat (((g : Nat) : Int) % 4294967296)) n8 (wrap64 ((j : Int) - 1))) else (none)) else (none))))) (fun k => by simp only [r2_Parts.l1]) (Ev.bind hc ?_)
    refine Ev.congr (fun k => by rw [if_pos ec]) (Ev.bind hsb (Ev.congr (fun k => ?_) (ih (g - 1) (by omega) (by omega))))
    congr 1
    rw [IntKind.wrap_u64]
    omega
theorem guess_ge {r z : Nat} (hz : y / 65536 ^ z ≠ 0) : r / y ≤ r / 65536 ^ z / (y / 65536 ^ z) := by
  rw [Nat.le_div_iff_mul_le (Nat.pos_of_ne_zero hz), Nat.le_div_iff_mul_le (p16 z), Nat.mul_assoc]
  have h1 : y / 65536 ^ z * 65536 ^ z ≤ y := Nat.div_mul_le_self _ _
  have h2 : r / y * (y / 65536 ^ z * 65536 ^ z) ≤ r / y * y := Nat.mul_le_mul_left _ h1
  exact Nat.le_trans h2 (Nat.div_mul_le_self _ _)
theorem parts_l0 (hB : B + 1 ≤ 1000000) (hx : x < 65536 ^ B) (hy : y < 65536 ^ B) (hy0 : y ≠ 0) : ∀ (m : Nat) (qs : List Int), m ≤ (ln x).length → nok qs → qs.length = (ln x).length → nv qs = 65536 ^ m * (x / 65536 ^ m / y) →
    Ev (fun k => r2_Parts.l0 k (ln x) (ln y) (ln (x / 65536 ^ m % y)) qs ((ln y).length : Int) ((m : Int) - 1)) (ln (x / y), ln (x % y)) := by
  have lx := ln_length hx
  have ly := ln_length hy
  intro m
  induction m with
  | zero =>
    intro qs hm hok hlen hv
    rw [Nat.pow_zero, Nat.div_one, Nat.one_mul] at hv
    have hT := trim_ev hok (by omega)
    rw [hv] at hT
    refine Ev.step (f := fun k => (r2_trim.f k qs).bind fun t => some (t, ln (x % y))) (fun k => ?_) (Ev.bind hT (Ev.now _))
    simp only [r2_Parts.l0]
    rw [if_neg (by omega), Nat.pow_zero, Nat.div_one]
  | succ j ih =>
    intro qs hm hok hlen hv
    have hd := div_step x j
    generalize hr0 : x / 65536 ^ (j + 1) % y = r0 at *
    have hr0l : r0 < y := by rw [← hr0]; exact Nat.mod_lt _ (by omega)
    generalize hdj : x / 65536 ^ j % 65536 = dj at *
    have hdjl : dj < 65536 := by omega
    have hq0 := Nat.div_add_mod (x / 65536 ^ (j + 1)) y
    rw [hr0] at hq0
    generalize hQ : x / 65536 ^ (j + 1) / y = Q at *
    have hr : dj + 65536 * r0 < 65536 * y := by omega
    have exj : x / 65536 ^ j = (dj + 65536 * r0) + y * (65536 * Q) := by
      rw [hd, ← hq0, Nat.mul_add, Nat.mul_left_comm]; omega
    have emod : x / 65536 ^ j % y = (dj + 65536 * r0) % y := by rw [exj, Nat.add_mul_mod_self_left]
    have ediv : x / 65536 ^ j / y = (dj + 65536 * r0) / y + 65536 * Q := by rw [exj, Nat.add_mul_div_left _ _ (by omega)]
    generalize hR : dj + 65536 * r0 = r at *
    have hP : 65536 ^ (B + 1) = 65536 ^ B * 65536 := Nat.pow_succ ..
    have hrB : r < 65536 ^ (B + 1) := by omega
    have hyB : y < 65536 ^ (B + 1) := by omega
    have hTr := trim_ev (l := [(dj : Int)] ++ ln r0) (nok_append (nok_one (by omega) (by omega)) (nok_ln _)) (by have := ln_length (n := r0) (L := B) (by omega); simp; omega)
    rw [nv_append, nv_one, nv_ln, Int.toNat_natCast, List.length_singleton, Nat.pow_one, hR] at hTr
    have hc := cmp_ev hB hrB hyB
    have e0 : ((j + 1 : Nat) : Int) - 1 = (j : Int) := by omega
    have ew : wrap64 ((j : Int) - 1) = (j : Int) - 1 := by unfold wrap64; omega
    have hlr := ln_length (n := r0) (L := B) (by omega)
    have hsl : ([(dj : Int)] : List Int).length + (ln r0).length < 35184372088832 := by rw [List.length_singleton]; omega
    by_cases hlt : r < y
    · have ec : cmpI r y < 0 := by unfold cmpI; rw [if_pos hlt]; decide
      have next := ih qs (by omega) hok hlen (by rw [hv, ediv, Nat.div_eq_of_lt hlt, Nat.zero_add, Nat.pow_succ, Nat.mul_assoc])
      rw [emod, Nat.mod_eq_of_lt hlt] at next
      obtain ⟨K1, h1⟩ := hTr
      obtain ⟨K2, h2⟩ := hc
      obtain ⟨K3, h3⟩ := next
      replace h1 : ∀ k, K1 ≤ k → r2_trim.f k ([(dj : Int)] ++ ln r0) = some (ln r) := h1
      replace h2 : ∀ k, K2 ≤ k → r2_Cmp.f k (ln r) (ln y) = some (cmpI r y) := h2
      refine ⟨K1 + K2 + K3 + 1, fun k hk => ?_⟩
      obtain ⟨k, rfl⟩ : ∃ k', k = k' + 1 := ⟨k - 1, by omega⟩
      simp only [r2_Parts.l0]
      rw [e0, if_pos (by omega), if_pos (by omega), if_pos (by omega), rd_ln, hdj, Option.bind_some, if_pos hsl, h1 k (by omega), Option.bind_some, h2 k (by omega), Option.bind_some, if_pos ec, ew]
      exact h3 k (by omega)
    · have ec : ¬ cmpI r y < 0 := by unfold cmpI; rw [if_neg hlt]; split <;> omega
      have hq : r / y ≤ 65535 := by have := Nat.div_lt_of_lt_mul (m := r) (n := y) (k := 65536) (by rw [Nat.mul_comm]; omega); omega
      have hqset : nv (qs.set j ((r / y : Nat) : Int)) = 65536 ^ j * (x / 65536 ^ j / y) := by
        have h1 := nv_set j (by omega) ((r / y : Nat) : Int) (l := qs)
        rw [getD_nv hok, hv, Nat.pow_succ, Nat.mul_assoc, Nat.mul_div_cancel_left _ (p16 j), Nat.mul_mod_right] at h1
        rw [ediv, Nat.mul_add]
        simp only [Int.toNat_natCast, Nat.mul_zero, Nat.add_zero, Int.natCast_zero, Int.toNat_zero] at h1
        omega
      have next := ih (qs.set j ((r / y : Nat) : Int)) (by omega) (nok_set hok j (Int.natCast_nonneg _) (Int.ofNat_lt.2 (Nat.lt_of_le_of_lt hq (by decide)))) (by rw [List.length_set]; exact hlen) hqset
      rw [emod] at next
      have l1 := parts_l1 hB hy hy0 r hr (ln x) qs ((ln y).length : Int) j (by omega) (by omega) _ next
      have hly : 0 < (ln y).length := ln_lt_iff.2 (by rw [Nat.pow_zero]; omega)
      obtain ⟨n, hn⟩ : ∃ n, (ln y).length = n + 1 := ⟨(ln y).length - 1, by omega⟩
      have g1 : 65536 ^ n ≤ y := ln_lt_iff.1 (by omega)
      have g2 : ¬ 65536 ^ (n + 1) ≤ y := mt ln_lt_iff.2 (by omega)
      have en1 : wrap64 (((n + 1 : Nat) : Int) - 1) = (n : Int) := by unfold wrap64; omega
      have key : ∃ (a b c d e : Nat), a < 65536 ∧ b < 65536 ∧ c < 65536 ∧ d < 65536 ∧ e < 65536 ∧ r2_at.f (ln r) ((n + 1 : Nat) : Int) = some (a : Int) ∧ r2_at.f (ln r) (n : Int) = some (b : Int) ∧ r2_at.f (ln r) (wrap64 (((n + 1 : Nat) : Int) - 2)) = some (c : Int) ∧
          rd (ln y) (n : Int) = (d : Int) ∧ r2_at.f (ln y) (wrap64 (((n + 1 : Nat) : Int) - 2)) = some (e : Int) ∧ d * 65536 + e ≠ 0 ∧ r / y ≤ (a * 4294967296 + b * 65536 + c) / (d * 65536 + e) := by
        have hyn : y / 65536 ^ n < 65536 := Nat.div_lt_of_lt_mul (by rw [Nat.pow_succ] at g2; omega)
        have hyn0 : y / 65536 ^ n ≠ 0 := Nat.ne_of_gt (Nat.div_pos g1 (p16 n))
        have hrn : r / 65536 ^ (n + 1) < 65536 := Nat.div_lt_of_lt_mul (by omega)
        cases n with
        | zero =>
          refine ⟨r / 65536 ^ 1 % 65536, r / 65536 ^ 0 % 65536, 0, y / 65536 ^ 0 % 65536, 0, by omega, by omega, by omega, by omega, by omega, at_ln r 1, at_ln r 0, at_neg _ (by unfold wrap64; omega), rd_ln y 0, at_neg _ (by unfold wrap64; omega), ?_, ?_⟩
          · rw [Nat.mod_eq_of_lt hyn]; omega
          · simp only [Nat.pow_zero, Nat.pow_one, Nat.div_one, Nat.zero_add, Nat.add_zero] at hyn hyn0 hrn ⊢
            rw [Nat.mod_eq_of_lt hyn, Nat.mod_eq_of_lt hrn]
            rw [show r / 65536 * 4294967296 + r % 65536 * 65536 = r * 65536 by omega, Nat.mul_div_mul_right _ _ (by omega)]
            exact Nat.le_refl _
        | succ z =>
          have ez : wrap64 (((z + 1 + 1 : Nat) : Int) - 2) = (z : Int) := by unfold wrap64; omega
          rw [ez]
          have h1 := div_step r z
          have h2 := div_step r (z + 1)
          have h3 := div_step y z
          refine ⟨r / 65536 ^ (z + 1 + 1) % 65536, r / 65536 ^ (z + 1) % 65536, r / 65536 ^ z % 65536, y / 65536 ^ (z + 1) % 65536, y / 65536 ^ z % 65536, by omega, by omega, by omega, by omega, by omega, at_ln r _, at_ln r _, at_ln r _, rd_ln y _, at_ln y _, ?_, ?_⟩
          · rw [Nat.mod_eq_of_lt hyn]; omega
          · have := guess_ge (y := y) (r := r) (z := z) (by omega)
            rw [Nat.mod_eq_of_lt hyn, Nat.mod_eq_of_lt hrn]
            rw [show r / 65536 ^ (z + 1 + 1) * 4294967296 + r / 65536 ^ (z + 1) % 65536 * 65536 + r / 65536 ^ z % 65536 = r / 65536 ^ z by omega, show y / 65536 ^ (z + 1) * 65536 + y / 65536 ^ z % 65536 = y / 65536 ^ z by omega]
            exact this
      obtain ⟨a, b, c, d, e, la, lb, lc, ld, le, ha, hb, hcc, hd2, he, hne, hge⟩ := key
      have eT : IntKind.u64.wrap ((IntKind.u64.wrap ((IntKind.u64.wrap ((IntKind.u64.wrap (a : Int)) * 4294967296)) + (IntKind.u64.wrap ((IntKind.u64.wrap (b : Int)) * 65536)))) + (IntKind.u64.wrap (c : Int))) = ((a * 4294967296 + b * 65536 + c : Nat) : Int) := by
        rw [wr64 a (by omega), wr64 b (by omega), wr64 c (by omega), show (4294967296 : Int) = ((4294967296 : Nat) : Int) from rfl, show (65536 : Int) = ((65536 : Nat) : Int) from rfl, wr64m _ _ (by omega), wr64m _ _ (by omega), wr64a _ _ (by omega), wr64a _ _ (by omega)]
      have eD : IntKind.u64.wrap ((IntKind.u64.wrap ((IntKind.u64.wrap (d : Int)) * 65536)) + (IntKind.u64.wrap (e : Int))) = ((d * 65536 + e : Nat) : Int) := by
        rw [wr64 d (by omega), wr64 e (by omega), show (65536 : Int) = ((65536 : Nat) : Int) from rfl, wr64m _ _ (by omega), wr64a _ _ (by omega)]
      have eG : IntKind.u64.wrap (Int.tdiv ((a * 4294967296 + b * 65536 + c : Nat) : Int) ((d * 65536 + e : Nat) : Int)) = (((a * 4294967296 + b * 65536 + c) / (d * 65536 + e) : Nat) : Int) := by
        rw [Int.tdiv_eq_ediv_of_nonneg (by omega)]
        exact wr64 ((a * 4294967296 + b * 65536 + c) / (d * 65536 + e)) (Nat.lt_of_le_of_lt (Nat.div_le_self _ _) (by omega))
      generalize hG : (a * 4294967296 + b * 65536 + c) / (d * 65536 + e) = G at *
      obtain ⟨K1, h1⟩ := hTr
      obtain ⟨K2, h2⟩ := hc
      by_cases hbig : 65535 < G
      · obtain ⟨K3, h3⟩ := l1 (65535 - r / y) 65535 (by omega) (by omega)
        obtain ⟨K4, h4⟩ := small_ev hB hyB 65535 0 (by omega) (by omega)
        rw [Nat.add_zero] at h4
        replace h1 : ∀ k, K1 ≤ k → r2_trim.f k ([(dj : Int)] ++ ln r0) = some (ln r) := h1
        replace h2 : ∀ k, K2 ≤ k → r2_Cmp.f k (ln r) (ln y) = some (cmpI r y) := h2
        refine ⟨K1 + K2 + K3 + K4 + 1, fun k hk => ?_⟩
        obtain ⟨k, rfl⟩ : ∃ k', k = k' + 1 := ⟨k - 1, by omega⟩
        simp only [r2_Parts.l0]
        rw [e0, if_pos (by omega), if_pos (by omega), if_pos (by omega), rd_ln, hdj, Option.bind_some, if_pos hsl, h1 k (by omega), Option.bind_some, h2 k (by omega), Option.bind_some, if_neg ec, hn, ha, Option.bind_some, en1, hb, Option.bind_some, hcc, Option.bind_some, if_pos (by omega), if_pos (by omega), he, Option.bind_some, hd2, eD, eT, eG, if_neg (by omega), show mn (G : Int) 65535 = 65535 from if_pos (by omega), show (65535 : Int) % 4294967296 = 65535 from rfl]
        have h4' := h4 k (by omega)
        simp only [Int.natCast_zero] at h4'
        rw [show ((65535 : Nat) : Int) = 65535 from rfl] at h4'
        rw [h4', Option.bind_some, ← hn]
        exact h3 k (by omega)
      · obtain ⟨K3, h3⟩ := l1 (G - r / y) G (by omega) (by omega)
        obtain ⟨K4, h4⟩ := small_ev hB hyB G 0 (by omega) (by omega)
        rw [Nat.add_zero] at h4
        replace h1 : ∀ k, K1 ≤ k → r2_trim.f k ([(dj : Int)] ++ ln r0) = some (ln r) := h1
        replace h2 : ∀ k, K2 ≤ k → r2_Cmp.f k (ln r) (ln y) = some (cmpI r y) := h2
        refine ⟨K1 + K2 + K3 + K4 + 1, fun k hk => ?_⟩
        obtain ⟨k, rfl⟩ : ∃ k', k = k' + 1 := ⟨k - 1, by omega⟩
        simp only [r2_Parts.l0]
        rw [e0, if_pos (by omega), if_pos (by omega), if_pos (by omega), rd_ln, hdj, Option.bind_some, if_pos hsl, h1 k (by omega), Option.bind_some, h2 k (by omega), Option.bind_some, if_neg ec, hn, ha, Option.bind_some, en1, hb, Option.bind_some, hcc, Option.bind_some, if_pos (by omega), if_pos (by omega), he, Option.bind_some, hd2, eD, eT, eG, if_neg (by omega), show mn (G : Int) 65535 = (G : Int) from if_neg (by omega), show ((G : Int) % 4294967296) = (G : Int) by omega]
        have h4' := h4 k (by omega)
        simp only [Int.natCast_zero] at h4'
        rw [h4', Option.bind_some, ← hn]
        exact h3 k (by omega)
theorem parts_ev (hB : B + 1 ≤ 1000000) (hx : x < 65536 ^ B) (hy : y < 65536 ^ B) (hy0 : y ≠ 0) : Ev (fun k => r2_Parts.f k (ln x) (ln y)) (ln (x / y), ln (x % y)) := by
  have lx := ln_length hx
  have zx : x / 65536 ^ (ln x).length = 0 := div_zero_of (mt ln_lt_iff.2 (by omega))
  have := parts_l0 hB hx hy hy0 (ln x).length (List.replicate (ln x).length 0) (Nat.le_refl _) (nok_zeros _) (by simp) (by rw [nv_zeros, zx]; simp)
  rw [zx, Nat.zero_mod, ln_zero] at this
  refine Ev.congr (fun k => ?_) this
  unfold r2_Parts.f
  rw [if_pos (by omega), Int.toNat_natCast, if_pos (by omega)]
  congr 1
  unfold wrap64
  omega
end
end Go.Proofs.Ythcgeekibomhiaa
end
section
namespace Go.Proofs.Ythcgeekibomhiaa
set_option linter.unusedVariables false
set_option linter.unusedSimpArgs false
open Go.RowKit X D Go.Proofs.YthcgeekibomhiaaW.PrintWords
theorem sig7 {a : Int} (h0 : 0 ≤ a) (h1 : a < 9223372036854775808) (mi : Bool) : ref07_signed.f a mi = some (a + sg mi) := by
  unfold ref07_signed.f sg
  cases mi
  · simp
  · rw [if_pos rfl, if_pos rfl]
    congr 1
    omega
theorem div_ref_eq {a b m : Int} (ha0 : pS a ≠ 0) (hb0 : 0 < pS b) :
    rRound (qMi a b) (pX a - pX b - 121) (2 * ((pS a).toNat * 2 ^ 120 / (pS b).toNat) + if (pS a).toNat * 2 ^ 120 % (pS b).toNat ≠ 0 then 1 else 0) m = qMain a b m := by
  have hpa := pS_bd a
  have hpb := pS_bd b
  generalize hN : (pS a).toNat * 2 ^ 120 = N
  generalize hD : (pS b).toNat = D
  have hD0 : 0 < D := by omega
  have hD1 : D < 9007199254740992 := by omega
  have hN0 : 2 ^ 120 ≤ N := by rw [← hN]; exact Nat.le_mul_of_pos_left _ (by omega)
  have eqN : qN a = 256 * N := by unfold qN; rw [← hN, show (2 : Nat) ^ 128 = 2 ^ 120 * 256 from rfl, ← Nat.mul_assoc, Nat.mul_comm]
  have hdm := Nat.div_add_mod N D
  have hml := Nat.mod_lt N hD0
  have hdm2 := Nat.div_add_mod (256 * N) D
  have hml2 := Nat.mod_lt (256 * N) hD0
  have hq8 : 256 * N / D / 256 = N / D := by rw [Nat.div_div_eq_div_mul, Nat.mul_comm D, Nat.mul_div_mul_left _ _ (by omega)]
  have hbig : 2 ^ 54 ≤ N / D := by
    rw [Nat.le_div_iff_mul_le hD0]
    refine Nat.le_trans (Nat.mul_le_mul_left _ (Nat.le_of_lt hD1)) (Nat.le_trans ?_ hN0)
    decide
  unfold qMain qR qS qT
  rw [eqN, hD]
  by_cases t : 256 * N % D = 0
  · rw [decide_eq_true t]
    show _ = rRound (qMi a b) (pX a - pX b - 128) (256 * N / D) m
    have h1 := round_scale (qMi a b) (pX a - pX b - 128) (256 * N / D) 1 m
    have h2 := round_sticky (qMi a b) (pX a - pX b - 128 - ((1 : Nat) : Int)) (256 * N / D * 2 ^ 1) 8 m (by rw [Nat.pow_one, show (2 : Nat) ^ (8 + 1) = 2 * 256 from rfl, ← Nat.div_div_eq_div_mul, Nat.mul_div_cancel _ (by omega), hq8]; exact hbig)
    rw [h1] at h2
    rw [Nat.pow_one, show (2 : Nat) ^ (8 + 1) = 2 * 256 from rfl, ← Nat.div_div_eq_div_mul, Nat.mul_div_cancel _ (show 0 < 2 by omega), hq8] at h2
    rw [← h2]
    have e1 : pX a - pX b - 128 - ((1 : Nat) : Int) + ((8 : Nat) : Int) = pX a - pX b - 121 := by omega
    rw [e1]
    congr 2
    have hq : 256 * N / D = 256 * (N / D) + 256 * N / D % 256 := by rw [← hq8]; omega
    have key : N % D = 0 ↔ 256 * N / D % 256 = 0 := by
      have e2 : D * (256 * N / D % 256) = 256 * (N % D) := by
        have : D * (256 * N / D) = 256 * N := by omega
        rw [hq, Nat.mul_add, Nat.mul_left_comm] at this
        omega
      constructor
      · intro h
        rw [h, Nat.mul_zero] at e2
        rcases Nat.mul_eq_zero.1 e2 with g | g
        · omega
        · exact g
      · intro h
        rw [h, Nat.mul_zero] at e2
        omega
    have e3 : 256 * N / D * 2 % (2 * 256) = 256 * N / D % 256 * 2 := by omega
    rw [e3]
    by_cases z : N % D = 0
    · rw [if_neg (by omega), if_neg (by have := key.1 z; omega)]
    · rw [if_pos z, if_pos (by have := mt key.2 z; omega)]
  · rw [decide_eq_false t]
    show _ = rRound (qMi a b) (pX a - pX b - 128 - 1) (2 * (256 * N / D) + 1) m
    have e9 : (2 * (256 * N / D) + 1) / 2 ^ (8 + 1) = N / D := by
      rw [show (2 : Nat) ^ (8 + 1) = 2 * 256 from rfl, ← Nat.div_div_eq_div_mul, show (2 * (256 * N / D) + 1) / 2 = 256 * N / D by omega, hq8]
    have h2 := round_sticky (qMi a b) (pX a - pX b - 128 - 1) (2 * (256 * N / D) + 1) 8 m (by rw [e9]; exact hbig)
    rw [e9, if_pos (by rw [show (2 : Nat) ^ (8 + 1) = 512 from rfl]; omega)] at h2
    rw [← h2]
    have e1 : pX a - pX b - 128 - 1 + ((8 : Nat) : Int) = pX a - pX b - 121 := by omega
    have hz : N % D ≠ 0 := by
      intro h
      have : 256 * N = D * (256 * (N / D)) := by rw [Nat.mul_left_comm]; omega
      rw [this, Nat.mul_mod_right] at t
      exact t rfl
    rw [e1, if_pos hz]
theorem pow_120 {s B : Nat} (hB : 130000 ≤ B) (h : s < 9007199254740992) : s * 2 ^ 120 < 65536 ^ B := by
  have h1 : s * 2 ^ 120 < 2 ^ 53 * 2 ^ 120 := Nat.mul_lt_mul_of_pos_right h (Nat.two_pow_pos _)
  have h2 := pow_B (t := 173) hB (by omega)
  rw [← Nat.pow_add] at h1
  exact Nat.lt_trans h1 h2
theorem eta2 (x : Int × Int) : (Option.bind (some x) fun q => some (q.1, q.2)) = some x := rfl
theorem ref07_tail {a b : Int} (m : Int) (h1 : pC a < 3) (ha0 : pC a ≠ 0) (h2 : pC b < 3) (h0 : pC b ≠ 0) :
    (Option.bind (r02_Of.f (pS a)) fun q_4 => Option.bind (r02_Shl.f q_4 120) fun q_5 => Option.bind (r02_Of.f (pS b)) fun q_6 => Option.bind (r02_Parts.f q_5 q_6) fun q_7 => Option.bind (r02_Shl.f q_7.1 1) fun q_8 => if ((List.length (q_7.2) : Nat) : Int) > 0 then Option.bind (r02_Of.f 1) fun q_9 => Option.bind (r02_Add.f q_8 q_9) fun q_10 => Option.bind (r04_Round.f (qMi a b) (wrap64 (wrap64 (pX a - pX b) - 121)) q_10 m) fun q => some (q.1, q.2) else Option.bind (r04_Round.f (qMi a b) (wrap64 (wrap64 (pX a - pX b) - 121)) q_8 m) fun q => some (q.1, q.2)) = some (qMain a b m) := by
  have hpa := pS_bd a
  have hpb := pS_bd b
  have hxa := pX_bd a
  have hxb := pX_bd b
  have hsa := pS_pos a ha0 (by omega)
  have hsb := pS_pos b h0 (by omega)
  obtain ⟨B, hBe⟩ : ∃ B : Nat, B = 130000 := ⟨_, rfl⟩
  have hB : B + 1 ≤ 1000000 := by omega
  have hB' : B ≤ 1000000 := by omega
  have o1 : r02_Of.f (pS a) = _ := evF_eq (of_ev (U_pS a))
  have o2 : r02_Of.f (pS b) = _ := evF_eq (of_ev (U_pS b))
  have s1 : r02_Shl.f (ln (pS a).toNat) ((120 : Nat) : Int) = _ := evF_eq (shl_ev hB' (x := (pS a).toNat) (small_B (by omega) (by omega)) 120 (by omega))
  rw [show ((120 : Nat) : Int) = 120 from rfl] at s1
  have hN := pow_120 (s := (pS a).toNat) (B := B) (by omega) (by omega)
  have p1 : r02_Parts.f (ln ((pS a).toNat * 2 ^ 120)) (ln (pS b).toNat) = _ := evF_eq (parts_ev hB hN (y := (pS b).toNat) (small_B (by omega) (by omega)) (by omega))
  have key := div_ref_eq (a := a) (b := b) (m := m) (by omega) hsb
  have hq := Nat.lt_of_le_of_lt (Nat.div_le_self ((pS a).toNat * 2 ^ 120) (pS b).toNat) hN
  have hq2 : (pS a).toNat * 2 ^ 120 / (pS b).toNat < 2 ^ 173 := by
    refine Nat.lt_of_le_of_lt (Nat.div_le_self _ _) ?_
    have : (pS a).toNat * 2 ^ 120 < 2 ^ 53 * 2 ^ 120 := Nat.mul_lt_mul_of_pos_right (show (pS a).toNat < 2 ^ 53 by rw [show (2 : Nat) ^ 53 = 9007199254740992 from rfl]; omega) (Nat.two_pow_pos _)
    rwa [← Nat.pow_add] at this
  rw [o1, Option.bind_some, s1, Option.bind_some, o2, Option.bind_some, p1, Option.bind_some]
  generalize (pS a).toNat * 2 ^ 120 / (pS b).toNat = Q at *
  generalize (pS a).toNat * 2 ^ 120 % (pS b).toNat = R at *
  have s2 : r02_Shl.f (ln Q) ((1 : Nat) : Int) = _ := evF_eq (shl_ev hB' hq 1 (by omega))
  rw [show ((1 : Nat) : Int) = 1 from rfl] at s2
  rw [Nat.pow_one, Nat.mul_comm] at s2
  have ew : wrap64 (wrap64 (pX a - pX b) - 121) = pX a - pX b - 121 := by unfold wrap64; omega
  have h174 := pow_B (B := B) (t := 174) (by omega) (by omega)
  have hQ2 : 2 * Q + 1 < 2 ^ 174 := by rw [Nat.pow_succ]; omega
  have a1 : r02_Add.f (ln (2 * Q)) (ln 1) = _ := evF_eq (add_ev hB' (x := 2 * Q) (y := 1) (by omega) (one_B (by omega)))
  have of1 : r02_Of.f 1 = _ := evF_eq of_one
  dsimp only
  rw [s2, Option.bind_some, ew]
  by_cases z : R = 0
  · subst z
    rw [if_neg (by simp), Nat.add_zero] at key
    have r1 := ref_round_ev hB' (by omega) (qMi a b) (e := pX a - pX b - 121) (s := 2 * Q) m (by omega) (by have := blen_le_iff.2 (show 2 * Q < 2 ^ 174 by omega); omega) (by omega) (by omega)
    rw [key] at r1
    have r2 : r04_Round.f (qMi a b) (pX a - pX b - 121) (ln (2 * Q)) m = _ := evF_eq r1
    rw [if_neg (fun h => llen_pos.1 h rfl), r2]
    exact eta2 _
  · rw [if_pos z] at key
    have r1 := ref_round_ev hB' (by omega) (qMi a b) (e := pX a - pX b - 121) (s := 2 * Q + 1) m (by omega) (by have := blen_le_iff.2 hQ2; omega) (by omega) (by omega)
    rw [key] at r1
    have r2 : r04_Round.f (qMi a b) (pX a - pX b - 121) (ln (2 * Q + 1)) m = _ := evF_eq r1
    rw [if_pos (llen_pos.2 z), of1, Option.bind_some, a1, Option.bind_some, r2]
    exact eta2 _
theorem qMain_zero {a b : Int} (m : Int) (c0 : pC a = 0) : qMain a b m = (sg (qMi a b), 0) := by
  have hS : pS a = 0 := by have := zero_iff.2 c0; have h3 := pF_bd a; have h4 := pE_bd a; unfold pA at this; unfold pS pE pF at *; split <;> omega
  unfold qMain
  have : qN a = 0 := by unfold qN; rw [hS]; simp
  unfold qR qS qT
  rw [this]
  simp [rX, rS]
  unfold rRound
  rw [if_pos rfl]
theorem ref07_Div.eq {a b : Int} (m : Int) (ha : U a) (hb : U b) : ref07_Div.f a b m = some (qDiv a b m) := by
  have ca := pC_bd a
  have cb := pC_bd b
  have hm : (!pM a == pM b) = qMi a b := by unfold qMi; cases pM a <;> cases pM b <;> rfl
  have nanj : ref07_Div.j0 a b = some (qNone a b) := by unfold ref07_Div.j0; rw [rnone5 ha hb]; rfl
  have g1 : ref07_signed.f 9218868437227405312 (qMi a b) = some (9218868437227405312 + sg (qMi a b)) := sig7 (by omega) (by omega) _
  have g0 : ref07_signed.f 0 (qMi a b) = some (sg (qMi a b)) := by rw [sig7 (by omega) (by omega), Int.zero_add]
  unfold ref07_Div.f qDiv
  rw [r3_Take.eq a (inU_of ha), Option.bind_some, r3_Take.eq b (inU_of hb), Option.bind_some, r3_NaN.eq a (inU_of ha), Option.bind_some]
  dsimp only
  by_cases n1 : 3 < pC a
  · rw [decide_eq_true n1, if_pos rfl, if_pos (Or.inl n1), nanj]
  · rw [decide_eq_false n1, if_neg (by decide), r3_NaN.eq b (inU_of hb), Option.bind_some]
    by_cases n2 : 3 < pC b
    · rw [decide_eq_true n2, if_pos rfl, if_pos (Or.inr n2), nanj]
    · rw [decide_eq_false n2, if_neg (by decide), if_neg (show ¬ (3 < pC a ∨ 3 < pC b) by omega), hm]
      simp only [g1, g0, Option.bind_some]
      by_cases A3 : pC a = 3
      · by_cases B3 : pC b = 3
        · simp [A3, B3]
        · have B3' : ¬ 3 = pC b := fun h => B3 h.symm
          simp [A3, B3, B3']
      · by_cases B3 : pC b = 3
        · by_cases A0 : pC a = 0
          · simp [B3, A0]
          · simp [A3, B3, A0]
        · by_cases A0 : pC a = 0
          · by_cases B0 : pC b = 0
            · simp [B0, A0]
            · have B0' : ¬ 0 = pC b := fun h => B0 h.symm
              have hq := qMain_zero (b := b) m A0
              simp [B3, A0, B0, B0', hq]
          · by_cases B0 : pC b = 0
            · simp [A3, A0, B0]
            · rw [if_neg A3, if_neg A0, if_neg A3, if_neg B3, if_neg A0, if_neg B0, ref07_tail m (by omega) A0 (by omega) B0, if_neg (show ¬ (pC a = pC b ∧ (pC a = 0 ∨ pC a = 3)) from fun h => h.2.elim A0 A3), if_neg A3, if_neg B3, if_neg B0]
end Go.Proofs.Ythcgeekibomhiaa
end
section
namespace Go.Proofs.Ythcgeekibomhiaa
set_option linter.unusedVariables false
set_option linter.unusedSimpArgs false
open Go.RowKit X D Go.Proofs.YthcgeekibomhiaaW.PrintWords
theorem qN_lt (a : Int) : qN a < 2 ^ 254 := by
  have h := pS_bd a
  have h1 : (pS a).toNat < 9007199254740992 := by omega
  unfold qN
  exact Nat.lt_of_lt_of_le (Nat.mul_lt_mul_of_pos_right h1 (Nat.two_pow_pos 128)) (by decide)
theorem qN_T (a : Int) : qN a < T256 := by rw [T256_eq]; exact Nat.lt_trans (qN_lt a) (by decide)
theorem qN_e (a : Int) : (pS a).toNat * 2 ^ (128 : Int).toNat % T256 = qN a := by
  have h : (pS a).toNat * 2 ^ (128 : Int).toNat = qN a := by rw [show (128 : Int).toNat = 128 from rfl]; rfl
  rw [h]
  exact Nat.mod_eq_of_lt (qN_T a)
theorem qS_lt (a b : Int) : qS a b < 2 ^ 254 := Nat.lt_of_le_of_lt (Nat.div_le_self _ _) (qN_lt a)
theorem sg_nz (c : Bool) : decide (¬ sg c = 0) = c := by cases c <;> decide
theorem div_chain {u v : Int} {x1 x2 q1 q2 : Int} {N S T : Nat} (c : Bool) (m : Int) (hu : inU u = true) (hv : inU v = true) (hN : u.toNat * 2 ^ (128 : Int).toNat % T256 = N) (hNT : N < T256) (hu2 : u.toNat < T256) (hv2 : v.toNat < T256) (hv0 : v.toNat ≠ 0)
    (hS : N / v.toNat = S) (hT : N % v.toNat = T) (hS2 : S < 2 ^ 254) (hT2 : T < T256) (e1 : wrap64 (x1 - x2) = q1) (e2 : wrap64 (q1 - 128) = q2) (b1 : -131072 ≤ q2) (b2 : q2 ≤ 131072) :
    (Option.bind (wide_Of.f u) fun q_4 => Option.bind (wide_Shl.f q_4.1 q_4.2.1 q_4.2.2.1 q_4.2.2.2 128) fun q_5 => Option.bind (wide_Of.f v) fun q_6 => Option.bind (wide_DMc.f q_5.1 q_5.2.1 q_5.2.2.1 q_5.2.2.2 q_6.1 q_6.2.1 q_6.2.2.1 q_6.2.2.2) fun q_7 => if ¬Option.isNone q_7.2.2.2.2.2.2.2.2 = true then some (9221120237041090560, 1) else Option.bind (rnd_Round.f (decide ¬sg c = 0) (wrap64 (wrap64 (x1 - x2) - 128)) q_7.1 q_7.2.1 q_7.2.2.1 q_7.2.2.2.1 (decide ¬(q_7.2.2.2.2.1 = 0 ∧ q_7.2.2.2.2.2.1 = 0 ∧ q_7.2.2.2.2.2.2.1 = 0 ∧ q_7.2.2.2.2.2.2.2.1 = 0)) m) fun q => some (q.1, q.2)) =
      some (rRound c (rX (!decide (T = 0)) q2) (rS (!decide (T = 0)) S) m) := by
  have hS3 : S < T256 := by rw [T256_eq]; exact Nat.lt_trans hS2 (by decide)
  have eO := wide_Of.eq u hu
  have eP := wide_Of.eq v hv
  have eS := wide_Shl.eq hu2 128
  have eD := wide_DMc.eq hNT hv2 hv0
  have eR := rnd_Round.eq hS3 c q2 (!decide (T = 0)) m hS2 b1 b2
  have en : decide (¬(l0 T = 0 ∧ l1 T = 0 ∧ l2 T = 0 ∧ l3 T = 0)) = !decide (T = 0) := by
    by_cases z : T = 0
    · have : ¬ ¬ (l0 T = 0 ∧ l1 T = 0 ∧ l2 T = 0 ∧ l3 T = 0) := fun h => h ((nil_w hT2).2 z)
      rw [decide_eq_true z, decide_eq_false this]; rfl
    · have : ¬ (l0 T = 0 ∧ l1 T = 0 ∧ l2 T = 0 ∧ l3 T = 0) := fun h => z ((nil_w hT2).1 h)
      rw [decide_eq_false z, decide_eq_true this]; rfl
  rw [hN] at eS
  rw [hS, hT] at eD
  rw [eO]
  simp only [Option.bind_some]
  rw [eS]
  simp only [Option.bind_some]
  rw [eP]
  simp only [Option.bind_some]
  rw [eD]
  simp only [Option.bind_some]
  rw [if_neg (fun h => h rfl), e1, e2, sg_nz, en, eR]
  rfl
theorem quot_spec {a b : Int} (m : Int) (ha : U a) (hb : U b) : quot_DivC.f a b m = some (qDiv a b m) := by
  have hx := bits_xor_U a b ha hb
  have e1 : bits .and .u64 (bits .xor .u64 a b) 9223372036854775808 = sg (qMi a b) := by rw [band_sg _ hx.1, hx.2]; rfl
  have e2 := bor_inf (qMi a b)
  have ca := pC_bd a
  have cb := pC_bd b
  have nanj : quot_DivC.j0 a b = some (qNone a b) := by
    unfold quot_DivC.j0
    rw [quot_none.eq a b (inU_of ha) (inU_of hb)]
    rfl
  have main : pC a < 3 → pC b < 3 → pC b ≠ 0 → _ := fun h1 h2 h0 => by
    have hpa := pS_bd a
    have hpb := pS_bd b
    have hxa := pX_bd a
    have hxb := pX_bd b
    have hsb := pS_pos b h0 (by omega)
    have hT : qT a b < T256 := Nat.lt_of_le_of_lt (Nat.mod_le _ _) (qN_T a)
    exact div_chain (u := pS a) (v := pS b) (x1 := pX a) (x2 := pX b) (q1 := pX a - pX b) (q2 := pX a - pX b - 128) (N := qN a) (S := qS a b) (T := qT a b) (qMi a b) m (inU_of (U_pS a)) (inU_of (U_pS b)) (qN_e a) (qN_T a) (pS_T a) (pS_T b) (by omega)
      rfl rfl (qS_lt a b) hT (by unfold wrap64; omega) (by unfold wrap64; omega) (by omega) (by omega)
  unfold quot_DivC.f qDiv
  rw [e1, e2, pat_Take.eq a (inU_of ha), Option.bind_some, pat_Take.eq b (inU_of hb), Option.bind_some, pat_IsNaN.eq a (inU_of ha), Option.bind_some, pat_IsNaN.eq b (inU_of hb)]
  dsimp only
  by_cases n1 : 3 < pC a
  · rw [decide_eq_true n1, if_pos rfl, if_pos (Or.inl n1), nanj]
  · rw [decide_eq_false n1, if_neg (by decide), Option.bind_some]
    by_cases n2 : 3 < pC b
    · rw [decide_eq_true n2, if_pos rfl, if_pos (Or.inr n2), nanj]
    · rw [decide_eq_false n2, if_neg (by decide), if_neg (show ¬ (3 < pC a ∨ 3 < pC b) by omega)]
      by_cases q : pC a = pC b
      · rw [if_pos q]
        by_cases q0 : pC a = 0
        · rw [if_pos q0, if_pos ⟨q, .inl q0⟩]
        · rw [if_neg q0]
          by_cases q3 : pC a = 3
          · rw [if_pos q3, if_pos ⟨q, .inr q3⟩]
          · rw [if_neg q3, if_neg q3, if_neg (show ¬ pC b = 3 by omega), if_neg (show ¬ pC b = 0 by omega), if_neg (show ¬ (pC a = pC b ∧ (pC a = 0 ∨ pC a = 3)) by omega), if_neg q3, if_neg (show ¬ pC b = 3 by omega), if_neg (show ¬ pC b = 0 by omega)]
            exact main (by omega) (by omega) (by omega)
      · rw [if_neg q, if_neg (show ¬ (pC a = pC b ∧ (pC a = 0 ∨ pC a = 3)) by omega)]
        by_cases q3 : pC a = 3
        · rw [if_pos q3, if_pos q3]
        · rw [if_neg q3, if_neg q3]
          by_cases r3 : pC b = 3
          · rw [if_pos r3, if_pos r3]
          · rw [if_neg r3, if_neg r3]
            by_cases r0 : pC b = 0
            · rw [if_pos r0, if_pos r0]
            · rw [if_neg r0, if_neg r0]
              exact main (by omega) (by omega) (by omega)
theorem div_Fl (a b m : Int) : F32 (qDiv a b m).2 := by
  unfold qDiv
  split
  · exact none_Fl a b
  · split
    · unfold F32; simp
    · split
      · unfold F32; simp
      · split
        · unfold F32; simp
        · split
          · unfold F32; simp
          · unfold qMain; exact round_Fl _ _ _ _
theorem CplxScales (a b y c d : Int) (ha : U a) (hb : U b) (hy : U y) (hc : U c) (hd : U d) : l17_Scales.f a b y c d = some true := by
  obtain ⟨e1, k1⟩ := por_fl (mul_Fl a y 0) (mul_Fl b y 0)
  obtain ⟨e2, k2⟩ := por_fl (div_Fl a y 0) (div_Fl b y 0)
  obtain ⟨e3, k3⟩ := por_fl (fma_Fl a y c 0) (fma_Fl b y d 0)
  unfold l17_Scales.f l17_pair.f ref17_Scale.f ref17_Div.f ref17_More.f cplx_Scale.f cplx_Div.f cplx_More.f cplx_bothMul.f cplx_bothDiv.f
  simp only [Option.bind_some, mul_spec 0 ha hy, mul_spec 0 hb hy, quot_spec 0 ha hy, quot_spec 0 hb hy, fma_spec 0 ha hy hc, fma_spec 0 hb hy hd, ref06_Mul.eq 0 ha hy, ref06_Mul.eq 0 hb hy, ref07_Div.eq 0 ha hy, ref07_Div.eq 0 hb hy,
    ref06_Fma.eq 0 ha hy hc, ref06_Fma.eq 0 hb hy hd, csure, e1, e2, e3, is_eq rfl rfl rfl k1, is_eq rfl rfl rfl k2, is_eq rfl rfl rfl k3, if_true]
end Go.Proofs.Ythcgeekibomhiaa
end
