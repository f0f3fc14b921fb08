import Derived.Test.YthcgeekibomhiaaKM6
import Derived.Test.YthcgeekibomhiaaKMDCplx
import Derived.Test.YthcgeekibomhiaaKMXtillerref02Shr
import Derived.Test.YthcgeekibomhiaaKMXtillerref04Round
section
namespace Go.Proofs.Ythcgeekibomhiaa.D
set_option linter.unusedVariables false
set_option linter.unusedSimpArgs false
open Go Go.RowKit X Br Go.Proofs.Ythcgeekibomhiaa.Den
noncomputable def r02_Shl.f (l : List Int) (n : Int) : Option (List Int) := evF fun k => r2_Shl.f k l n
noncomputable def r02_Add.f (l m : List Int) : Option (List Int) := evF fun k => r2_Add.f k l m
noncomputable def r02_Sub.f (l m : List Int) : Option (List Int) := evF fun k => r2_Sub.f k l m
noncomputable def r02_Mul.f (l m : List Int) : Option (List Int) := evF fun k => r2_Mul.f k l m
noncomputable def r02_Cmp.f (l m : List Int) : Option Int := evF fun k => r2_Cmp.f k l m
noncomputable def r04_Pattern.f (a : Int) : Option (Bool × Int × List Int) := evF fun k => r4_Pattern.f k a
noncomputable def r04_Round.f (mi : Bool) (e : Int) (l : List Int) (m : Int) : Option (Int × Int) := evF fun k => r4_Round.f k mi e l m
section
variable {w : World} {ι : Io} {vals : List Value}
theorem r02_Shl.wide (l : List Int) (n : Int) (y : List Int) (w : World) (ι : Io) (vals : List Value) (h : r02_Shl.f l n = some y) (ho : ∀ b, own ι b → b < w.heap.size) (hr : RVL ι w [.ro (.ints .u32 l), .v (.int .i64 n)] vals) :
    Calls Try.prog 70 vals.toArray w fun e w' => ∃ u, e = .returned u ∧ RV ι w' (.ro (.ints .u32 y)) u ∧ Below w.heap.size w w' := by
  obtain ⟨y0, y1, rfl, h0, h1⟩ := rvl2 hr
  obtain ⟨A, c, rfl, hc, hC⟩ := reads_C h0
  obtain rfl : y1 = .int .i64 n := h1
  obtain ⟨K, hK⟩ := evF_spec h
  refine (r2_Shl.calls K A c l n y w hC hc (hK K (Nat.le_refl _))).mono ?_
  rintro e w' ⟨v, rfl, hV, hb⟩
  exact ⟨v, rfl, V_reads hV ho, hb⟩
theorem r02_Add.wide (l m y : List Int) (w : World) (ι : Io) (vals : List Value) (h : r02_Add.f l m = some y) (ho : ∀ b, own ι b → b < w.heap.size) (hr : RVL ι w [.ro (.ints .u32 l), .ro (.ints .u32 m)] vals) :
    Calls Try.prog 72 vals.toArray w fun e w' => ∃ u, e = .returned u ∧ RV ι w' (.ro (.ints .u32 y)) u ∧ Below w.heap.size w w' := by
  obtain ⟨y0, y1, rfl, h0, h1⟩ := rvl2 hr
  obtain ⟨A, c, rfl, hc, hC⟩ := reads_C h0
  obtain ⟨A1, c1, rfl, hc1, hC1⟩ := reads_C h1
  obtain ⟨K, hK⟩ := evF_spec h
  refine (r2_Add.calls K A c l A1 c1 m y w hC hc hC1 hc1 (hK K (Nat.le_refl _))).mono ?_
  rintro e w' ⟨v, rfl, hV, hb⟩
  exact ⟨v, rfl, V_reads hV ho, hb⟩
theorem r02_Sub.wide (l m y : List Int) (w : World) (ι : Io) (vals : List Value) (h : r02_Sub.f l m = some y) (ho : ∀ b, own ι b → b < w.heap.size) (hr : RVL ι w [.ro (.ints .u32 l), .ro (.ints .u32 m)] vals) :
    Calls Try.prog 92 vals.toArray w fun e w' => ∃ u, e = .returned u ∧ RV ι w' (.ro (.ints .u32 y)) u ∧ Below w.heap.size w w' := by
  obtain ⟨y0, y1, rfl, h0, h1⟩ := rvl2 hr
  obtain ⟨A, c, rfl, hc, hC⟩ := reads_C h0
  obtain ⟨A1, c1, rfl, hc1, hC1⟩ := reads_C h1
  obtain ⟨K, hK⟩ := evF_spec h
  refine (r2_Sub.calls K A c l A1 c1 m y w hC hc hC1 hc1 (hK K (Nat.le_refl _))).mono ?_
  rintro e w' ⟨v, rfl, hV, hb⟩
  exact ⟨v, rfl, V_reads hV ho, hb⟩
theorem r02_Mul.wide (l m y : List Int) (w : World) (ι : Io) (vals : List Value) (h : r02_Mul.f l m = some y) (ho : ∀ b, own ι b → b < w.heap.size) (hr : RVL ι w [.ro (.ints .u32 l), .ro (.ints .u32 m)] vals) :
    Calls Try.prog 90 vals.toArray w fun e w' => ∃ u, e = .returned u ∧ RV ι w' (.ro (.ints .u32 y)) u ∧ Below w.heap.size w w' := by
  obtain ⟨y0, y1, rfl, h0, h1⟩ := rvl2 hr
  obtain ⟨A, c, rfl, hc, hC⟩ := reads_C h0
  obtain ⟨A1, c1, rfl, hc1, hC1⟩ := reads_C h1
  obtain ⟨K, hK⟩ := evF_spec h
  refine (r2_Mul.calls K A c l A1 c1 m y w hC hc hC1 hc1 (hK K (Nat.le_refl _))).mono ?_
  rintro e w' ⟨v, rfl, hV, hb⟩
  exact ⟨v, rfl, V_reads hV ho, hb⟩
theorem r02_Cmp.wide (l m : List Int) (y : Int) (w : World) (ι : Io) (vals : List Value) (h : r02_Cmp.f l m = some y) (ho : ∀ b, own ι b → b < w.heap.size) (hr : RVL ι w [.ro (.ints .u32 l), .ro (.ints .u32 m)] vals) :
    Calls Try.prog 91 vals.toArray w fun e w' => ∃ u, e = .returned u ∧ RV ι w' (.v (.int .i64 y)) u ∧ Below w.heap.size w w' := by
  obtain ⟨y0, y1, rfl, h0, h1⟩ := rvl2 hr
  obtain ⟨A, c, rfl, hc, hC⟩ := reads_C h0
  obtain ⟨A1, c1, rfl, hc1, hC1⟩ := reads_C h1
  obtain ⟨K, hK⟩ := evF_spec h
  refine (r2_Cmp.calls K A c l A1 c1 m y w hC hc hC1 hc1 (hK K (Nat.le_refl _))).mono ?_
  rintro e w' ⟨rfl, hb⟩
  exact ⟨_, rfl, rfl, hb⟩
theorem r04_Pattern.wide (a : Int) (y : Bool × Int × List Int) (w : World) (ι : Io) (vals : List Value) (h : r04_Pattern.f a = some y) (ho : ∀ b, own ι b → b < w.heap.size) (hr : RVL ι w [.v (.int .u64 a)] vals) :
    Calls Try.prog 58 vals.toArray w fun e w' => ∃ u, e = .returned u ∧ RV ι w' (.agg [.v (.bool y.1), .v (.int .i64 y.2.1), .ro (.ints .u32 y.2.2)]) u ∧ Below w.heap.size w w' := by
  obtain ⟨y0, rfl, h0⟩ := rvl1 hr
  obtain rfl : y0 = .int .u64 a := h0
  obtain ⟨K, hK⟩ := evF_spec h
  refine (r4_Pattern.calls K a y.1 y.2.1 y.2.2 w (hK K (Nat.le_refl _))).mono ?_
  rintro e w' ⟨v, rfl, hV, hb⟩
  exact ⟨_, rfl, ⟨[_, _, v], rfl, rfl, rfl, V_reads hV ho, trivial⟩, hb⟩
theorem r04_Round.wide (mi : Bool) (x : Int) (l : List Int) (m : Int) (y : Int × Int) (w : World) (ι : Io) (vals : List Value) (h : r04_Round.f mi x l m = some y) (ho : ∀ b, own ι b → b < w.heap.size)
    (hr : RVL ι w [.agg [.v (.bool mi), .v (.int .i64 x), .ro (.ints .u32 l)], .v (.int .i64 m)] vals) :
    Calls Try.prog 55 vals.toArray w fun e w' => ∃ u, e = .returned u ∧ RV ι w' (.tup [.v (.int .u64 y.1), .v (.int .i64 y.2)]) u ∧ Below w.heap.size w w' := by
  obtain ⟨y0, y1, rfl, ⟨vs, rfl, hl⟩, h1⟩ := rvl2 hr
  obtain ⟨z0, z1, z2, rfl, g0, g1, g2⟩ := rvl3 hl
  obtain rfl : z0 = .bool mi := g0
  obtain rfl : z1 = .int .i64 x := g1
  obtain rfl : y1 = .int .i64 m := h1
  obtain ⟨A, c, rfl, hV⟩ := reads_V g2
  obtain ⟨K, hK⟩ := evF_spec h
  refine (r4_Round.calls K mi x (fun _ => True) A c l m y.1 y.2 w (hV _ _) (hK K (Nat.le_refl _))).mono ?_
  rintro e w' ⟨rfl, hb⟩
  exact ⟨_, rfl, ⟨[_, _], rfl, rfl, rfl, trivial⟩, hb⟩
end
end Go.Proofs.Ythcgeekibomhiaa.D
end
section
namespace Go.Proofs.Ythcgeekibomhiaa.D
set_option linter.unusedVariables false
set_option linter.unusedSimpArgs false
open Go Go.RowKit Go.Proofs Go.Proofs.Ythcgeekibomhiaa.Den X
theorem r3_NaN.g : Den.Good Try.prog 50 [vu] (β := Bool) encB (fun x => r3_NaN.f x) := of_calls Try.func50 (by kernel_rfl) rfl (fun _ => rfl) fun x y w h => r3_NaN.calls x y w h
noncomputable abbrev t47 : List (Nat × Entry) := (50, entryB [vu] (fun x => r3_NaN.f x)) :: t46
theorem k47 : TblOK Try.prog (tbl t47) := .cons (r3_NaN.g.entryB) k46
theorem r3_Abs.g : Den.Good Try.prog 53 [vu] (β := Int) (fun y => .v (.int .u64 y)) (fun x => r3_Abs.f x) := of_calls Try.func53 (by kernel_rfl) rfl (fun _ => rfl) fun x y w h => r3_Abs.calls x y w h
noncomputable abbrev t48 : List (Nat × Entry) := (53, entry [vu] (β := Int) (fun y => .v (.int .u64 y)) (fun x => r3_Abs.f x)) :: t47
theorem k48 : TblOK Try.prog (tbl t48) := .cons (r3_Abs.g.entry) k47
theorem r3_Take.g : Den.Good Try.prog 67 [vu] (β := Bool × Int × Int × Int) (fun y => .agg [.v (.bool y.1), .v (.int .i64 y.2.1), .v (.int .i64 y.2.2.1), .v (.int .u64 y.2.2.2)]) (fun x => r3_Take.f x) := of_calls Try.func67 (by kernel_rfl) rfl (fun _ => rfl) fun x y w h => r3_Take.calls x y.1 y.2.1 y.2.2.1 y.2.2.2 w h
noncomputable abbrev t49 : List (Nat × Entry) := (67, entry [vu] (β := Bool × Int × Int × Int) (fun y => .agg [.v (.bool y.1), .v (.int .i64 y.2.1), .v (.int .i64 y.2.2.1), .v (.int .u64 y.2.2.2)]) (fun x => r3_Take.f x)) :: t48
theorem k49 : TblOK Try.prog (tbl t49) := .cons (r3_Take.g.entry) k48
theorem r02_Shl.g : Den.Good Try.prog 70 [vL, vi] (β := List Int) (fun y => .ro (.ints .u32 y)) (fun x => r02_Shl.f x.1 x.2) := of_wide Try.func70 (by kernel_rfl) fun x y w ι vals h ho hr => r02_Shl.wide x.1 x.2 y w ι vals h ho hr
noncomputable abbrev t50 : List (Nat × Entry) := (70, entry [vL, vi] (β := List Int) (fun y => .ro (.ints .u32 y)) (fun x => r02_Shl.f x.1 x.2)) :: t49
theorem k50 : TblOK Try.prog (tbl t50) := .cons (r02_Shl.g.entry) k49
theorem r02_Add.g : Den.Good Try.prog 72 [vL, vL] (β := List Int) (fun y => .ro (.ints .u32 y)) (fun x => r02_Add.f x.1 x.2) := of_wide Try.func72 (by kernel_rfl) fun x y w ι vals h ho hr => r02_Add.wide x.1 x.2 y w ι vals h ho hr
noncomputable abbrev t51 : List (Nat × Entry) := (72, entry [vL, vL] (β := List Int) (fun y => .ro (.ints .u32 y)) (fun x => r02_Add.f x.1 x.2)) :: t50
theorem k51 : TblOK Try.prog (tbl t51) := .cons (r02_Add.g.entry) k50
theorem r02_Sub.g : Den.Good Try.prog 92 [vL, vL] (β := List Int) (fun y => .ro (.ints .u32 y)) (fun x => r02_Sub.f x.1 x.2) := of_wide Try.func92 (by kernel_rfl) fun x y w ι vals h ho hr => r02_Sub.wide x.1 x.2 y w ι vals h ho hr
noncomputable abbrev t52 : List (Nat × Entry) := (92, entry [vL, vL] (β := List Int) (fun y => .ro (.ints .u32 y)) (fun x => r02_Sub.f x.1 x.2)) :: t51
theorem k52 : TblOK Try.prog (tbl t52) := .cons (r02_Sub.g.entry) k51
theorem r02_Cmp.g : Den.Good Try.prog 91 [vL, vL] (β := Int) (fun y => .v (.int .i64 y)) (fun x => r02_Cmp.f x.1 x.2) := of_wide Try.func91 (by kernel_rfl) fun x y w ι vals h ho hr => r02_Cmp.wide x.1 x.2 y w ι vals h ho hr
noncomputable abbrev t53 : List (Nat × Entry) := (91, entry [vL, vL] (β := Int) (fun y => .v (.int .i64 y)) (fun x => r02_Cmp.f x.1 x.2)) :: t52
theorem k53 : TblOK Try.prog (tbl t53) := .cons (r02_Cmp.g.entry) k52
theorem r02_Mul.g : Den.Good Try.prog 90 [vL, vL] (β := List Int) (fun y => .ro (.ints .u32 y)) (fun x => r02_Mul.f x.1 x.2) := of_wide Try.func90 (by kernel_rfl) fun x y w ι vals h ho hr => r02_Mul.wide x.1 x.2 y w ι vals h ho hr
noncomputable abbrev t54 : List (Nat × Entry) := (90, entry [vL, vL] (β := List Int) (fun y => .ro (.ints .u32 y)) (fun x => r02_Mul.f x.1 x.2)) :: t53
theorem k54 : TblOK Try.prog (tbl t54) := .cons (r02_Mul.g.entry) k53
theorem r04_Pattern.g : Den.Good Try.prog 58 [vu] (β := Bool × Int × List Int) (fun y => .agg [.v (.bool y.1), .v (.int .i64 y.2.1), .ro (.ints .u32 y.2.2)]) (fun x => r04_Pattern.f x) := of_wide Try.func58 (by kernel_rfl) fun x y w ι vals h ho hr => r04_Pattern.wide x y w ι vals h ho hr
noncomputable abbrev t55 : List (Nat × Entry) := (58, entry [vu] (β := Bool × Int × List Int) (fun y => .agg [.v (.bool y.1), .v (.int .i64 y.2.1), .ro (.ints .u32 y.2.2)]) (fun x => r04_Pattern.f x)) :: t54
theorem k55 : TblOK Try.prog (tbl t55) := .cons (r04_Pattern.g.entry) k54
theorem r04_Round.g : Den.Good Try.prog 55 [vR, vi] (β := Int × Int) (fun y => .tup [.v (.int .u64 y.1), .v (.int .i64 y.2)]) (fun x => r04_Round.f x.1.1 x.1.2.1 x.1.2.2 x.2) := of_wide Try.func55 (by kernel_rfl) fun x y w ι vals h ho hr => r04_Round.wide x.1.1 x.1.2.1 x.1.2.2 x.2 y w ι vals h ho hr
noncomputable abbrev t56 : List (Nat × Entry) := (55, entry [vR, vi] (β := Int × Int) (fun y => .tup [.v (.int .u64 y.1), .v (.int .i64 y.2)]) (fun x => r04_Round.f x.1.1 x.1.2.1 x.1.2.2 x.2)) :: t55
theorem k56 : TblOK Try.prog (tbl t56) := .cons (r04_Round.g.entry) k55
noncomputable def ref05_None.f (a0 : Int) (a1 : Int) : Option (Int) :=
  Option.bind (r3_Take.f a0) fun q => if q.2.1 = 5 then some 1 else Option.bind (r3_Take.f a1) fun q => if q.2.1 = 5 then some 1 else some 0
noncomputable abbrev ref05_None.c : Codec (Int) := Ty.codec (.one vi)
theorem ref05_None.g : Den.Good Try.prog 51 [vu, vu] ref05_None.c.enc (fun x => ref05_None.f x.1 x.2) := good hm k56 Try.func51 (by kernel_rfl) ref05_None.c (fun x => by kernel_rfl)
noncomputable abbrev t57 : List (Nat × Entry) := (51, entry [vu, vu] ref05_None.c.enc (fun x => ref05_None.f x.1 x.2)) :: t56
theorem k57 : TblOK Try.prog (tbl t57) := .cons (ref05_None.g.entry) k56
noncomputable def ref05_Sum.j0 (a0 : Bool) (a1 : Int) (a2 : List Int) (a3 : Bool) (a4 : Int) (a5 : List Int) (a6 : Int) : Option (Bool × Int × List Int) :=
  if ((List.length (a2) : Nat) : Int) > 0 then Option.bind (r02_Shl.f a2 (wrap64 (a1 - if a4 < a1 then a4 else a1))) fun q => if ((List.length (a5) : Nat) : Int) > 0 then Option.bind (r02_Shl.f a5 (wrap64 (a4 - if a4 < a1 then a4 else a1))) fun q_1 => if (a0 == a3) = true then if ((List.length (q) : Nat) : Int) = 0 then Option.bind (r02_Add.f q q_1) fun q => some (a3, if a4 < a1 then a4 else a1, q) else Option.bind (r02_Add.f q q_1) fun q => some (a0, if a4 < a1 then a4 else a1, q) else if ((List.length (q) : Nat) : Int) = 0 then if ((List.length (q) : Nat) : Int) = 0 then Option.bind (r02_Add.f q q_1) fun q => some (a3, if a4 < a1 then a4 else a1, q) else Option.bind (r02_Add.f q q_1) fun q => some (a0, if a4 < a1 then a4 else a1, q) else if ((List.length (q_1) : Nat) : Int) = 0 then if ((List.length (q) : Nat) : Int) = 0 then Option.bind (r02_Add.f q q_1) fun q => some (a3, if a4 < a1 then a4 else a1, q) else Option.bind (r02_Add.f q q_1) fun q => some (a0, if a4 < a1 then a4 else a1, q) else Option.bind (r02_Cmp.f q q_1) fun q_2 => if q_2 = 0 then some (decide (a6 = 4), if a4 < a1 then a4 else a1, []) else if q_2 = 1 then Option.bind (r02_Sub.f q q_1) fun q => some (a0, if a4 < a1 then a4 else a1, q) else Option.bind (r02_Sub.f q_1 q) fun q => some (a3, if a4 < a1 then a4 else a1, q) else if (a0 == a3) = true then if ((List.length (q) : Nat) : Int) = 0 then Option.bind (r02_Add.f q []) fun q => some (a3, if a4 < a1 then a4 else a1, q) else Option.bind (r02_Add.f q []) fun q => some (a0, if a4 < a1 then a4 else a1, q) else if ((List.length (q) : Nat) : Int) = 0 then if ((List.length (q) : Nat) : Int) = 0 then Option.bind (r02_Add.f q []) fun q => some (a3, if a4 < a1 then a4 else a1, q) else Option.bind (r02_Add.f q []) fun q => some (a0, if a4 < a1 then a4 else a1, q) else if ((List.length (q) : Nat) : Int) = 0 then Option.bind (r02_Add.f q []) fun q => some (a3, if a4 < a1 then a4 else a1, q) else Option.bind (r02_Add.f q []) fun q => some (a0, if a4 < a1 then a4 else a1, q) else if ((List.length (a5) : Nat) : Int) > 0 then Option.bind (r02_Shl.f a5 (wrap64 (a4 - if a4 < a1 then a4 else a1))) fun q => if (a0 == a3) = true then Option.bind (r02_Add.f [] q) fun q => some (a3, if a4 < a1 then a4 else a1, q) else Option.bind (r02_Add.f [] q) fun q => some (a3, if a4 < a1 then a4 else a1, q) else if (a0 == a3) = true then Option.bind (r02_Add.f [] []) fun q => some (a3, if a4 < a1 then a4 else a1, q) else Option.bind (r02_Add.f [] []) fun q => some (a3, if a4 < a1 then a4 else a1, q)
noncomputable def ref05_Sum.j1 (a0 : Bool) (a1 : Int) (a2 : List Int) (a3 : Bool) (a4 : Int) (a5 : List Int) (a6 : Int) : Option (Bool × Int × List Int) :=
  if ((List.length (a2) : Nat) : Int) = 0 then if ((List.length (a5) : Nat) : Int) = 0 then if (!a0 == a3) = true then some (decide (a6 = 4), a1, []) else some (a0, a1, []) else if ((List.length (a2) : Nat) : Int) > 0 then Option.bind (r02_Shl.f a2 (wrap64 (a1 - a1))) fun q => if ((List.length (a5) : Nat) : Int) > 0 then Option.bind (r02_Shl.f a5 (wrap64 (a4 - a1))) fun q_1 => if (a0 == a3) = true then if ((List.length (q) : Nat) : Int) = 0 then Option.bind (r02_Add.f q q_1) fun q => some (a3, a1, q) else Option.bind (r02_Add.f q q_1) fun q => some (a0, a1, q) else if ((List.length (q) : Nat) : Int) = 0 then if ((List.length (q) : Nat) : Int) = 0 then Option.bind (r02_Add.f q q_1) fun q => some (a3, a1, q) else Option.bind (r02_Add.f q q_1) fun q => some (a0, a1, q) else if ((List.length (q_1) : Nat) : Int) = 0 then if ((List.length (q) : Nat) : Int) = 0 then Option.bind (r02_Add.f q q_1) fun q => some (a3, a1, q) else Option.bind (r02_Add.f q q_1) fun q => some (a0, a1, q) else Option.bind (r02_Cmp.f q q_1) fun q_2 => if q_2 = 0 then some (decide (a6 = 4), a1, []) else if q_2 = 1 then Option.bind (r02_Sub.f q q_1) fun q => some (a0, a1, q) else Option.bind (r02_Sub.f q_1 q) fun q => some (a3, a1, q) else if (a0 == a3) = true then if ((List.length (q) : Nat) : Int) = 0 then Option.bind (r02_Add.f q []) fun q => some (a3, a1, q) else Option.bind (r02_Add.f q []) fun q => some (a0, a1, q) else if ((List.length (q) : Nat) : Int) = 0 then if ((List.length (q) : Nat) : Int) = 0 then Option.bind (r02_Add.f q []) fun q => some (a3, a1, q) else Option.bind (r02_Add.f q []) fun q => some (a0, a1, q) else if ((List.length (q) : Nat) : Int) = 0 then Option.bind (r02_Add.f q []) fun q => some (a3, a1, q) else Option.bind (r02_Add.f q []) fun q => some (a0, a1, q) else if ((List.length (a5) : Nat) : Int) > 0 then Option.bind (r02_Shl.f a5 (wrap64 (a4 - a1))) fun q => if (a0 == a3) = true then Option.bind (r02_Add.f [] q) fun q => some (a3, a1, q) else Option.bind (r02_Add.f [] q) fun q => some (a3, a1, q) else if (a0 == a3) = true then Option.bind (r02_Add.f [] []) fun q => some (a3, a1, q) else Option.bind (r02_Add.f [] []) fun q => some (a3, a1, q) else if ((List.length (a2) : Nat) : Int) > 0 then Option.bind (r02_Shl.f a2 (wrap64 (a1 - a1))) fun q => if ((List.length (a5) : Nat) : Int) > 0 then Option.bind (r02_Shl.f a5 (wrap64 (a4 - a1))) fun q_1 => if (a0 == a3) = true then if ((List.length (q) : Nat) : Int) = 0 then Option.bind (r02_Add.f q q_1) fun q => some (a3, a1, q) else Option.bind (r02_Add.f q q_1) fun q => some (a0, a1, q) else if ((List.length (q) : Nat) : Int) = 0 then if ((List.length (q) : Nat) : Int) = 0 then Option.bind (r02_Add.f q q_1) fun q => some (a3, a1, q) else Option.bind (r02_Add.f q q_1) fun q => some (a0, a1, q) else if ((List.length (q_1) : Nat) : Int) = 0 then if ((List.length (q) : Nat) : Int) = 0 then Option.bind (r02_Add.f q q_1) fun q => some (a3, a1, q) else Option.bind (r02_Add.f q q_1) fun q => some (a0, a1, q) else Option.bind (r02_Cmp.f q q_1) fun q_2 => if q_2 = 0 then some (decide (a6 = 4), a1, []) else if q_2 = 1 then Option.bind (r02_Sub.f q q_1) fun q => some (a0, a1, q) else Option.bind (r02_Sub.f q_1 q) fun q => some (a3, a1, q) else if (a0 == a3) = true then if ((List.length (q) : Nat) : Int) = 0 then Option.bind (r02_Add.f q []) fun q => some (a3, a1, q) else Option.bind (r02_Add.f q []) fun q => some (a0, a1, q) else if ((List.length (q) : Nat) : Int) = 0 then if ((List.length (q) : Nat) : Int) = 0 then Option.bind (r02_Add.f q []) fun q => some (a3, a1, q) else Option.bind (r02_Add.f q []) fun q => some (a0, a1, q) else if ((List.length (q) : Nat) : Int) = 0 then Option.bind (r02_Add.f q []) fun q => some (a3, a1, q) else Option.bind (r02_Add.f q []) fun q => some (a0, a1, q) else if ((List.length (a5) : Nat) : Int) > 0 then Option.bind (r02_Shl.f a5 (wrap64 (a4 - a1))) fun q => if (a0 == a3) = true then Option.bind (r02_Add.f [] q) fun q => some (a3, a1, q) else Option.bind (r02_Add.f [] q) fun q => some (a3, a1, q) else if (a0 == a3) = true then Option.bind (r02_Add.f [] []) fun q => some (a3, a1, q) else Option.bind (r02_Add.f [] []) fun q => some (a3, a1, q)
noncomputable def ref05_Sum.j2 (a0 : Bool) (a1 : Int) (a2 : List Int) (a3 : Bool) (a4 : Int) (a5 : List Int) (a6 : Int) : Option (Bool × Int × List Int) :=
  if ((List.length (a2) : Nat) : Int) > 0 then Option.bind (r02_Shl.f a2 (wrap64 (a1 - a4))) fun q => if ((List.length (a5) : Nat) : Int) > 0 then Option.bind (r02_Shl.f a5 (wrap64 (a4 - a4))) fun q_1 => if (a0 == a3) = true then if ((List.length (q) : Nat) : Int) = 0 then Option.bind (r02_Add.f q q_1) fun q => some (a3, a4, q) else Option.bind (r02_Add.f q q_1) fun q => some (a0, a4, q) else if ((List.length (q) : Nat) : Int) = 0 then if ((List.length (q) : Nat) : Int) = 0 then Option.bind (r02_Add.f q q_1) fun q => some (a3, a4, q) else Option.bind (r02_Add.f q q_1) fun q => some (a0, a4, q) else if ((List.length (q_1) : Nat) : Int) = 0 then if ((List.length (q) : Nat) : Int) = 0 then Option.bind (r02_Add.f q q_1) fun q => some (a3, a4, q) else Option.bind (r02_Add.f q q_1) fun q => some (a0, a4, q) else Option.bind (r02_Cmp.f q q_1) fun q_2 => if q_2 = 0 then some (decide (a6 = 4), a4, []) else if q_2 = 1 then Option.bind (r02_Sub.f q q_1) fun q => some (a0, a4, q) else Option.bind (r02_Sub.f q_1 q) fun q => some (a3, a4, q) else if (a0 == a3) = true then if ((List.length (q) : Nat) : Int) = 0 then Option.bind (r02_Add.f q []) fun q => some (a3, a4, q) else Option.bind (r02_Add.f q []) fun q => some (a0, a4, q) else if ((List.length (q) : Nat) : Int) = 0 then if ((List.length (q) : Nat) : Int) = 0 then Option.bind (r02_Add.f q []) fun q => some (a3, a4, q) else Option.bind (r02_Add.f q []) fun q => some (a0, a4, q) else if ((List.length (q) : Nat) : Int) = 0 then Option.bind (r02_Add.f q []) fun q => some (a3, a4, q) else Option.bind (r02_Add.f q []) fun q => some (a0, a4, q) else if ((List.length (a5) : Nat) : Int) > 0 then Option.bind (r02_Shl.f a5 (wrap64 (a4 - a4))) fun q => if (a0 == a3) = true then Option.bind (r02_Add.f [] q) fun q => some (a3, a4, q) else Option.bind (r02_Add.f [] q) fun q => some (a3, a4, q) else if (a0 == a3) = true then Option.bind (r02_Add.f [] []) fun q => some (a3, a4, q) else Option.bind (r02_Add.f [] []) fun q => some (a3, a4, q)
noncomputable def ref05_Sum.f (a0 : Bool) (a1 : Int) (a2 : List Int) (a3 : Bool) (a4 : Int) (a5 : List Int) (a6 : Int) : Option (Bool × Int × List Int) :=
  if ((List.length (a2) : Nat) : Int) = 0 then if ((List.length (a5) : Nat) : Int) = 0 then ref05_Sum.j1 a0 a1 a2 a3 a4 a5 a6 else if ((List.length (a2) : Nat) : Int) = 0 then if ((List.length (a5) : Nat) : Int) = 0 then if (!a0 == a3) = true then some (decide (a6 = 4), a4, []) else some (a0, a4, []) else ref05_Sum.j2 a0 a1 a2 a3 a4 a5 a6 else ref05_Sum.j2 a0 a1 a2 a3 a4 a5 a6 else if ((List.length (a5) : Nat) : Int) = 0 then ref05_Sum.j1 a0 a1 a2 a3 a4 a5 a6 else if ((List.length (a2) : Nat) : Int) = 0 then if ((List.length (a5) : Nat) : Int) = 0 then if (!a0 == a3) = true then some (decide (a6 = 4), if a4 < a1 then a4 else a1, []) else some (a0, if a4 < a1 then a4 else a1, []) else ref05_Sum.j0 a0 a1 a2 a3 a4 a5 a6 else ref05_Sum.j0 a0 a1 a2 a3 a4 a5 a6
noncomputable abbrev ref05_Sum.c : Codec (Bool × Int × List Int) := Ty.codec (.one vR)
theorem ref05_Sum.g : Den.Good Try.prog 57 [vR, vR, vi] ref05_Sum.c.enc (fun x => ref05_Sum.f x.1.1 x.1.2.1 x.1.2.2 x.2.1.1 x.2.1.2.1 x.2.1.2.2 x.2.2) := good hm k57 Try.func57 (by kernel_rfl) ref05_Sum.c (fun x => by kernel_rfl)
noncomputable abbrev t58 : List (Nat × Entry) := (57, entry [vR, vR, vi] ref05_Sum.c.enc (fun x => ref05_Sum.f x.1.1 x.1.2.1 x.1.2.2 x.2.1.1 x.2.1.2.1 x.2.1.2.2 x.2.2)) :: t57
theorem k58 : TblOK Try.prog (tbl t58) := .cons (ref05_Sum.g.entry) k57
noncomputable def ref05_Add.j0 (a0 : Int) (a1 : Int) : Option (Int × Int) :=
  Option.bind (r3_Abs.f a0) fun q => Option.bind (r3_Abs.f a1) fun q_1 => if q = q_1 then if ¬a0 = a1 then some (9221120237041090560, 1) else Option.bind (r3_Abs.f a0) fun q => if q = 9218868437227405312 then some (a0, 0) else some (a1, 0) else Option.bind (r3_Abs.f a0) fun q => if q = 9218868437227405312 then some (a0, 0) else some (a1, 0)
noncomputable def ref05_Add.j1 (a0 : Int) (a1 : Int) : Option (Int × Int) :=
  Option.bind (ref05_None.f a0 a1) fun q => some (9221120237041090560, q)
noncomputable def ref05_Add.f (a0 : Int) (a1 : Int) (a2 : Int) : Option (Int × Int) :=
  Option.bind (r3_NaN.f a0) fun q => if q = true then ref05_Add.j1 a0 a1 else Option.bind (r3_NaN.f a1) fun q => if q = true then ref05_Add.j1 a0 a1 else Option.bind (r3_Abs.f a0) fun q => if q = 9218868437227405312 then ref05_Add.j0 a0 a1 else Option.bind (r3_Abs.f a1) fun q => if q = 9218868437227405312 then ref05_Add.j0 a0 a1 else Option.bind (r04_Pattern.f a0) fun q => Option.bind (r04_Pattern.f a1) fun q_1 => Option.bind (ref05_Sum.f q.1 q.2.1 q.2.2 q_1.1 q_1.2.1 q_1.2.2 a2) fun q => Option.bind (r04_Round.f q.1 q.2.1 q.2.2 a2) fun q => some (q.1, q.2)
noncomputable abbrev ref05_Add.c : Codec (Int × Int) := Ty.codec (.tup [vu, vi])
theorem ref05_Add.g : Den.Good Try.prog 36 [vu, vu, vi] ref05_Add.c.enc (fun x => ref05_Add.f x.1 x.2.1 x.2.2) := good hm k58 Try.func36 (by kernel_rfl) ref05_Add.c (fun x => by kernel_rfl)
noncomputable abbrev t59 : List (Nat × Entry) := (36, entry [vu, vu, vi] ref05_Add.c.enc (fun x => ref05_Add.f x.1 x.2.1 x.2.2)) :: t58
theorem k59 : TblOK Try.prog (tbl t59) := .cons (ref05_Add.g.entry) k58
noncomputable def ref05_Sub.f (a0 : Int) (a1 : Int) (a2 : Int) : Option (Int × Int) :=
  Option.bind (r3_NaN.f a1) fun q => if q = true then Option.bind (ref05_Add.f a0 a1 a2) fun q => some (q.1, q.2) else Option.bind (ref03_Neg.f a1) fun q => Option.bind (ref05_Add.f a0 q a2) fun q => some (q.1, q.2)
noncomputable abbrev ref05_Sub.c : Codec (Int × Int) := Ty.codec (.tup [vu, vi])
theorem ref05_Sub.g : Den.Good Try.prog 38 [vu, vu, vi] ref05_Sub.c.enc (fun x => ref05_Sub.f x.1 x.2.1 x.2.2) := good hm k59 Try.func38 (by kernel_rfl) ref05_Sub.c (fun x => by kernel_rfl)
noncomputable abbrev t60 : List (Nat × Entry) := (38, entry [vu, vu, vi] ref05_Sub.c.enc (fun x => ref05_Sub.f x.1 x.2.1 x.2.2)) :: t59
theorem k60 : TblOK Try.prog (tbl t60) := .cons (ref05_Sub.g.entry) k59
noncomputable def ref06_bad.f (a0 : Int) (a1 : Int) : Option (Bool) :=
  Option.bind (r3_Abs.f a0) fun q => Option.bind (r3_Abs.f a1) fun q_1 => if q = 0 then if q_1 = 9218868437227405312 then some true else if q_1 = 0 then some (decide (q = 9218868437227405312)) else some false else if q_1 = 0 then some (decide (q = 9218868437227405312)) else some false
noncomputable abbrev ref06_bad.c : Codec (Bool) := Ty.codec (.one vb)
theorem ref06_bad.g : Den.Good Try.prog 52 [vu, vu] ref06_bad.c.enc (fun x => ref06_bad.f x.1 x.2) := good hm k60 Try.func52 (by kernel_rfl) ref06_bad.c (fun x => by kernel_rfl)
noncomputable abbrev t61 : List (Nat × Entry) := (52, entryB [vu, vu] (fun x => ref06_bad.f x.1 x.2)) :: t60
theorem k61 : TblOK Try.prog (tbl t61) := .cons (ref06_bad.g.entryB) k60
noncomputable def ref06_signed.f (a0 : Int) (a1 : Int) (a2 : Int) : Option (Int) :=
  if (!decide (a1 ≥ 9223372036854775808) == decide (a2 ≥ 9223372036854775808)) = true then some ((a0 + 9223372036854775808) % 18446744073709551616) else some a0
noncomputable abbrev ref06_signed.c : Codec (Int) := Ty.codec (.one vu)
theorem ref06_signed.g : Den.Good Try.prog 54 [vu, vu, vu] ref06_signed.c.enc (fun x => ref06_signed.f x.1 x.2.1 x.2.2) := good hm k61 Try.func54 (by kernel_rfl) ref06_signed.c (fun x => by kernel_rfl)
noncomputable abbrev t62 : List (Nat × Entry) := (54, entry [vu, vu, vu] ref06_signed.c.enc (fun x => ref06_signed.f x.1 x.2.1 x.2.2)) :: t61
theorem k62 : TblOK Try.prog (tbl t62) := .cons (ref06_signed.g.entry) k61
noncomputable def ref06_Exact.f (a0 : Int) (a1 : Int) : Option (Bool × Int × List Int) :=
  Option.bind (r04_Pattern.f a0) fun q => Option.bind (r04_Pattern.f a1) fun q_1 => Option.bind (r02_Mul.f q.2.2 q_1.2.2) fun q_2 => some (!q.1 == q_1.1, wrap64 (q.2.1 + q_1.2.1), q_2)
noncomputable abbrev ref06_Exact.c : Codec (Bool × Int × List Int) := Ty.codec (.one vR)
theorem ref06_Exact.g : Den.Good Try.prog 56 [vu, vu] ref06_Exact.c.enc (fun x => ref06_Exact.f x.1 x.2) := good hm k62 Try.func56 (by kernel_rfl) ref06_Exact.c (fun x => by kernel_rfl)
noncomputable abbrev t63 : List (Nat × Entry) := (56, entry [vu, vu] ref06_Exact.c.enc (fun x => ref06_Exact.f x.1 x.2)) :: t62
theorem k63 : TblOK Try.prog (tbl t63) := .cons (ref06_Exact.g.entry) k62
noncomputable def ref06_Mul.j0 (a0 : Int) (a1 : Int) : Option (Int × Int) :=
  Option.bind (ref06_signed.f 9218868437227405312 a0 a1) fun q => some (q, 0)
noncomputable def ref06_Mul.j1 (a0 : Int) (a1 : Int) : Option (Int × Int) :=
  Option.bind (ref05_None.f a0 a1) fun q => some (9221120237041090560, q)
noncomputable def ref06_Mul.f (a0 : Int) (a1 : Int) (a2 : Int) : Option (Int × Int) :=
  Option.bind (r3_NaN.f a0) fun q => if q = true then ref06_Mul.j1 a0 a1 else Option.bind (r3_NaN.f a1) fun q => if q = true then ref06_Mul.j1 a0 a1 else Option.bind (ref06_bad.f a0 a1) fun q => if q = true then some (9221120237041090560, 1) else Option.bind (r3_Abs.f a0) fun q => if q = 9218868437227405312 then ref06_Mul.j0 a0 a1 else Option.bind (r3_Abs.f a1) fun q => if q = 9218868437227405312 then ref06_Mul.j0 a0 a1 else Option.bind (ref06_Exact.f a0 a1) fun q => Option.bind (r04_Round.f q.1 q.2.1 q.2.2 a2) fun q => some (q.1, q.2)
noncomputable abbrev ref06_Mul.c : Codec (Int × Int) := Ty.codec (.tup [vu, vi])
theorem ref06_Mul.g : Den.Good Try.prog 31 [vu, vu, vi] ref06_Mul.c.enc (fun x => ref06_Mul.f x.1 x.2.1 x.2.2) := good hm k63 Try.func31 (by kernel_rfl) ref06_Mul.c (fun x => by kernel_rfl)
noncomputable abbrev t64 : List (Nat × Entry) := (31, entry [vu, vu, vi] ref06_Mul.c.enc (fun x => ref06_Mul.f x.1 x.2.1 x.2.2)) :: t63
theorem k64 : TblOK Try.prog (tbl t64) := .cons (ref06_Mul.g.entry) k63
noncomputable def ref06_Fma.j0 (a0 : Int) (a1 : Int) (a2 : Int) : Option (Int × Int) :=
  Option.bind (ref06_signed.f 9218868437227405312 a0 a1) fun q => Option.bind (r3_Abs.f a2) fun q_1 => if q_1 = 9218868437227405312 then if ¬a2 = q then some (9221120237041090560, 1) else some (q, 0) else some (q, 0)
noncomputable def ref06_Fma.j1 (a0 : Int) (a1 : Int) (a2 : Int) : Option (Int × Int) :=
  Option.bind (ref05_None.f a0 a1) fun q => Option.bind (ref05_None.f a2 a2) fun q_1 => some (9221120237041090560, if q_1 > q then q_1 else q)
noncomputable def ref06_Fma.f (a0 : Int) (a1 : Int) (a2 : Int) (a3 : Int) : Option (Int × Int) :=
  Option.bind (ref06_bad.f a0 a1) fun q => if q = true then some (9221120237041090560, 1) else Option.bind (r3_NaN.f a0) fun q => if q = true then ref06_Fma.j1 a0 a1 a2 else Option.bind (r3_NaN.f a1) fun q => if q = true then ref06_Fma.j1 a0 a1 a2 else Option.bind (r3_NaN.f a2) fun q => if q = true then ref06_Fma.j1 a0 a1 a2 else Option.bind (r3_Abs.f a0) fun q => if q = 9218868437227405312 then ref06_Fma.j0 a0 a1 a2 else Option.bind (r3_Abs.f a1) fun q => if q = 9218868437227405312 then ref06_Fma.j0 a0 a1 a2 else Option.bind (r3_Abs.f a2) fun q => if q = 9218868437227405312 then some (a2, 0) else Option.bind (ref06_Exact.f a0 a1) fun q => Option.bind (r04_Pattern.f a2) fun q_1 => Option.bind (ref05_Sum.f q.1 q.2.1 q.2.2 q_1.1 q_1.2.1 q_1.2.2 a3) fun q => Option.bind (r04_Round.f q.1 q.2.1 q.2.2 a3) fun q => some (q.1, q.2)
noncomputable abbrev ref06_Fma.c : Codec (Int × Int) := Ty.codec (.tup [vu, vi])
theorem ref06_Fma.g : Den.Good Try.prog 32 [vu, vu, vu, vi] ref06_Fma.c.enc (fun x => ref06_Fma.f x.1 x.2.1 x.2.2.1 x.2.2.2) := good hm k64 Try.func32 (by kernel_rfl) ref06_Fma.c (fun x => by kernel_rfl)
noncomputable abbrev t65 : List (Nat × Entry) := (32, entry [vu, vu, vu, vi] ref06_Fma.c.enc (fun x => ref06_Fma.f x.1 x.2.1 x.2.2.1 x.2.2.2)) :: t64
theorem k65 : TblOK Try.prog (tbl t65) := .cons (ref06_Fma.g.entry) k64
noncomputable def ref17_Mul.f (a0 : Int) (a1 : Int) (a2 : Int) (a3 : Int) : Option (Int × Int × Int) :=
  Option.bind (ref06_Mul.f a1 a3 0) fun q => Option.bind (ref03_Neg.f q.1) fun q_1 => Option.bind (ref06_Fma.f a0 a2 q_1 0) fun q_2 => Option.bind (ref06_Mul.f a1 a2 0) fun q_3 => Option.bind (ref06_Fma.f a0 a3 q_3.1 0) fun q_4 => some (q_2.1, q_4.1, bits .or .i64 (bits .or .i64 (bits .or .i64 q.2 q_2.2) q_3.2) q_4.2)
noncomputable abbrev ref17_Mul.c : Codec (Int × Int × Int) := (Ty.codec (.tup [vP, vi])).map (γ := Int × Int × Int) (fun y => (y.1.1, y.1.2, y.2)) (fun z => ((z.1, z.2.1), z.2.2)) (fun _ => rfl)
theorem ref17_Mul.g : Den.Good Try.prog 10 [vP, vP] ref17_Mul.c.enc (fun x => ref17_Mul.f x.1.1 x.1.2 x.2.1 x.2.2) := good hm k65 Try.func10 (by kernel_rfl) ref17_Mul.c (fun x => by kernel_rfl)
noncomputable abbrev t66 : List (Nat × Entry) := (10, entry [vP, vP] ref17_Mul.c.enc (fun x => ref17_Mul.f x.1.1 x.1.2 x.2.1 x.2.2)) :: t65
theorem k66 : TblOK Try.prog (tbl t66) := .cons (ref17_Mul.g.entry) k65
noncomputable def l17_Muls.f (a0 : Int) (a1 : Int) (a2 : Int) (a3 : Int) : Option (Bool) :=
  Option.bind (l17_pair.f a0 a1) fun q => Option.bind (l17_pair.f a2 a3) fun q_1 => Option.bind (cplx_Mul.f q.1 q.2 q_1.1 q_1.2) fun q => Option.bind (ref17_Mul.f a0 a1 a2 a3) fun q_2 => Option.bind (l17_is.f q.1 q.2.1 q.2.2 q_2.1 q_2.2.1 q_2.2.2) fun q => if q = true then Option.bind l17_sure.f fun q => if q = true then some true else some false else some false
noncomputable abbrev l17_Muls.c : Codec (Bool) := Ty.codec (.one vb)
theorem l17_Muls.g : Den.Good Try.prog 3 [vP, vP] l17_Muls.c.enc (fun x => l17_Muls.f x.1.1 x.1.2 x.2.1 x.2.2) := good hm k66 Try.func3 (by kernel_rfl) l17_Muls.c (fun x => by kernel_rfl)
end Go.Proofs.Ythcgeekibomhiaa.D
end
section
namespace Go.Proofs.Ythcgeekibomhiaa
set_option linter.unusedVariables false
set_option linter.unusedSimpArgs false
open Go.RowKit X D Go.Proofs.YthcgeekibomhiaaW.PrintWords
def bad (a b : Int) : Bool := decide (pC a = 0 ∧ pC b = 3 ∨ pC a = 3 ∧ pC b = 0)
def qMul (a b m : Int) : Int × Int :=
  if 3 < pC a ∨ 3 < pC b then qNone a b else if bad a b = true then (9221120237041090560, 1) else if pC a = 3 ∨ pC b = 3 then (9218868437227405312 + sg (qMi a b), 0) else rRound (qMi a b) (pX a + pX b) ((pS a).toNat * (pS b).toNat) m
theorem nothing_eq {a b : Int} (ha : U a) (hb : U b) : prod_nothing.f a b = some (bad a b) := by
  have z1 := zero_iff (a := a)
  have z2 := zero_iff (a := b)
  have i1 := inf_iff (a := a)
  have i2 := inf_iff (a := b)
  unfold prod_nothing.f bad
  rw [pat_Abs.eq a (inU_of ha), Option.bind_some, pat_Abs.eq b (inU_of hb), Option.bind_some]
  by_cases h0 : pA a = 0
  · have c0 := z1.1 h0
    rw [if_pos h0]
    by_cases h1 : pA b = 9218868437227405312
    · rw [if_pos h1, decide_eq_true (.inl ⟨c0, i2.1 h1⟩)]
    · have : pC b ≠ 3 := fun h => h1 (i2.2 h)
      rw [if_neg h1, if_neg (by omega), decide_eq_false (by omega)]
  · have c0 : pC a ≠ 0 := fun h => h0 (z1.2 h)
    rw [if_neg h0]
    by_cases h1 : pA a = 9218868437227405312
    · have c3 := i1.1 h1
      rw [if_pos h1]
      congr 1
      rw [Bool.eq_iff_iff]
      simp only [decide_eq_true_eq]
      rw [z2]
      omega
    · have : pC a ≠ 3 := fun h => h1 (i1.2 h)
      rw [if_neg h1, decide_eq_false (by omega)]
theorem psign_eq {a b : Int} (ha : U a) (hb : U b) : prod_sign.f a b = some (sg (qMi a b)) := by
  have hx := bits_xor_U a b ha hb
  unfold prod_sign.f qMi
  rw [band_sg _ hx.1, hx.2]
theorem pexact_eq {a b : Int} (ha : U a) (hb : U b) : prod_exact.f a b = some (qMi a b, pX a + pX b, l0 ((pS a).toNat * (pS b).toNat), l1 ((pS a).toNat * (pS b).toNat), l2 ((pS a).toNat * (pS b).toNat), l3 ((pS a).toNat * (pS b).toNat), false) := by
  have sa := pS_bd a
  have sb := pS_bd b
  have xa := pX_bd a
  have xb := pX_bd b
  have ew : wrap64 (pX a + pX b) = pX a + pX b := by unfold wrap64; omega
  unfold prod_exact.f
  rw [pat_Take.eq a (inU_of ha), Option.bind_some, pat_Take.eq b (inU_of hb), Option.bind_some]
  dsimp only
  rw [wide_Of.eq (pS a) (inU_of (U_pS a)), Option.bind_some, wide_Of.eq (pS b) (inU_of (U_pS b)), Option.bind_some]
  dsimp only
  rw [wide_Mul.eq (pS_T a) (pS_T b) (by omega) (by omega), Option.bind_some, ew]
  rfl
theorem prod_lt (a b : Int) : (pS a).toNat * (pS b).toNat < 2 ^ 106 := by
  have sa := pS_bd a
  have sb := pS_bd b
  have h1 : (pS a).toNat < 2 ^ 53 := by rw [show (2 : Nat) ^ 53 = 9007199254740992 from rfl]; omega
  have h2 : (pS b).toNat < 2 ^ 53 := by rw [show (2 : Nat) ^ 53 = 9007199254740992 from rfl]; omega
  have := Nat.mul_lt_mul'' h1 h2
  rw [← Nat.pow_add] at this
  exact this
theorem loud_eq {a b : Int} (ha : U a) (hb : U b) : prod_loud2.f a b = some (qNone a b).2 := by
  unfold prod_loud2.f qNone
  rw [pat_Class.eq a (inU_of ha), Option.bind_some]
  by_cases h : pC a = 5
  · rw [if_pos h, if_pos (.inl h)]
  · rw [if_neg h, pat_Class.eq b (inU_of hb), Option.bind_some]
    by_cases g : pC b = 5
    · rw [if_pos g, if_pos (.inr g)]
    · rw [if_neg g, if_neg (fun z => z.elim h g)]
theorem mul_spec {a b : Int} (m : Int) (ha : U a) (hb : U b) : prod_Mul.f a b m = some (qMul a b m) := by
  have ca := pC_bd a
  have cb := pC_bd b
  have nanj : 3 < pC a ∨ 3 < pC b → prod_Mul.j1 a b = some (qMul a b m) := fun h => by
    unfold prod_Mul.j1 qMul
    rw [loud_eq ha hb, if_pos h]
    rfl
  have infj : pC a = 3 ∨ pC b = 3 → prod_Mul.j0 a b = some (9218868437227405312 + sg (qMi a b), 0) := fun h => by
    unfold prod_Mul.j0
    rw [psign_eq ha hb, Option.bind_some, bor_inf]
  unfold prod_Mul.f
  rw [pat_IsNaN.eq a (inU_of ha), Option.bind_some]
  by_cases n1 : 3 < pC a
  · rw [decide_eq_true n1, if_pos rfl]
    exact nanj (.inl n1)
  · rw [decide_eq_false n1, if_neg (by decide), pat_IsNaN.eq b (inU_of hb), Option.bind_some]
    by_cases n2 : 3 < pC b
    · rw [decide_eq_true n2, if_pos rfl]
      exact nanj (.inr n2)
    · rw [decide_eq_false n2, if_neg (by decide)]
      unfold qMul
      rw [if_neg (fun h => h.elim n1 n2), nothing_eq ha hb, Option.bind_some]
      by_cases hbad : bad a b = true
      · rw [if_pos hbad, if_pos hbad]
      · rw [if_neg hbad, if_neg hbad, pat_Finite.eq a (inU_of ha), Option.bind_some]
        by_cases i1 : pC a = 3
        · rw [decide_eq_false (by omega), if_neg (by decide), if_pos (.inl i1)]
          exact infj (.inl i1)
        · rw [decide_eq_true (by omega), if_pos rfl, pat_Finite.eq b (inU_of hb), Option.bind_some]
          by_cases i2 : pC b = 3
          · rw [decide_eq_false (by omega), if_neg (by decide), if_pos (.inr i2)]
            exact infj (.inr i2)
          · rw [decide_eq_true (by omega), if_pos rfl, if_neg (by omega)]
            have hxa := pX_bd a
            have hxb := pX_bd b
            have hl := prod_lt a b
            have h254 : (pS a).toNat * (pS b).toNat < 2 ^ 254 := Nat.lt_trans hl (by decide)
            have hT : (pS a).toNat * (pS b).toNat < T256 := by rw [T256_eq]; exact Nat.lt_trans hl (by decide)
            have eR := rnd_Round.eq hT (qMi a b) (pX a + pX b) false m h254 (by omega) (by omega)
            rw [pexact_eq ha hb, Option.bind_some]
            dsimp only
            rw [eR]
            rfl
theorem nil_w {r : Nat} (h : r < T256) : (l0 r = 0 ∧ l1 r = 0 ∧ l2 r = 0 ∧ l3 r = 0) ↔ r = 0 := l_eq_zero h
def NumOut (mi : Bool) (e : Int) (s : Nat) (o : Bool) (t : Bool × Int × Nat) : Prop := s < 2 ^ 254 ∧ -131072 ≤ e ∧ e ≤ 131072 ∧ ∀ m, rNum mi e s o m = rRound t.1 t.2.1 t.2.2 m
theorem numOut_self {mi : Bool} {e : Int} {s : Nat} (hs : s < 2 ^ 254) (h0 : -131072 ≤ e) (h1 : e ≤ 131072) : NumOut mi e s false (mi, e, s) := ⟨hs, h0, h1, fun _ => rfl⟩
theorem lt_T {s : Nat} (h : s < 2 ^ 254) : s < T256 := by rw [T256_eq]; exact Nat.lt_trans h (by decide)
def dSum (mx : Bool) (A : Nat) (my : Bool) (e : Int) (sy : Nat) (m : Int) : Bool × Int × Nat :=
  if mx = my then (my, e, A + sy) else if A = sy then (decide (m = 4), e, 0) else if sy < A then (mx, e, A - sy) else (my, e, sy - A)
theorem aligned_eq {mx my : Bool} {ex ey : Int} {sx sy A : Nat} (m : Int) (hA : sx * 2 ^ (ex - ey).toNat = A) (hA2 : A < 2 ^ 250) (hx : sx < T256) (hy : sy < 2 ^ 128) (h0 : -5000 ≤ ex) (h1 : ex ≤ 5000) (g0 : -5000 ≤ ey) (g1 : ey ≤ 5000) :
    ∃ mi e s, NumOut mi e s false (dSum mx A my ey sy m) ∧ sums_aligned.f mx ex (l0 sx) (l1 sx) (l2 sx) (l3 sx) false my ey (l0 sy) (l1 sy) (l2 sy) (l3 sy) false m = some (mi, e, l0 s, l1 s, l2 s, l3 s, false) := by
  have hyT : sy < T256 := by rw [T256_eq]; exact Nat.lt_trans hy (by decide)
  have hAT : A < T256 := by rw [T256_eq]; exact Nat.lt_trans hA2 (by decide)
  have hsum : A + sy < 2 ^ 254 := by
    have h250 : (2 : Nat) ^ 250 + 2 ^ 128 ≤ 2 ^ 254 := by decide
    omega
  have eS := wide_Shl.eq hx (ex - ey)
  rw [hA, Nat.mod_eq_of_lt hAT] at eS
  have ew : wrap64 (ex - ey) = ex - ey := by unfold wrap64; omega
  unfold sums_aligned.f dSum
  rw [ew, eS]
  simp only [Option.bind_some]
  by_cases c : mx = my
  · have eA := wide_Add.eq hAT hyT
    rw [Nat.mod_eq_of_lt (lt_T hsum)] at eA
    have c1 : (mx == my) = true := by rw [c]; simp
    rw [if_pos c1, eA, if_pos c]
    exact ⟨_, _, A + sy, numOut_self hsum (by omega) (by omega), rfl⟩
  · have eC := wide_Cmp.eq hAT hyT
    have c1 : ¬ (mx == my) = true := by simpa using c
    rw [if_neg c1, eC, if_neg c]
    simp only [Option.bind_some]
    by_cases z : A = sy
    · have : cmpI A sy = 0 := by unfold cmpI; rw [z]; simp
      rw [if_pos z, this, if_pos rfl]
      unfold sums_nought.f
      rw [if_neg (by decide)]
      refine ⟨decide (m = 4), 0, 0, ⟨by decide, by omega, by omega, fun m' => ?_⟩, ?_⟩
      · unfold rNum rRound
        rw [if_pos (by rfl), if_pos rfl]
      · simp only [Option.bind_some]
        obtain ⟨n0, n1, n2, n3⟩ := l_nil
        rw [n0, n1, n2, n3]
    · by_cases g : sy < A
      · have : cmpI A sy = 1 := by unfold cmpI; rw [if_neg (by omega), if_pos (by omega)]
        have eB := wide_Sub.eq hAT hyT
        have es : (A + T256 - sy) % T256 = A - sy := by
          rw [show A + T256 - sy = A - sy + T256 by omega, Nat.add_mod_right]
          exact Nat.mod_eq_of_lt (by omega)
        rw [es] at eB
        rw [if_neg z, if_pos g, this, if_neg (show ¬ (1 : Int) = 0 by decide), if_pos rfl, eB]
        have hl : A - sy < 2 ^ 254 := by omega
        exact ⟨_, _, A - sy, numOut_self hl (by omega) (by omega), rfl⟩
      · have : cmpI A sy = -1 := by unfold cmpI; rw [if_pos (by omega)]
        have eB := wide_Sub.eq hyT hAT
        have es : (sy + T256 - A) % T256 = sy - A := by
          rw [show sy + T256 - A = sy - A + T256 by omega, Nat.add_mod_right]
          exact Nat.mod_eq_of_lt (by omega)
        rw [es] at eB
        rw [if_neg z, if_neg g, this, if_neg (show ¬ (-1 : Int) = 0 by decide), if_neg (show ¬ (-1 : Int) = 1 by decide), eB]
        have hl : sy - A < 2 ^ 254 := by omega
        exact ⟨_, _, sy - A, numOut_self hl (by omega) (by omega), rfl⟩
theorem beside_eq {mx my : Bool} {ex ey : Int} {sx sy sh by_ : Nat} (m : Int) (hb : blen sx + by_ = 250) (hsh : ex - (by_ : Int) - ey = (sh : Int)) (hx0 : sx ≠ 0) (hx : sx < T256) (hy : sy < 2 ^ 128) (h0 : -5000 ≤ ex) (h1 : ex ≤ 5000) (g0 : -5000 ≤ ey) (g1 : ey ≤ 5000) :
    ∃ mi e s o, NumOut mi e s o (dSum mx (sx * 2 ^ (ex - ey).toNat) my ey sy m) ∧ sums_beside.f mx ex (l0 sx) (l1 sx) (l2 sx) (l3 sx) false my ey (l0 sy) (l1 sy) (l2 sy) (l3 sy) false = some (mi, e, l0 s, l1 s, l2 s, l3 s, o) := by
  have hyT : sy < T256 := by rw [T256_eq]; exact Nat.lt_trans hy (by decide)
  obtain ⟨S, hS⟩ : ∃ S, sx * 2 ^ by_ = S := ⟨_, rfl⟩
  have hbS : blen S = 250 := by rw [← hS, blen_mul_pow hx0, hb]
  have hS1 : S < 2 ^ 250 := blen_le_iff.1 (by omega)
  have hS2 : 2 ^ 249 ≤ S := by
    have := blen_le (n := S) (by intro z; rw [z, blen_zero] at hbS; omega)
    rw [hbS] at this
    exact this
  have hA : sx * 2 ^ (ex - ey).toNat = S * 2 ^ sh := by
    rw [← hS, Nat.mul_assoc, ← Nat.pow_add]
    congr 2
    omega
  have hST : S < T256 := by rw [T256_eq]; exact Nat.lt_trans hS1 (by decide)
  obtain ⟨q, hq⟩ : ∃ q, sy / 2 ^ sh = q := ⟨_, rfl⟩
  have hq2 : q < 2 ^ 128 := by rw [← hq]; exact Nat.lt_of_le_of_lt (Nat.div_le_self _ _) hy
  have hqT : q < T256 := by rw [T256_eq]; exact Nat.lt_trans hq2 (by decide)
  have k1 : (2 : Nat) ^ 250 + 2 ^ 128 ≤ 2 ^ 254 := by decide
  have k2 : (2 : Nat) ^ 54 + 2 ^ 128 + 1 ≤ 2 ^ 249 := by decide
  have eL := wide_Len.eq hx
  have w1 : wrap64 (250 - (blen sx : Int)) = (by_ : Int) := by unfold wrap64; omega
  have w2 : wrap64 (ex - (by_ : Int)) = ex - by_ := by unfold wrap64; omega
  have w3 : wrap64 (ex - (by_ : Int) - ey) = (sh : Int) := by unfold wrap64; omega
  have eR := wide_Shr.eq hyT (sh : Int)
  have eS := wide_Shl.eq hx (by_ : Int)
  rw [show ((sh : Int)).toNat = sh from rfl, hq] at eR
  rw [show ((by_ : Int)).toNat = by_ from rfl, hS, Nat.mod_eq_of_lt hST] at eS
  have he0 : -131072 ≤ ex - (by_ : Int) ∧ ex - (by_ : Int) ≤ 131072 := by omega
  have hee : ey + (sh : Int) = ex - by_ := by omega
  rw [hA]
  unfold sums_beside.f dSum
  rw [eL]
  simp only [Option.bind_some]
  rw [w1, w2, w3, eR]
  simp only [Option.bind_some]
  rw [eS]
  simp only [Option.bind_some]
  by_cases c : mx = my
  · have hl : S + q < 2 ^ 254 := by omega
    have eA := wide_Add.eq hST hqT
    rw [Nat.mod_eq_of_lt (lt_T hl)] at eA
    obtain ⟨b1, b2⟩ := beside_add (S := S) (y := sy) (sh := sh)
    rw [hq] at b1
    have c1 : (mx == my) = true := by rw [c]; simp
    rw [if_pos c1, eA, if_pos c]
    refine ⟨mx, _, S + q, _, ⟨hl, he0.1, he0.2, fun m' => ?_⟩, rfl⟩
    have h := rNum_cut my ey (S * 2 ^ sh + sy) sh m' (by rw [b1]; omega)
    rw [b1, b2, hee] at h
    rw [c]
    exact h
  · have hlt : q < S := by omega
    obtain ⟨b1, b2⟩ := beside_sub (S := S) (y := sy) (sh := sh) (by rw [hq]; exact hlt)
    rw [hq] at b1
    have hAy : sy < S * 2 ^ sh := by
      have h3 := Nat.lt_of_lt_of_le (Nat.lt_of_lt_of_le hy (show 2 ^ 128 ≤ S by omega)) (Nat.le_mul_of_pos_right S (Nat.two_pow_pos sh))
      exact h3
    have eB := wide_Sub.eq hST hqT
    have es : (S + T256 - q) % T256 = S - q := by
      rw [show S + T256 - q = S - q + T256 by omega, Nat.add_mod_right]
      exact Nat.mod_eq_of_lt (by omega)
    rw [es] at eB
    have c1 : ¬ (mx == my) = true := by simpa using c
    rw [if_neg c1, eB, if_neg c, if_neg (by omega), if_pos hAy]
    simp only [Option.bind_some]
    have key : ∀ m', rNum mx (ex - by_) (S - q - (if sy % 2 ^ sh ≠ 0 then 1 else 0)) (decide (sy % 2 ^ sh ≠ 0)) m' = rRound mx ey (S * 2 ^ sh - sy) m' := fun m' => by
      have h := rNum_cut mx ey (S * 2 ^ sh - sy) sh m' (by rw [b1]; split <;> omega)
      have e : decide ((S * 2 ^ sh - sy) % 2 ^ sh ≠ 0) = decide (sy % 2 ^ sh ≠ 0) := by rw [Bool.eq_iff_iff, decide_eq_true_iff, decide_eq_true_iff]; exact b2
      rw [b1, e, hee] at h
      exact h
    by_cases z : sy % 2 ^ sh = 0
    · rw [decide_eq_false (by omega), if_neg (by decide)]
      rw [decide_eq_false (by omega), if_neg (by omega), Nat.sub_zero] at key
      have hl : S - q < 2 ^ 254 := by omega
      exact ⟨mx, _, S - q, _, ⟨hl, he0.1, he0.2, key⟩, rfl⟩
    · rw [decide_eq_true z, if_pos rfl]
      rw [decide_eq_true z, if_pos z] at key
      have hl : S - q - 1 < 2 ^ 254 := by omega
      have hqS : S - q < T256 := by omega
      have eO := wide_Of.eq 1 (by decide)
      have eD := wide_Sub.eq hqS (show Int.toNat 1 < T256 by decide)
      have es2 : (S - q + T256 - Int.toNat 1) % T256 = S - q - 1 := by
        rw [show Int.toNat 1 = 1 from rfl, show S - q + T256 - 1 = S - q - 1 + T256 by omega, Nat.add_mod_right]
        exact Nat.mod_eq_of_lt (by omega)
      rw [es2] at eD
      rw [eO]
      simp only [Option.bind_some]
      rw [eD]
      simp only [Option.bind_some]
      exact ⟨mx, _, S - q - 1, _, ⟨hl, he0.1, he0.2, key⟩, rfl⟩
theorem join_tail {mx my : Bool} {ex ey : Int} {sx sy : Nat} (m : Int) (hle : ey ≤ ex) (hx0 : sx ≠ 0) (hx : sx < 2 ^ 128) (hy : sy < 2 ^ 128) (h0 : -5000 ≤ ex) (h1 : ex ≤ 5000) (g0 : -5000 ≤ ey) (g1 : ey ≤ 5000) :
    ∃ mi e s o, NumOut mi e s o (dSum mx (sx * 2 ^ (ex - ey).toNat) my ey sy m) ∧ (Option.bind (wide_Len.f (l0 sx) (l1 sx) (l2 sx) (l3 sx)) fun q => if wrap64 (wrap64 (q + ex) - ey) < 250 then Option.bind (sums_aligned.f mx ex (l0 sx) (l1 sx) (l2 sx) (l3 sx) false my ey (l0 sy) (l1 sy) (l2 sy) (l3 sy) false m) fun q => some (q.1, q.2.1, q.2.2.1, q.2.2.2.1, q.2.2.2.2.1, q.2.2.2.2.2.1, q.2.2.2.2.2.2) else Option.bind (sums_beside.f mx ex (l0 sx) (l1 sx) (l2 sx) (l3 sx) false my ey (l0 sy) (l1 sy) (l2 sy) (l3 sy) false) fun q => some (q.1, q.2.1, q.2.2.1, q.2.2.2.1, q.2.2.2.2.1, q.2.2.2.2.2.1, q.2.2.2.2.2.2)) = some (mi, e, l0 s, l1 s, l2 s, l3 s, o) := by
  have hxT : sx < T256 := by rw [T256_eq]; exact Nat.lt_trans hx (by decide)
  have hb : blen sx ≤ 128 := blen_le_iff.2 hx
  have eL := wide_Len.eq hxT
  have ew : wrap64 (wrap64 ((blen sx : Int) + ex) - ey) = (blen sx : Int) + ex - ey := by unfold wrap64; omega
  rw [eL, Option.bind_some, ew]
  by_cases c : (blen sx : Int) + ex - ey < 250
  · have hA2 : sx * 2 ^ (ex - ey).toNat < 2 ^ 250 := by
      refine Nat.lt_of_lt_of_le (Nat.mul_lt_mul_of_pos_right (blen_lt sx) (Nat.two_pow_pos _)) ?_
      rw [← Nat.pow_add]
      exact Nat.pow_le_pow_right (by omega) (by omega)
    obtain ⟨mi, e, s, hN, hE⟩ := aligned_eq (mx := mx) (my := my) (sx := sx) (sy := sy) m rfl hA2 hxT hy h0 h1 g0 g1
    rw [if_pos c, hE]
    exact ⟨mi, e, s, false, hN, rfl⟩
  · obtain ⟨b, hbb⟩ : ∃ b, blen sx + b = 250 := ⟨250 - blen sx, by omega⟩
    obtain ⟨sh, hsh⟩ : ∃ sh : Nat, ex - (b : Int) - ey = sh := ⟨(ex - (b : Int) - ey).toNat, by omega⟩
    obtain ⟨mi, e, s, o, hN, hE⟩ := beside_eq (mx := mx) (my := my) (sx := sx) (sy := sy) m hbb hsh hx0 hxT hy h0 h1 g0 g1
    rw [if_neg c, hE]
    exact ⟨mi, e, s, o, hN, rfl⟩
theorem join_eq {mx my : Bool} {ex ey : Int} {sx sy : Nat} (m : Int) (hx : sx < 2 ^ 128) (hy : sy < 2 ^ 128) (h0 : -5000 ≤ ex) (h1 : ex ≤ 5000) (g0 : -5000 ≤ ey) (g1 : ey ≤ 5000) :
    ∃ mi e s o, NumOut mi e s o (sSum mx ex sx my ey sy m) ∧ sums_join.f mx ex (l0 sx) (l1 sx) (l2 sx) (l3 sx) false my ey (l0 sy) (l1 sy) (l2 sy) (l3 sy) false m = some (mi, e, l0 s, l1 s, l2 s, l3 s, o) := by
  have hxT : sx < T256 := by rw [T256_eq]; exact Nat.lt_trans hx (by decide)
  have hyT : sy < T256 := by rw [T256_eq]; exact Nat.lt_trans hy (by decide)
  have nx := nil_w hxT
  have ny := nil_w hyT
  unfold sums_join.f
  by_cases zx : sx = 0
  · rw [if_pos (nx.2 zx)]
    by_cases zy : sy = 0
    · rw [if_pos (ny.2 zy)]
      unfold sums_nought.f sSum
      rw [if_pos zx, if_pos zy]
      have z0 : ∀ c : Bool, NumOut c 0 0 false (c, ex, 0) := fun c => ⟨by decide, by omega, by omega, fun m' => by unfold rNum rRound; rw [if_pos (by rfl), if_pos rfl]⟩
      obtain ⟨n0, n1, n2, n3⟩ := l_nil
      by_cases c : mx = my
      · have c1 : (mx == my) = true := by rw [c]; simp
        rw [if_pos c1, if_pos c]
        refine ⟨mx, 0, 0, false, z0 mx, ?_⟩
        rw [n0, n1, n2, n3]
        rfl
      · have c1 : ¬ (mx == my) = true := by simpa using c
        rw [if_neg c1, if_neg c]
        refine ⟨decide (m = 4), 0, 0, false, z0 _, ?_⟩
        rw [n0, n1, n2, n3]
        rfl
    · rw [if_neg (fun h => zy (ny.1 h))]
      unfold sums_join.j0 sSum
      rw [if_pos (nx.2 zx), if_pos zx, if_neg zy]
      exact ⟨_, _, sy, _, numOut_self (Nat.lt_trans hy (by decide)) (by omega) (by omega), rfl⟩
  · rw [if_neg (fun h => zx (nx.1 h))]
    unfold sums_join.j0
    rw [if_neg (fun h => zx (nx.1 h))]
    by_cases zy : sy = 0
    · rw [if_pos (ny.2 zy)]
      unfold sSum
      rw [if_neg zx, if_pos zy]
      exact ⟨_, _, sx, _, numOut_self (Nat.lt_trans hx (by decide)) (by omega) (by omega), rfl⟩
    · rw [if_neg (fun h => zy (ny.1 h))]
      unfold sSum
      rw [if_neg zx, if_neg zy]
      by_cases c : ex < ey
      · obtain ⟨mi, e, s, o, hN, hE⟩ := join_tail (mx := my) (my := mx) (ex := ey) (ey := ex) (sx := sy) (sy := sx) m (by omega) zy hy hx g0 g1 h0 h1
        have ed : dSum my (sy * 2 ^ (ey - ex).toNat) mx ex sx m = (if mx = my then (mx, ex, sy * 2 ^ (ey - ex).toNat + sx) else if sy * 2 ^ (ey - ex).toNat = sx then (decide (m = 4), ex, 0) else if sx < sy * 2 ^ (ey - ex).toNat then (my, ex, sy * 2 ^ (ey - ex).toNat - sx) else (mx, ex, sx - sy * 2 ^ (ey - ex).toNat)) := by
          unfold dSum
          by_cases g : mx = my
          · rw [if_pos g, if_pos g.symm]
          · rw [if_neg g, if_neg (fun h => g h.symm)]
        rw [if_pos c, if_neg (by omega), ← ed]
        exact ⟨mi, e, s, o, hN, hE⟩
      · obtain ⟨mi, e, s, o, hN, hE⟩ := join_tail (mx := mx) (my := my) (ex := ex) (ey := ey) (sx := sx) (sy := sy) m (by omega) zx hx hy h0 h1 g0 g1
        rw [if_neg c, if_pos (by omega)]
        exact ⟨mi, e, s, o, hN, hE⟩
def qSumR (mx : Bool) (ex : Int) (sx : Nat) (my : Bool) (ey : Int) (sy : Nat) (m : Int) : Int × Int := rRound (sSum mx ex sx my ey sy m).1 (sSum mx ex sx my ey sy m).2.1 (sSum mx ex sx my ey sy m).2.2 m
def qAdd (a b m : Int) : Int × Int := if 3 < pC a ∨ 3 < pC b then qNone a b else if pC a = 3 ∧ pC b = 3 ∧ a ≠ b then (9221120237041090560, 1) else if pC a = 3 then (a, 0) else if pC b = 3 then (b, 0) else qSumR (pM a) (pX a) (pS a).toNat (pM b) (pX b) (pS b).toNat m
def qFma (a b c m : Int) : Int × Int :=
  if bad a b = true then (9221120237041090560, 1)
  else if 3 < pC a ∨ 3 < pC b ∨ 3 < pC c then (9221120237041090560, if pC a = 5 ∨ pC b = 5 ∨ pC c = 5 then 1 else 0)
  else if pC a = 3 ∨ pC b = 3 then (if pC c = 3 ∧ c ≠ 9218868437227405312 + sg (qMi a b) then (9221120237041090560, 1) else (9218868437227405312 + sg (qMi a b), 0))
  else if pC c = 3 then (c, 0)
  else qSumR (qMi a b) (pX a + pX b) ((pS a).toNat * (pS b).toNat) (pM c) (pX c) (pS c).toNat m
theorem pS_128 (a : Int) : (pS a).toNat < 2 ^ 128 := by
  have := pS_bd a
  exact Nat.lt_trans (show (pS a).toNat < 2 ^ 53 by rw [show (2 : Nat) ^ 53 = 9007199254740992 from rfl]; omega) (by decide)
theorem round_out {mi : Bool} {e : Int} {s : Nat} {o : Bool} {t : Bool × Int × Nat} (h : NumOut mi e s o t) (m : Int) : rnd_Round.f mi e (l0 s) (l1 s) (l2 s) (l3 s) o m = some (rRound t.1 t.2.1 t.2.2 m) := by
  obtain ⟨h1, h2, h3, h4⟩ := h
  rw [rnd_Round.eq (lt_T h1) mi e o m h1 h2 h3, ← h4 m]
  rfl
theorem snone_eq {a b : Int} (ha : U a) (hb : U b) : sums_none.f a b = some (qNone a b) := by
  unfold sums_none.f qNone
  rw [pat_Class.eq a (inU_of ha), Option.bind_some]
  by_cases h : pC a = 5
  · rw [if_pos h, if_pos (.inl h)]
  · rw [if_neg h, pat_Class.eq b (inU_of hb), Option.bind_some]
    by_cases g : pC b = 5
    · rw [if_pos g, if_pos (.inr g)]
    · rw [if_neg g, if_neg (fun z => z.elim h g)]
theorem loud3_eq {a b c : Int} (ha : U a) (hb : U b) (hc : U c) : prod_loud3.f a b c = some (if pC a = 5 ∨ pC b = 5 ∨ pC c = 5 then 1 else 0) := by
  unfold prod_loud3.f
  rw [pat_Class.eq a (inU_of ha), Option.bind_some]
  by_cases h : pC a = 5
  · rw [if_pos h, if_pos (.inl h)]
  · rw [if_neg h, pat_Class.eq b (inU_of hb), Option.bind_some]
    by_cases g : pC b = 5
    · rw [if_pos g, if_pos (.inr (.inl g))]
    · rw [if_neg g, pat_Class.eq c (inU_of hc), Option.bind_some]
      by_cases z : pC c = 5
      · rw [if_pos z, if_pos (.inr (.inr z))]
      · rw [if_neg z, if_neg (by rintro (q | q | q) <;> contradiction)]
theorem add_spec {a b : Int} (m : Int) (ha : U a) (hb : U b) : sums_Add.f a b m = some (qAdd a b m) := by
  have ca := pC_bd a
  have cb := pC_bd b
  have nanj : 3 < pC a ∨ 3 < pC b → sums_Add.j1 a b = some (qAdd a b m) := fun h => by
    unfold sums_Add.j1 qAdd
    rw [snone_eq ha hb, if_pos h]
    rfl
  unfold sums_Add.f
  rw [pat_IsNaN.eq a (inU_of ha), Option.bind_some]
  by_cases n1 : 3 < pC a
  · rw [decide_eq_true n1, if_pos rfl]
    exact nanj (.inl n1)
  · rw [decide_eq_false n1, if_neg (by decide), pat_IsNaN.eq b (inU_of hb), Option.bind_some]
    by_cases n2 : 3 < pC b
    · rw [decide_eq_true n2, if_pos rfl]
      exact nanj (.inr n2)
    · have tail : ¬ (pC a = 3 ∧ pC b = 3 ∧ a ≠ b) → sums_Add.j0 a b m = some (qAdd a b m) := fun hq => by
        unfold sums_Add.j0 qAdd
        rw [if_neg (fun h => h.elim n1 n2), if_neg hq, pat_Class.eq a (inU_of ha), Option.bind_some]
        by_cases i1 : pC a = 3
        · rw [if_pos i1, if_pos i1]
        · rw [if_neg i1, if_neg i1, pat_Class.eq b (inU_of hb), Option.bind_some]
          by_cases i2 : pC b = 3
          · rw [if_pos i2, if_pos i2]
          · have xa := pX_bd a
            have xb := pX_bd b
            obtain ⟨mi, e, s, o, hN, hE⟩ := join_eq (mx := pM a) (my := pM b) (ex := pX a) (ey := pX b) (sx := (pS a).toNat) (sy := (pS b).toNat) m (pS_128 a) (pS_128 b) (by omega) (by omega) (by omega) (by omega)
            rw [if_neg i2, if_neg i2, rnd_Of.eq a (inU_of ha), if_pos (by omega), Option.bind_some, rnd_Of.eq b (inU_of hb), if_pos (by omega), Option.bind_some]
            dsimp only
            rw [if_neg (fun h => h rfl), if_neg (fun h => h rfl), hE, Option.bind_some]
            dsimp only
            rw [round_out hN]
            rfl
      rw [decide_eq_false n2, if_neg (by decide), pat_Class.eq a (inU_of ha), Option.bind_some]
      by_cases i1 : pC a = 3
      · rw [if_pos i1, pat_Class.eq b (inU_of hb), Option.bind_some]
        by_cases i2 : pC b = 3
        · rw [if_pos i2]
          by_cases e : a = b
          · rw [if_neg (fun h => h e)]
            exact tail (fun h => h.2.2 e)
          · rw [if_pos e]
            unfold qAdd
            rw [if_neg (fun h => h.elim n1 n2), if_pos ⟨i1, i2, e⟩]
        · rw [if_neg i2]
          exact tail (fun h => i2 h.2.1)
      · rw [if_neg i1]
        exact tail (fun h => i1 h.1)
theorem right_eq {mi : Bool} {e : Int} {s : Nat} (hs : s < 2 ^ 128) (h0 : -5000 ≤ e) (h1 : e ≤ 5000) : sums_right.f mi e (l0 s) (l1 s) (l2 s) (l3 s) false = some true := by
  have hT : s < T256 := by rw [T256_eq]; exact Nat.lt_trans hs (by decide)
  have hb : blen s ≤ 128 := blen_le_iff.2 hs
  unfold sums_right.f
  rw [wide_Len.eq hT, Option.bind_some, if_pos (by omega), if_pos (by decide), if_pos (by omega), decide_eq_true (by omega)]
theorem inf_words (b : Bool) : pC (9218868437227405312 + sg b) = 3 ∧ U (9218868437227405312 + sg b) := by
  refine ⟨?_, sgU (by omega) (by omega) b⟩
  rw [(C_same (sgAA 9218868437227405312 b)).1]
  decide
theorem fma_spec {a b c : Int} (m : Int) (ha : U a) (hb : U b) (hc : U c) : prod_Fma.f a b c m = some (qFma a b c m) := by
  have ca := pC_bd a
  have cb := pC_bd b
  have cc := pC_bd c
  have nanj : prod_Fma.j0 a b c = some (9221120237041090560, if pC a = 5 ∨ pC b = 5 ∨ pC c = 5 then 1 else 0) := by
    unfold prod_Fma.j0
    rw [loud3_eq ha hb hc]
    rfl
  unfold prod_Fma.f qFma
  rw [psign_eq ha hb, Option.bind_some, nothing_eq ha hb, Option.bind_some]
  by_cases hbad : bad a b = true
  · rw [if_pos hbad, if_pos hbad]
  · rw [if_neg hbad, if_neg hbad, bor_inf]
    rw [pat_IsNaN.eq a (inU_of ha), Option.bind_some]
    by_cases n1 : 3 < pC a
    · rw [decide_eq_true n1, if_pos rfl, if_pos (.inl n1)]
      exact nanj
    · rw [decide_eq_false n1, if_neg (by decide), pat_IsNaN.eq b (inU_of hb), Option.bind_some]
      by_cases n2 : 3 < pC b
      · rw [decide_eq_true n2, if_pos rfl, if_pos (.inr (.inl n2))]
        exact nanj
      · rw [decide_eq_false n2, if_neg (by decide), pat_IsNaN.eq c (inU_of hc), Option.bind_some]
        by_cases n3 : 3 < pC c
        · rw [decide_eq_true n3, if_pos rfl, if_pos (.inr (.inr n3))]
          exact nanj
        · rw [decide_eq_false n3, if_neg (by decide), if_neg (show ¬ (3 < pC a ∨ 3 < pC b ∨ 3 < pC c) by omega)]
          rw [pat_Finite.eq a (inU_of ha), Option.bind_some]
          obtain ⟨ic, iu⟩ := inf_words (qMi a b)
          have infj : pC a = 3 ∨ pC b = 3 → (Option.bind (sums_Add.f (9218868437227405312 + sg (qMi a b)) c m) fun q => some (q.1, q.2)) = some (if pC c = 3 ∧ c ≠ 9218868437227405312 + sg (qMi a b) then (9221120237041090560, 1) else (9218868437227405312 + sg (qMi a b), 0)) := fun h => by
            rw [add_spec m iu hc, Option.bind_some]
            unfold qAdd
            rw [ic, if_neg (by omega)]
            by_cases g : pC c = 3 ∧ c ≠ 9218868437227405312 + sg (qMi a b)
            · rw [if_pos ⟨rfl, g.1, fun z => g.2 z.symm⟩, if_pos g]
            · rw [if_neg (fun z => g ⟨z.2.1, fun y => z.2.2 y.symm⟩), if_neg g, if_pos rfl]
          by_cases i1 : pC a = 3
          · rw [decide_eq_false (by omega), if_neg (by decide), if_pos (.inl i1)]
            exact infj (.inl i1)
          · rw [decide_eq_true (by omega), if_pos rfl, pat_Finite.eq b (inU_of hb), Option.bind_some]
            by_cases i2 : pC b = 3
            · rw [decide_eq_false (by omega), if_neg (by decide), if_pos (.inr i2)]
              exact infj (.inr i2)
            · rw [decide_eq_true (by omega), if_pos rfl, if_neg (show ¬ (pC a = 3 ∨ pC b = 3) by omega)]
              rw [pat_Finite.eq c (inU_of hc), Option.bind_some]
              by_cases i3 : pC c = 3
              · rw [decide_eq_false (by omega), if_neg (by decide), if_pos i3]
              · have xa := pX_bd a
                have xb := pX_bd b
                have xc := pX_bd c
                have hl : (pS a).toNat * (pS b).toNat < 2 ^ 128 := Nat.lt_trans (prod_lt a b) (by decide)
                obtain ⟨mi, e, s, o, hN, hE⟩ := join_eq (mx := qMi a b) (my := pM c) (ex := pX a + pX b) (ey := pX c) (sx := (pS a).toNat * (pS b).toNat) (sy := (pS c).toNat) m hl (pS_128 c) (by omega) (by omega) (by omega) (by omega)
                rw [decide_eq_true (by omega), if_pos rfl, if_neg i3, rnd_Of.eq c (inU_of hc), if_pos (by omega), Option.bind_some]
                dsimp only
                rw [if_neg (fun h => h rfl), pexact_eq ha hb, Option.bind_some]
                dsimp only
                unfold sums_Exact.f
                rw [right_eq hl (by omega) (by omega), Option.bind_some, if_pos rfl, right_eq (pS_128 c) (by omega) (by omega), Option.bind_some, if_pos rfl, hE, Option.bind_some, Option.bind_some]
                dsimp only
                rw [if_neg (fun h => h rfl), round_out hN]
                rfl
end Go.Proofs.Ythcgeekibomhiaa
end
section
namespace Go.Proofs.Ythcgeekibomhiaa
set_option linter.unusedVariables false
set_option linter.unusedSimpArgs false
open Go.RowKit X D Go.Proofs.YthcgeekibomhiaaW.PrintWords
theorem round_U (mi : Bool) (x : Int) (s : Nat) (m : Int) : U (rRound mi x s m).1 := by
  obtain ⟨A, f, h0, h1, e, _⟩ := round_sw mi x s m
  rw [e]
  exact sgU h0 (by omega) _
theorem nan_U : U 9221120237041090560 := by unfold U; omega
theorem qNone_nan (a b : Int) : (qNone a b).1 = 9221120237041090560 := by unfold qNone; rfl
theorem qMul_U (a b m : Int) : U (qMul a b m).1 := by
  unfold qMul
  split
  · rw [qNone_nan]; exact nan_U
  · split
    · exact nan_U
    · split
      · exact sgU (by omega) (by omega) _
      · exact round_U _ _ _ _
def por (a b : Int) : Int := bits .or .u8 a b
def cMul (a b c d : Int) : Int × Int × Int :=
  ((qFma a c (pN (qMul b d 0).1) 0).1, (qFma a d (qMul b c 0).1 0).1,
    por (por (por (qMul b d 0).2 (qFma a c (pN (qMul b d 0).1) 0).2) (qMul b c 0).2) (qFma a d (qMul b c 0).1 0).2)
theorem cmul_spec {a b c d : Int} (ha : U a) (hb : U b) (hc : U c) (hd : U d) : cplx_Mul.f a b c d = some (cMul a b c d) := by
  have h1 := qMul_U b d 0
  unfold cplx_Mul.f
  rw [mul_spec 0 hb hd, Option.bind_some, pat_Neg.eq _ (inU_of h1), Option.bind_some, fma_spec 0 ha hc (U_N _ h1), Option.bind_some, mul_spec 0 hb hc, Option.bind_some, fma_spec 0 ha hd (qMul_U b c 0), Option.bind_some]
  rfl
theorem rneg_eq {a : Int} (ha : U a) : ref03_Neg.f a = some (pN a) := by
  unfold ref03_Neg.f pN
  unfold U at ha
  split
  · rw [if_neg (by omega)]; congr 1; omega
  · rw [if_pos (by omega)]; congr 1; omega
theorem csure : l17_sure.f = some true := by
  unfold l17_sure.f
  have h1 : U 4607182418800017408 := by unfold U; omega
  rw [cmul_spec h1 h1 h1 h1]
  decide +kernel
end Go.Proofs.Ythcgeekibomhiaa
end
section
namespace Go.Proofs.Ythcgeekibomhiaa
set_option linter.unusedVariables false
set_option linter.unusedSimpArgs false
open Go.RowKit X Go.Proofs.YthcgeekibomhiaaW.PrintWords
theorem at_nat {l : List Int} (h : nok l) (i : Nat) : r2_at.f l (i : Int) = some ((nv l / 65536 ^ i % 65536 : Nat) : Int) := by
  unfold r2_at.f
  rw [if_pos (by omega)]
  by_cases hi : (i : Int) < (l.length : Int)
  · rw [if_pos hi, if_pos (by omega), rd_nv h]
  · rw [if_neg hi]
    have h1 := nv_lt h
    have h2 : 65536 ^ l.length ≤ 65536 ^ i := Nat.pow_le_pow_right (by omega) (by omega)
    rw [Nat.div_eq_of_lt (by omega)]
    rfl
theorem at_ln (n i : Nat) : r2_at.f (ln n) (i : Int) = some ((n / 65536 ^ i % 65536 : Nat) : Int) := by rw [at_nat (nok_ln n), nv_ln]
theorem at_neg (l : List Int) {i : Int} (h : i < 0) : r2_at.f l i = some 0 := by unfold r2_at.f; rw [if_neg (by omega)]
theorem trim_loop {l : List Int} (h : nok l) (hl : l.length < 4000000000000000000) : ∀ m : Nat, m ≤ l.length → nv (l.drop m) = 0 → Ev (fun k => r2_trim.l0 k l (m : Int)) (ln (nv l)) := by
  intro m
  induction m with
  | zero =>
    intro _ h0
    refine Ev.step (f := fun _ => some (ln (nv l))) (fun k => ?_) (Ev.now _)
    simp only [r2_trim.l0]
    rw [if_neg (by omega), if_pos (by omega), if_pos (by omega)]
    rw [List.drop_zero] at h0
    rw [h0, ln_zero]
    rfl
  | succ m ih =>
    intro hm h0
    have hm' : m < l.length := by omega
    have e1 : wrap64 (((m + 1 : Nat) : Int) - 1) = (m : Int) := by unfold wrap64; omega
    have e2 : rd l (m : Int) = l[m] := by unfold rd; rw [Int.toNat_natCast]; simp [hm']
    have hd := h l[m] (List.getElem_mem hm')
    by_cases z : l[m] = 0
    · refine Ev.step (f := fun k => r2_trim.l0 k l (m : Int)) (fun k => ?_) (ih (by omega) ?_)
      · simp only [r2_trim.l0]
        rw [if_pos (by omega), e1, if_pos (by omega), if_pos (by omega), e2, if_pos z]
      · rw [List.drop_eq_getElem_cons hm']
        show l[m].toNat + 65536 * nv (l.drop (m + 1)) = 0
        rw [h0, z]
        rfl
    · refine Ev.step (f := fun _ => some (ln (nv l))) (fun k => ?_) (Ev.now _)
      simp only [r2_trim.l0]
      rw [if_pos (by omega), e1, if_pos (by omega), if_pos (by omega), e2, if_neg z, if_pos (by omega), if_pos (by omega)]
      have e3 : nv l = nv (l.take (m + 1)) := by
        conv => lhs; rw [← List.take_append_drop (m + 1) l]
        rw [nv_append, h0, Nat.mul_zero, Nat.add_zero]
      have e4 := List.take_succ_eq_append_getElem hm'
      rw [e3, Int.toNat_natCast]
      refine congrArg some (canon (fun d hd => h d (List.mem_of_mem_take hd)) (.inr ⟨_, _, e4, z⟩))
theorem trim_ev {l : List Int} (h : nok l) (hl : l.length < 4000000000000000000) : Ev (fun k => r2_trim.f k l) (ln (nv l)) :=
  Ev.congr (fun k => rfl) (trim_loop h hl l.length (Nat.le_refl _) (by rw [List.drop_length]; rfl))
theorem trim_to {l : List Int} {n : Nat} (h : nok l) (hl : l.length < 4000000000000000000) (hn : nv l = n) : Ev (fun k => (r2_trim.f k l).bind fun t => some t) (ln n) := by
  subst hn
  exact Ev.bind (trim_ev h hl) (Ev.now _)
theorem of_ev {n : Int} (h : U n) : Ev (fun k => r2_Of.f k n) (ln n.toNat) := by
  unfold U at h
  have w : ∀ z : Int, 0 ≤ z → z ≤ 18446744073709551615 → IntKind.u64.wrap z = z := fun z h0 h1 => by rw [IntKind.wrap_u64]; omega
  refine Ev.congr (fun k => rfl) ?_
  have e : ([(Int.tmod n 65536) % 4294967296, (Int.tmod (IntKind.u64.wrap (Int.tdiv n 65536)) 65536) % 4294967296, (Int.tmod (IntKind.u64.wrap (Int.tdiv n 4294967296)) 65536) % 4294967296, (IntKind.u64.wrap (Int.tdiv n 281474976710656)) % 4294967296] : List Int) = [n % 65536, n / 65536 % 65536, n / 4294967296 % 65536, n / 281474976710656] := by
    rw [Int.tdiv_eq_ediv_of_nonneg h.1, Int.tdiv_eq_ediv_of_nonneg h.1, Int.tdiv_eq_ediv_of_nonneg h.1, w _ (by omega) (by omega), w _ (by omega) (by omega), w _ (by omega) (by omega), Int.tmod_eq_emod_of_nonneg h.1, Int.tmod_eq_emod_of_nonneg (by omega), Int.tmod_eq_emod_of_nonneg (by omega)]
    congr 1
    · omega
    · congr 1
      · omega
      · congr 1
        · omega
        · congr 1
          omega
  have := trim_to (l := [n % 65536, n / 65536 % 65536, n / 4294967296 % 65536, n / 281474976710656]) (n := n.toNat)
    (nok_cons (by omega) (by omega) (nok_cons (by omega) (by omega) (nok_cons (by omega) (by omega) (nok_one (by omega) (by omega))))) (by simp) (by simp only [nv]; omega)
  rw [← e] at this
  exact this
section
variable {x y B : Nat}
theorem len_pos {i : Nat} (h : 65536 ^ i ≤ x) : (i : Int) < ((ln x).length : Int) := by have := ln_lt_iff.2 h; omega
theorem len_neg {i : Nat} (h : ¬ 65536 ^ i ≤ x) : ¬ (i : Int) < ((ln x).length : Int) := by have := mt ln_lt_iff.1 h; omega
theorem pw_step (i s a : Nat) : 65536 ^ i * s + 65536 ^ (i + 1) * a = 65536 ^ i * (s + 65536 * a) := by rw [Nat.mul_add, Nat.pow_succ, Nat.mul_assoc]
theorem add_loop (hB : B ≤ 1000000) (hx : x < 65536 ^ B) (hy : y < 65536 ^ B) : ∀ (d i c : Nat) (out : List Int), i + d = B + 1 → nok out → out.length = i → c ≤ 1 →
    nv out + 65536 ^ i * (c + x / 65536 ^ i + y / 65536 ^ i) = x + y → Ev (fun k => r2_Add.l0 k (ln x) (ln y) out (c : Int) (i : Int)) (ln (x + y)) := by
  intro d
  induction d with
  | zero =>
    intro i c out hi hok hlen hc hv
    have hP : 65536 ^ i = 65536 ^ B * 65536 := by rw [show i = B + 1 by omega, Nat.pow_succ]
    have h1 : ¬ 65536 ^ i ≤ x := by omega
    have h2 : ¬ 65536 ^ i ≤ y := by omega
    rw [div_zero_of h1, div_zero_of h2] at hv
    simp only [Nat.add_zero] at hv
    have hc0 : c = 0 := by
      rcases Nat.lt_or_ge 0 c with g | g
      · have : 65536 ^ i * 1 ≤ 65536 ^ i * c := Nat.mul_le_mul_left _ g
        omega
      · omega
    subst hc0
    refine Ev.step (f := fun k => r2_Add.j1 k (ln x) (ln y) out ((0 : Nat) : Int) (i : Int) false) (fun k => ?_) (Ev.step (f := fun k => (r2_trim.f k out).bind fun t => some t) (fun k => ?_) (trim_to hok (by omega) (by omega)))
    · simp only [r2_Add.l0]
      rw [if_neg (len_neg h1), if_neg (len_neg h2)]
      rfl
    · simp only [r2_Add.j1]
      rw [if_neg (by decide)]
  | succ d ih =>
    intro i c out hi hok hlen hc hv
    by_cases ct : 65536 ^ i ≤ x ∨ 65536 ^ i ≤ y ∨ 0 < c
    · refine Ev.step (f := fun k => r2_Add.j1 k (ln x) (ln y) out (c : Int) (i : Int) true) (fun k => ?_) (Ev.step (f := fun k => r2_Add.l0 k (ln x) (ln y) (out ++ [(((c + x / 65536 ^ i % 65536 + y / 65536 ^ i % 65536) % 65536 : Nat) : Int)]) (((c + x / 65536 ^ i % 65536 + y / 65536 ^ i % 65536) / 65536 : Nat) : Int) ((i + 1 : Nat) : Int)) (fun k => ?_) (ih _ _ _ (by omega) (nok_append hok (nok_one (by omega) (by omega))) (by simp [hlen]) (by omega) ?_))
      · simp only [r2_Add.l0]
        by_cases h1 : 65536 ^ i ≤ x
        · rw [if_pos (len_pos h1)]
        · rw [if_neg (len_neg h1)]
          by_cases h2 : 65536 ^ i ≤ y
          · rw [if_pos (len_pos h2)]
          · rw [if_neg (len_neg h2), decide_eq_true (by omega)]
      · simp only [r2_Add.j1]
        rw [if_pos trivial, at_ln, at_ln]
        simp only [Option.bind_some]
        have eD : ((c : Int) + ((x / 65536 ^ i % 65536 : Nat) : Int) + ((y / 65536 ^ i % 65536 : Nat) : Int)) % 65536 = (((c + x / 65536 ^ i % 65536 + y / 65536 ^ i % 65536) % 65536 : Nat) : Int) := by omega
        have eC : (((c : Int) + ((x / 65536 ^ i % 65536 : Nat) : Int) + ((y / 65536 ^ i % 65536 : Nat) : Int)) % 4294967296) / 65536 = (((c + x / 65536 ^ i % 65536 + y / 65536 ^ i % 65536) / 65536 : Nat) : Int) := by omega
        rw [if_pos (by omega), w1 (by omega), eD, eC]
      · have hx' := div_step x i
        have hy' := div_step y i
        rw [nv_append, hlen, nv_one, Int.toNat_natCast, Nat.add_assoc, pw_step, ← hv]
        congr 2
        omega
    · have h1 : ¬ 65536 ^ i ≤ x := fun h => ct (.inl h)
      have h2 : ¬ 65536 ^ i ≤ y := fun h => ct (.inr (.inl h))
      have h3 : c = 0 := by have : ¬ 0 < c := fun h => ct (.inr (.inr h)); omega
      subst h3
      rw [div_zero_of h1, div_zero_of h2] at hv
      simp only [Nat.add_zero, Nat.mul_zero] at hv
      refine Ev.step (f := fun k => r2_Add.j1 k (ln x) (ln y) out ((0 : Nat) : Int) (i : Int) false) (fun k => ?_) (Ev.step (f := fun k => (r2_trim.f k out).bind fun t => some t) (fun k => ?_) (trim_to hok (by omega) hv))
      · simp only [r2_Add.l0]
        rw [if_neg (len_neg h1), if_neg (len_neg h2)]
        rfl
      · simp only [r2_Add.j1]
        rw [if_neg (by decide)]
theorem add_ev (hB : B ≤ 1000000) (hx : x < 65536 ^ B) (hy : y < 65536 ^ B) : Ev (fun k => r2_Add.f k (ln x) (ln y)) (ln (x + y)) :=
  Ev.congr (fun k => rfl) (add_loop hB hx hy (B + 1) 0 0 [] (by omega) nok_nil rfl (by omega) (by simp [nv]))
theorem sub_loop (hB : B ≤ 1000000) (hx : x < 65536 ^ B) (hy : y ≤ x) : ∀ (d i c : Nat) (out : List Int), i + d = B + 1 → nok out → out.length = i → c ≤ 1 →
    nv out + 65536 ^ i * (x / 65536 ^ i) + y = x + 65536 ^ i * (y / 65536 ^ i + c) → Ev (fun k => r2_Sub.l0 k (ln x) (ln y) out (c : Int) (i : Int)) (ln (x - y)) := by
  have fin : ∀ (i c : Nat) (out : List Int), i ≤ B + 1 → nok out → out.length = i → nv out + 65536 ^ i * (x / 65536 ^ i) + y = x + 65536 ^ i * (y / 65536 ^ i + c) → ¬ 65536 ^ i ≤ x → Ev (fun k => r2_Sub.l0 k (ln x) (ln y) out (c : Int) (i : Int)) (ln (x - y)) := by
    intro i c out hi hok hlen hv h1
    have h2 : ¬ 65536 ^ i ≤ y := by omega
    have h3 := nv_lt hok
    rw [hlen] at h3
    rw [div_zero_of h1, div_zero_of h2] at hv
    simp only [Nat.add_zero, Nat.mul_zero, Nat.zero_add] at hv
    have hc0 : c = 0 := by
      rcases Nat.lt_or_ge 0 c with g | g
      · have : 65536 ^ i * 1 ≤ 65536 ^ i * c := Nat.mul_le_mul_left _ g
        omega
      · omega
    subst hc0
    refine Ev.step (f := fun k => (r2_trim.f k out).bind fun t => some t) (fun k => ?_) (trim_to hok (by omega) (by omega))
    simp only [r2_Sub.l0]
    rw [if_neg (len_neg h1)]
  intro d
  induction d with
  | zero =>
    intro i c out hi hok hlen hc hv
    have hP : 65536 ^ i = 65536 ^ B * 65536 := by rw [show i = B + 1 by omega, Nat.pow_succ]
    exact fin i c out (by omega) hok hlen hv (by omega)
  | succ d ih =>
    intro i c out hi hok hlen hc hv
    by_cases h1 : 65536 ^ i ≤ x
    · have hx' := div_step x i
      have hy' := div_step y i
      generalize hX : x / 65536 ^ (i + 1) = X at *
      generalize hY : y / 65536 ^ (i + 1) = Y at *
      generalize hdx : x / 65536 ^ i % 65536 = dx at *
      generalize hdy : y / 65536 ^ i % 65536 = dy at *
      have bx : dx < 65536 := by omega
      have byy : dy < 65536 := by omega
      refine Ev.step (f := fun k => r2_Sub.l0 k (ln x) (ln y) (out ++ [(((65536 + dx - dy - c) % 65536 : Nat) : Int)]) ((1 - (65536 + dx - dy - c) / 65536 : Nat) : Int) ((i + 1 : Nat) : Int)) (fun k => ?_) (ih _ _ _ (by omega) (nok_append hok (nok_one (by omega) (by omega))) (by simp [hlen]) (by omega) ?_)
      · simp only [r2_Sub.l0]
        rw [if_pos (len_pos h1), at_ln, at_ln]
        simp only [Option.bind_some]
        have eD : (65536 + (dx : Int) - (dy : Int) - (c : Int)) % 65536 = (((65536 + dx - dy - c) % 65536 : Nat) : Int) := by omega
        have eC : (1 - (((65536 + (dx : Int) - (dy : Int) - (c : Int)) % 4294967296) / 65536)) % 4294967296 = ((1 - (65536 + dx - dy - c) / 65536 : Nat) : Int) := by omega
        rw [if_pos (by omega), w1 (by omega), hdx, hdy, eD, eC]
      · rw [nv_append, hlen, nv_one, Int.toNat_natCast, hX, hY]
        rw [hx', hy'] at hv
        have key : (65536 + dx - dy - c) % 65536 + dy + c = dx + 65536 * (1 - (65536 + dx - dy - c) / 65536) := by omega
        generalize (65536 + dx - dy - c) % 65536 = s at *
        generalize 1 - (65536 + dx - dy - c) / 65536 = c' at *
        have key2 := congrArg (65536 ^ i * ·) key
        simp only [Nat.mul_add, Nat.pow_succ, Nat.mul_assoc] at *
        omega
    · exact fin i c out (by omega) hok hlen hv h1
theorem sub_ev (hB : B ≤ 1000000) (hx : x < 65536 ^ B) (hy : y ≤ x) : Ev (fun k => r2_Sub.f k (ln x) (ln y)) (ln (x - y)) :=
  Ev.congr (fun k => rfl) (sub_loop hB hx hy (B + 1) 0 0 [] (by omega) nok_nil rfl (by omega) (by simp [nv]))
theorem cmp_loop (x y : Nat) : ∀ m : Nat, m < 4000000000000000000 → x / 65536 ^ m = y / 65536 ^ m → Ev (fun k => r2_Cmp.l0 k (ln x) (ln y) ((m : Int) - 1)) (cmpI x y) := by
  intro m
  induction m with
  | zero =>
    intro _ h
    rw [Nat.pow_zero, Nat.div_one, Nat.div_one] at h
    subst h
    refine Ev.step (f := fun _ => some (cmpI x x)) (fun k => ?_) (Ev.now _)
    simp only [r2_Cmp.l0]
    rw [if_neg (by omega)]
    unfold cmpI
    rw [if_neg (by omega), if_neg (by omega)]
  | succ m ih =>
    intro hm h
    have hx' := div_step x m
    have hy' := div_step y m
    rw [h] at hx'
    have e : ((m + 1 : Nat) : Int) - 1 = (m : Int) := by omega
    rw [e]
    have lt_of : ∀ {a b : Nat}, a / 65536 ^ m < b / 65536 ^ m → a < b := fun {a b} h => by
      rcases Nat.lt_or_ge a b with g | g
      · exact g
      · have := Nat.div_le_div_right (c := 65536 ^ m) g; omega
    by_cases c1 : x / 65536 ^ m % 65536 < y / 65536 ^ m % 65536
    · refine Ev.step (f := fun _ => some (cmpI x y)) (fun k => ?_) (Ev.now _)
      simp only [r2_Cmp.l0]
      rw [if_pos (by omega), at_ln, at_ln]
      simp only [Option.bind_some]
      rw [if_pos (by omega)]
      unfold cmpI
      rw [if_pos (lt_of (by omega))]
    · by_cases c2 : y / 65536 ^ m % 65536 < x / 65536 ^ m % 65536
      · refine Ev.step (f := fun _ => some (cmpI x y)) (fun k => ?_) (Ev.now _)
        simp only [r2_Cmp.l0]
        rw [if_pos (by omega), at_ln, at_ln]
        simp only [Option.bind_some]
        rw [if_neg (by omega), if_pos (by omega)]
        have : y < x := lt_of (by omega)
        unfold cmpI
        rw [if_neg (by omega), if_pos this]
      · refine Ev.step (f := fun k => r2_Cmp.l0 k (ln x) (ln y) ((m : Int) - 1)) (fun k => ?_) (ih (by omega) (by omega))
        simp only [r2_Cmp.l0]
        rw [if_pos (by omega), at_ln, at_ln]
        simp only [Option.bind_some]
        rw [if_neg (by omega), if_neg (by omega)]
        congr 1
        unfold wrap64
        omega
theorem cmp_ev (hB : B ≤ 1000000) (hx : x < 65536 ^ B) (hy : y < 65536 ^ B) : Ev (fun k => r2_Cmp.f k (ln x) (ln y)) (cmpI x y) := by
  have lx := ln_length hx
  have ly := ln_length hy
  have zx : x / 65536 ^ (ln x).length = 0 := div_zero_of (mt ln_lt_iff.2 (by omega))
  have zy : y / 65536 ^ (ln y).length = 0 := div_zero_of (mt ln_lt_iff.2 (by omega))
  have up : ∀ {n i j : Nat}, i ≤ j → n / 65536 ^ i = 0 → n / 65536 ^ j = 0 := fun {n i j} h z => by
    have h1 := Nat.pow_le_pow_right (n := 65536) (by omega) h
    have h2 := p16 i
    rw [Nat.div_eq_zero_iff] at z ⊢
    omega
  by_cases h : (ln x).length < (ln y).length
  · refine Ev.congr (f := fun k => r2_Cmp.l0 k (ln x) (ln y) (((ln y).length : Int) - 1)) (fun k => ?_) (cmp_loop x y _ (by omega) (by rw [zy, up (Nat.le_of_lt h) zx]))
    unfold r2_Cmp.f
    rw [if_pos (by omega)]
    congr 1
    unfold wrap64
    omega
  · refine Ev.congr (f := fun k => r2_Cmp.l0 k (ln x) (ln y) (((ln x).length : Int) - 1)) (fun k => ?_) (cmp_loop x y _ (by omega) (by rw [zx, up (by omega) zy]))
    unfold r2_Cmp.f
    rw [if_neg (by omega)]
    congr 1
    unfold wrap64
    omega
theorem blen_half {t : Nat} (h : t ≠ 0) : blen t = blen (t / 2) + 1 := by
  by_cases h1 : t / 2 = 0
  · have : t = 1 := by omega
    subst this; decide
  · have g1 := blen_le h1
    have g2 := blen_lt (t / 2)
    have g3 := blen_pos h1
    refine blen_eq ?_ ?_
    · rw [show blen (t / 2) = (blen (t / 2) - 1) + 1 by omega, Nat.pow_succ]; omega
    · rw [Nat.pow_succ]; omega
theorem len_loop : ∀ (t n : Nat), t < 4294967296 → n < 4000000000000000000 - blen t → Ev (fun k => r2_Len.l0 k (n : Int) (t : Int)) ((n + blen t : Nat) : Int) := by
  intro t
  induction t using Nat.strongRecOn with
  | _ t ih =>
    intro n ht hn
    by_cases h : t = 0
    · subst h
      refine Ev.step (f := fun _ => some _) (fun k => ?_) (Ev.now _)
      simp only [r2_Len.l0]
      rw [if_neg (by omega)]
      rfl
    · have hb := blen_half h
      have := ih (t / 2) (by omega) (n + 1) (by omega) (by omega)
      rw [show n + 1 + blen (t / 2) = n + blen t by omega] at this
      refine Ev.step (f := fun k => r2_Len.l0 k ((n + 1 : Nat) : Int) ((t / 2 : Nat) : Int)) (fun k => ?_) this
      simp only [r2_Len.l0]
      rw [if_pos (by omega), w1 (by omega), Int.tdiv_eq_ediv_of_nonneg (by omega)]
      congr 1
      omega
theorem blen_parts {L : Nat} (h1 : 65536 ^ L ≤ x) (h2 : x / 65536 ^ L < 65536) : blen x = 16 * L + blen (x / 65536 ^ L) := by
  have e : 65536 ^ L = 2 ^ (16 * L) := by rw [Nat.pow_mul]
  rw [e] at h1 ⊢
  exact blen_shift x (16 * L) (Nat.ne_of_gt (Nat.div_pos h1 (Nat.two_pow_pos _)))
theorem len_ev (hB : B ≤ 1000000) (hx : x < 65536 ^ B) : Ev (fun k => r2_Len.f k (ln x)) (blen x : Int) := by
  have lx := ln_length hx
  by_cases h0 : x = 0
  · subst h0
    refine Ev.congr (f := fun _ => some _) (fun k => ?_) (Ev.now _)
    unfold r2_Len.f
    rw [ln_zero]
    rfl
  · have h1 : 0 < (ln x).length := ln_lt_iff.2 (by rw [Nat.pow_zero]; omega)
    obtain ⟨L, hL⟩ : ∃ L, (ln x).length = L + 1 := ⟨(ln x).length - 1, by omega⟩
    have g1 : 65536 ^ L ≤ x := ln_lt_iff.1 (by omega)
    have g2 : ¬ 65536 ^ (L + 1) ≤ x := mt ln_lt_iff.2 (by omega)
    have g3 : x / 65536 ^ L < 65536 := by rw [Nat.pow_succ] at g2; exact Nat.div_lt_of_lt_mul (by omega)
    have hb := blen_parts g1 g3
    have hb2 : blen (x / 65536 ^ L) ≤ 16 := blen_le_iff.2 g3
    have hl := len_loop (x / 65536 ^ L) (16 * L) (by omega) (by omega)
    rw [← hb] at hl
    refine Ev.congr (f := fun k => r2_Len.l0 k ((16 * L : Nat) : Int) ((x / 65536 ^ L : Nat) : Int)) (fun k => ?_) hl
    unfold r2_Len.f
    have e1 : wrap64 (((ln x).length : Int) - 1) = (L : Int) := by unfold wrap64; omega
    have e2 : wrap64 (16 * (L : Int)) = ((16 * L : Nat) : Int) := by unfold wrap64; omega
    rw [if_neg (by omega), e1, if_pos (by omega), if_pos (by omega), rd_ln, e2, Nat.mod_eq_of_lt g3]
theorem low_loop (x : Nat) : ∀ m : Nat, m ≤ (ln x).length → m ≤ 4 → Ev (fun k => r2_Low.l0 k (ln x) ((x % 18446744073709551616 / 65536 ^ m : Nat) : Int) ((m : Int) - 1)) ((x % 18446744073709551616 : Nat) : Int) := by
  intro m
  induction m with
  | zero =>
    intro _ _
    refine Ev.step (f := fun _ => some _) (fun k => ?_) (Ev.now _)
    simp only [r2_Low.l0]
    rw [if_neg (by omega), Nat.pow_zero, Nat.div_one]
  | succ m ih =>
    intro hm h4
    refine Ev.step (f := fun k => r2_Low.l0 k (ln x) ((x % 18446744073709551616 / 65536 ^ m : Nat) : Int) ((m : Int) - 1)) (fun k => ?_) (ih (by omega) (by omega))
    have e : ((m + 1 : Nat) : Int) - 1 = (m : Int) := by omega
    have hd := div_step (x % 18446744073709551616) m
    have e2 : x % 18446744073709551616 / 65536 ^ m % 65536 = x / 65536 ^ m % 65536 := by
      have h5 : m = 0 ∨ m = 1 ∨ m = 2 ∨ m = 3 := by omega
      rcases h5 with rfl | rfl | rfl | rfl
      · rw [Nat.pow_zero]; omega
      · rw [Nat.pow_one]; omega
      · rw [show 65536 ^ 2 = 4294967296 from rfl]; omega
      · rw [show 65536 ^ 3 = 281474976710656 from rfl]; omega
    have hb : x % 18446744073709551616 / 65536 ^ m < 18446744073709551616 := Nat.lt_of_le_of_lt (Nat.div_le_self _ _) (Nat.mod_lt _ (by decide))
    simp only [r2_Low.l0]
    rw [e, if_pos (by omega), if_pos (by omega), if_pos (by omega), rd_ln]
    congr 1
    · simp only [IntKind.wrap_u64]
      omega
    · unfold wrap64; omega
theorem low_ev (x : Nat) (hl : (ln x).length < 4000000000000000000) : Ev (fun k => r2_Low.f k (ln x)) ((x % 18446744073709551616 : Nat) : Int) := by
  by_cases h : 4 < (ln x).length
  · have := low_loop x 4 (by omega) (by omega)
    rw [show x % 18446744073709551616 / 65536 ^ 4 = 0 by rw [show 65536 ^ 4 = 18446744073709551616 from rfl]; omega] at this
    refine Ev.congr (fun k => ?_) this
    unfold r2_Low.f
    rw [if_pos (by omega)]
    rfl
  · have hx : x < 65536 ^ (ln x).length := by have := nv_lt (nok_ln x); rwa [nv_ln] at this
    have h4 : 65536 ^ (ln x).length ≤ 65536 ^ 4 := Nat.pow_le_pow_right (by omega) (by omega)
    rw [show 65536 ^ 4 = 18446744073709551616 from rfl] at h4
    have := low_loop x (ln x).length (by omega) (by omega)
    rw [show x % 18446744073709551616 / 65536 ^ (ln x).length = 0 by rw [Nat.mod_eq_of_lt (by omega)]; exact Nat.div_eq_of_lt hx] at this
    refine Ev.congr (fun k => ?_) this
    unfold r2_Low.f
    rw [if_neg (by omega)]
    congr 1
    unfold wrap64
    omega
theorem bit_loop (n : Nat) (hn : n < 4000000000000000000) : ∀ (d j t : Nat), j + d = n % 16 → t < 65536 → Ev (fun k => r2_Bit.l0 k (n : Int) (t : Int) (j : Int)) ((t / 2 ^ d % 2 : Nat) : Int) := by
  intro d
  have em : Int.tmod (n : Int) 16 = ((n % 16 : Nat) : Int) := by rw [Int.tmod_eq_emod_of_nonneg (by omega)]; omega
  induction d with
  | zero =>
    intro j t hj ht
    refine Ev.step (f := fun _ => some _) (fun k => ?_) (Ev.now _)
    simp only [r2_Bit.l0]
    rw [em, if_neg (by omega), Int.tmod_eq_emod_of_nonneg (by omega), Nat.pow_zero, Nat.div_one]
    congr 1
    unfold wrap64
    omega
  | succ d ih =>
    intro j t hj ht
    have := ih (j + 1) (t / 2) (by omega) (by omega)
    rw [Nat.div_div_eq_div_mul, ← Nat.pow_succ'] at this
    refine Ev.step (f := fun k => r2_Bit.l0 k (n : Int) ((t / 2 : Nat) : Int) ((j + 1 : Nat) : Int)) (fun k => ?_) this
    simp only [r2_Bit.l0]
    rw [em, if_pos (by omega), w1 (by omega), Int.tdiv_eq_ediv_of_nonneg (by omega)]
    congr 1
    omega
theorem pow_16 (n : Nat) : 65536 ^ (n / 16) * 2 ^ (n % 16) = 2 ^ n := by
  rw [show (65536 : Nat) = 2 ^ 16 from rfl, ← Nat.pow_mul, ← Nat.pow_add]
  congr 1
  omega
theorem bit_ev (x n : Nat) (hn : n < 4000000000000000000) : Ev (fun k => r2_Bit.f k (ln x) (n : Int)) ((x / 2 ^ n % 2 : Nat) : Int) := by
  have e : wrap64 (Int.tdiv (n : Int) 16) = ((n / 16 : Nat) : Int) := by rw [Int.tdiv_eq_ediv_of_nonneg (by omega)]; unfold wrap64; omega
  have := bit_loop n hn (n % 16) 0 (x / 65536 ^ (n / 16) % 65536) (by omega) (by omega)
  have e2 : x / 65536 ^ (n / 16) % 65536 / 2 ^ (n % 16) % 2 = x / 2 ^ n % 2 := by
    rw [← pow_16 n, ← Nat.div_div_eq_div_mul]
    generalize x / 65536 ^ (n / 16) = z
    have h16 : n % 16 < 16 := by omega
    generalize n % 16 = r at *
    have h5 : r = 0 ∨ r = 1 ∨ r = 2 ∨ r = 3 ∨ r = 4 ∨ r = 5 ∨ r = 6 ∨ r = 7 ∨ r = 8 ∨ r = 9 ∨ r = 10 ∨ r = 11 ∨ r = 12 ∨ r = 13 ∨ r = 14 ∨ r = 15 := by omega
    rcases h5 with rfl | rfl | rfl | rfl | rfl | rfl | rfl | rfl | rfl | rfl | rfl | rfl | rfl | rfl | rfl | rfl <;> simp <;> omega
  rw [e2] at this
  refine Ev.congr (fun k => ?_) this
  unfold r2_Bit.f
  rw [e, at_ln]
  rfl
end
end Go.Proofs.Ythcgeekibomhiaa
end
section
namespace Go.Proofs.Ythcgeekibomhiaa
set_option linter.unusedVariables false
set_option linter.unusedSimpArgs false
open Go.RowKit X Go.Proofs.YthcgeekibomhiaaW.PrintWords
theorem nok_zeros (m : Nat) : nok (List.replicate m 0) := fun d hd => by have := List.eq_of_mem_replicate hd; omega
theorem nv_zeros (m : Nat) : nv (List.replicate m 0) = 0 := by
  induction m with
  | zero => rfl
  | succ m ih => rw [List.replicate_succ]; show (0 : Int).toNat + 65536 * nv (List.replicate m 0) = 0; rw [ih]; rfl
theorem two_16 {r : Nat} (h : r < 16) : 2 ^ r ≤ 32768 ∧ 1 ≤ 2 ^ r := ⟨by have := Nat.pow_le_pow_right (n := 2) (by omega) (show r ≤ 15 by omega); omega, Nat.two_pow_pos r⟩
theorem tmod_16 (n : Nat) : Int.tmod (n : Int) 16 = ((n % 16 : Nat) : Int) := by rw [Int.tmod_eq_emod_of_nonneg (by omega)]; omega
theorem tdiv_16 {n : Nat} (h : n < 4000000000000000000) : wrap64 (Int.tdiv (n : Int) 16) = ((n / 16 : Nat) : Int) := by rw [Int.tdiv_eq_ediv_of_nonneg (by omega)]; unfold wrap64; omega
section
variable {x y B : Nat}
theorem shl_loop1 (hB : B ≤ 1000000) (hx : x < 65536 ^ B) (q p : Nat) (hq : q ≤ 1000000) (hp : p ≤ 32768) : ∀ (d i c : Nat) (out : List Int), i + d = B → nok out → out.length = q + i → c < 65536 →
    nv out + 65536 ^ (q + i) * (c + x / 65536 ^ i * p) = 65536 ^ q * (x * p) → Ev (fun k => r2_Shl.l1 k (ln x) out (p : Int) (c : Int) (i : Int)) (ln (65536 ^ q * (x * p))) := by
  have fin : ∀ (i c : Nat) (out : List Int), i ≤ B → nok out → out.length = q + i → c < 65536 → nv out + 65536 ^ (q + i) * (c + x / 65536 ^ i * p) = 65536 ^ q * (x * p) → ¬ 65536 ^ i ≤ x → Ev (fun k => r2_Shl.l1 k (ln x) out (p : Int) (c : Int) (i : Int)) (ln (65536 ^ q * (x * p))) := by
    intro i c out hi hok hlen hc hv h1
    rw [div_zero_of h1, Nat.zero_mul, Nat.add_zero] at hv
    refine Ev.step (f := fun k => (r2_trim.f k (out ++ [(c : Int)])).bind fun t => some t) (fun k => ?_) (trim_to (nok_append hok (nok_one (by omega) (by omega))) (by simp; omega) (by rw [nv_append, nv_one, hlen, Int.toNat_natCast]; exact hv))
    simp only [r2_Shl.l1]
    rw [if_neg (len_neg h1), if_pos (by omega)]
  intro d
  induction d with
  | zero =>
    intro i c out hi hok hlen hc hv
    exact fin i c out (by omega) hok hlen hc hv (by rw [show i = B by omega]; omega)
  | succ d ih =>
    intro i c out hi hok hlen hc hv
    by_cases h1 : 65536 ^ i ≤ x
    · have hx' := div_step x i
      generalize hX : x / 65536 ^ (i + 1) = X at *
      generalize hdx : x / 65536 ^ i % 65536 = dx at *
      have bx : dx < 65536 := by omega
      have bm : dx * p ≤ 65535 * 32768 := Nat.mul_le_mul (by omega) hp
      generalize hm : dx * p = m at *
      refine Ev.step (f := fun k => r2_Shl.l1 k (ln x) (out ++ [(((c + m) % 65536 : Nat) : Int)]) (p : Int) (((c + m) / 65536 : Nat) : Int) ((i + 1 : Nat) : Int)) (fun k => ?_) (ih _ _ _ (by omega) (nok_append hok (nok_one (by omega) (by omega))) (by simp [hlen]; omega) (by omega) ?_)
      · simp only [r2_Shl.l1]
        rw [if_pos (len_pos h1), if_pos (by omega), if_pos (by omega), w1 (by omega), rd_ln, hdx]
        have e : ((dx : Nat) : Int) * (p : Int) = (m : Int) := by rw [← hm]; push_cast; rfl
        have eD : ((c : Int) + (m : Int)) % 65536 = (((c + m) % 65536 : Nat) : Int) := by omega
        have eC : (((c : Int) + (m : Int)) % 4294967296) / 65536 = (((c + m) / 65536 : Nat) : Int) := by omega
        rw [e, eD, eC]
      · rw [nv_append, hlen, nv_one, Int.toNat_natCast, hX, ← hv, hx', ← Nat.add_assoc q i 1, Nat.add_assoc, pw_step]
        congr 2
        rw [Nat.add_mul, hm, Nat.mul_assoc]
        generalize X * p = Z
        omega
    · exact fin i c out (by omega) hok hlen hc hv h1
theorem shl_loop0 (hB : B ≤ 1000000) (hx : x < 65536 ^ B) (n : Nat) (hn : n ≤ 10000000) : ∀ (d j : Nat), j + d = n % 16 → Ev (fun k => r2_Shl.l0 k (ln x) (n : Int) (List.replicate (n / 16) 0) ((2 ^ j : Nat) : Int) (j : Int)) (ln (x * 2 ^ n)) := by
  intro d
  induction d with
  | zero =>
    intro j hj
    have h2 := two_16 (show n % 16 < 16 by omega)
    have := shl_loop1 hB hx (n / 16) (2 ^ (n % 16)) (by omega) h2.1 B 0 0 (List.replicate (n / 16) 0) (by omega) (nok_zeros _) (by simp) (by omega) (by rw [nv_zeros, Nat.pow_zero, Nat.div_one]; simp)
    rw [show 65536 ^ (n / 16) * (x * 2 ^ (n % 16)) = x * 2 ^ n by rw [← pow_16 n, Nat.mul_left_comm]] at this
    refine Ev.step (f := fun k => r2_Shl.l1 k (ln x) (List.replicate (n / 16) 0) ((2 ^ (n % 16) : Nat) : Int) ((0 : Nat) : Int) ((0 : Nat) : Int)) (fun k => ?_) this
    simp only [r2_Shl.l0]
    rw [tmod_16, if_neg (by omega), show j = n % 16 by omega]
    rfl
  | succ d ih =>
    intro j hj
    have h2 := two_16 (show j < 16 by omega)
    refine Ev.step (f := fun k => r2_Shl.l0 k (ln x) (n : Int) (List.replicate (n / 16) 0) ((2 ^ (j + 1) : Nat) : Int) ((j + 1 : Nat) : Int)) (fun k => ?_) (ih (j + 1) (by omega))
    simp only [r2_Shl.l0]
    rw [tmod_16, if_pos (by omega), w1 (by omega), Nat.pow_succ]
    congr 1
    omega
theorem shl_ev (hB : B ≤ 1000000) (hx : x < 65536 ^ B) (n : Nat) (hn : n ≤ 10000000) : Ev (fun k => r2_Shl.f k (ln x) (n : Int)) (ln (x * 2 ^ n)) := by
  by_cases h0 : x = 0
  · subst h0
    refine Ev.congr (f := fun _ => some _) (fun k => ?_) (Ev.now _)
    unfold r2_Shl.f
    rw [ln_zero, Nat.zero_mul, ln_zero]
    rfl
  · have h1 : 0 < (ln x).length := ln_lt_iff.2 (by rw [Nat.pow_zero]; omega)
    refine Ev.congr (f := fun k => r2_Shl.l0 k (ln x) (n : Int) (List.replicate (n / 16) 0) ((2 ^ 0 : Nat) : Int) ((0 : Nat) : Int)) (fun k => ?_) (shl_loop0 hB hx n hn (n % 16) 0 (by omega))
    unfold r2_Shl.f
    rw [if_neg (by omega), tdiv_16 (by omega), if_pos (by omega), Int.toNat_natCast, if_pos (by omega)]
    rfl
theorem shr_part {z r : Nat} (h : r < 16) : z / 2 ^ r % 65536 = z % 65536 / 2 ^ r + z / 65536 % 65536 % 2 ^ r * (65536 / 2 ^ r) := by
  have h5 : r = 0 ∨ r = 1 ∨ r = 2 ∨ r = 3 ∨ r = 4 ∨ r = 5 ∨ r = 6 ∨ r = 7 ∨ r = 8 ∨ r = 9 ∨ r = 10 ∨ r = 11 ∨ r = 12 ∨ r = 13 ∨ r = 14 ∨ r = 15 := by omega
  rcases h5 with rfl | rfl | rfl | rfl | rfl | rfl | rfl | rfl | rfl | rfl | rfl | rfl | rfl | rfl | rfl | rfl <;> simp <;> omega
theorem shr_loop2 (hB : B ≤ 1000000) (hx : x < 65536 ^ B) (n : Nat) (lost : Bool) : ∀ (d i : Nat) (out : List Int), i + d = B → n / 16 ≤ i → nok out → out.length = i - n / 16 →
    nv out + 65536 ^ (i - n / 16) * (x / 65536 ^ i / 2 ^ (n % 16)) = x / 2 ^ n → Ev (fun k => r2_Shr.l2 k (ln x) lost ((2 ^ (n % 16) : Nat) : Int) out (i : Int)) (ln (x / 2 ^ n), lost) := by
  have h2 := two_16 (show n % 16 < 16 by omega)
  have fin : ∀ (i : Nat) (out : List Int), i ≤ B → nok out → out.length = i - n / 16 → nv out + 65536 ^ (i - n / 16) * (x / 65536 ^ i / 2 ^ (n % 16)) = x / 2 ^ n → ¬ 65536 ^ i ≤ x → Ev (fun k => r2_Shr.l2 k (ln x) lost ((2 ^ (n % 16) : Nat) : Int) out (i : Int)) (ln (x / 2 ^ n), lost) := by
    intro i out hi hok hlen hv h1
    rw [div_zero_of h1, Nat.zero_div, Nat.mul_zero, Nat.add_zero] at hv
    have hT := trim_ev hok (by omega)
    rw [hv] at hT
    refine Ev.step (f := fun k => (r2_trim.f k out).bind fun t => some (t, lost)) (fun k => ?_) (Ev.bind hT (Ev.now _))
    simp only [r2_Shr.l2]
    rw [if_neg (len_neg h1)]
  intro d
  induction d with
  | zero =>
    intro i out hi hge hok hlen hv
    exact fin i out (by omega) hok hlen hv (by rw [show i = B by omega]; omega)
  | succ d ih =>
    intro i out hi hge hok hlen hv
    by_cases h1 : 65536 ^ i ≤ x
    · have hp := shr_part (z := x / 65536 ^ i) (r := n % 16) (by omega)
      have e1 : x / 65536 ^ i / 65536 = x / 65536 ^ (i + 1) := by rw [Nat.div_div_eq_div_mul, ← Nat.pow_succ]
      rw [e1] at hp
      have b1 : x / 65536 ^ i / 2 ^ (n % 16) % 65536 < 65536 := Nat.mod_lt _ (by decide)
      refine Ev.step (f := fun k => r2_Shr.l2 k (ln x) lost ((2 ^ (n % 16) : Nat) : Int) (out ++ [((x / 65536 ^ i / 2 ^ (n % 16) % 65536 : Nat) : Int)]) ((i + 1 : Nat) : Int)) (fun k => ?_) (ih _ _ (by omega) (by omega) (nok_append hok (nok_one (by omega) (by omega))) (by simp [hlen]; omega) ?_)
      · simp only [r2_Shr.l2]
        rw [if_pos (len_pos h1), if_pos (by omega), if_neg (by omega), w1 (by omega), at_ln]
        simp only [Option.bind_some]
        rw [if_pos (by omega), rd_ln]
        congr 2
        rw [hp]
        rw [hp] at b1
        have b4 : x / 65536 ^ (i + 1) % 65536 % 2 ^ (n % 16) * (65536 / 2 ^ (n % 16)) < 65537 := Nat.lt_succ_of_lt (Nat.lt_of_le_of_lt (Nat.le_add_left _ (x / 65536 ^ i % 65536 / 2 ^ (n % 16))) b1)
        have t1 : Int.tdiv ((x / 65536 ^ i % 65536 : Nat) : Int) ((2 ^ (n % 16) : Nat) : Int) = ((x / 65536 ^ i % 65536 / 2 ^ (n % 16) : Nat) : Int) := by rw [Int.tdiv_eq_ediv_of_nonneg (by omega)]; rfl
        have t2 : Int.tmod ((x / 65536 ^ (i + 1) % 65536 : Nat) : Int) ((2 ^ (n % 16) : Nat) : Int) = ((x / 65536 ^ (i + 1) % 65536 % 2 ^ (n % 16) : Nat) : Int) := by rw [Int.tmod_eq_emod_of_nonneg (by omega)]; rfl
        have t3 : Int.tdiv 65536 ((2 ^ (n % 16) : Nat) : Int) = ((65536 / 2 ^ (n % 16) : Nat) : Int) := by rw [Int.tdiv_eq_ediv_of_nonneg (by omega)]; rfl
        have wr : ∀ v : Nat, v < 65537 → IntKind.u32.wrap (v : Int) = (v : Int) := fun v hv => by rw [IntKind.wrap_u32]; omega
        have b2 : x / 65536 ^ i % 65536 / 2 ^ (n % 16) ≤ 65535 := Nat.le_trans (Nat.div_le_self _ _) (by omega)
        have b3 : 65536 / 2 ^ (n % 16) ≤ 65536 := Nat.div_le_self _ _
        rw [t1, t2, t3, wr _ (by omega), wr _ (by omega), ← Int.natCast_mul, wr _ b4, ← Int.natCast_add, wr _ (by clear t1 t2 t3; omega)]
      · rw [nv_append, hlen, nv_one, Int.toNat_natCast, show i + 1 - n / 16 = (i - n / 16) + 1 by omega, Nat.add_assoc, pw_step, ← hv]
        congr 2
        have e2 : x / 65536 ^ (i + 1) / 2 ^ (n % 16) = x / 65536 ^ i / 2 ^ (n % 16) / 65536 := by rw [← e1, Nat.div_div_eq_div_mul (x / 65536 ^ i) 65536, Nat.mul_comm 65536, ← Nat.div_div_eq_div_mul]
        rw [e2]
        omega
    · exact fin i out (by omega) hok hlen hv h1
theorem shr_loop1 (hB : B ≤ 1000000) (hx : x < 65536 ^ B) (n : Nat) (hn : n ≤ 10000000) (hin : 65536 ^ (n / 16) ≤ x) : ∀ (d j : Nat), j + d = n % 16 →
    Ev (fun k => r2_Shr.l1 k (ln x) (n : Int) (decide (x % 65536 ^ (n / 16) ≠ 0)) ((n / 16 : Nat) : Int) ((2 ^ j : Nat) : Int) (j : Int)) (ln (x / 2 ^ n), decide (x % 2 ^ n ≠ 0)) := by
  have hbd : n / 16 ≤ B := by
    have h1 := ln_lt_iff.2 hin
    have h2 := ln_length hx
    omega
  intro d
  induction d with
  | zero =>
    intro j hj
    have h2 := two_16 (show n % 16 < 16 by omega)
    have hl := shr_loop2 hB hx n (decide (x % 2 ^ n ≠ 0)) (B - n / 16) (n / 16) [] (by omega) (Nat.le_refl _) nok_nil (by simp) (by rw [Nat.sub_self, Nat.pow_zero, Nat.one_mul, Nat.div_div_eq_div_mul, pow_16]; simp [nv])
    have hd := rd_ln x (n / 16)
    have hm : x % 2 ^ n = x % 65536 ^ (n / 16) + 65536 ^ (n / 16) * (x / 65536 ^ (n / 16) % 2 ^ (n % 16)) := by rw [← pow_16 n, Nat.mod_mul]
    have hmm : x / 65536 ^ (n / 16) % 65536 % 2 ^ (n % 16) = x / 65536 ^ (n / 16) % 2 ^ (n % 16) := Nat.mod_mod_of_dvd _ (by rw [show (65536 : Nat) = 2 ^ 16 from rfl]; exact Nat.pow_dvd_pow 2 (by omega))
    have hpos := p16 (n / 16)
    refine Ev.step (f := fun k => r2_Shr.j3 k (ln x) (decide (x % 2 ^ n ≠ 0)) ((n / 16 : Nat) : Int) ((2 ^ (n % 16) : Nat) : Int)) (fun k => ?_) (Ev.step (fun k => by simp only [r2_Shr.j3]) hl)
    simp only [r2_Shr.l1]
    rw [tmod_16, if_neg (by omega), show j = n % 16 by omega]
    by_cases z : x % 65536 ^ (n / 16) = 0
    · rw [decide_eq_false (by omega), if_neg (by decide), if_pos (by omega), if_pos (len_pos hin), if_neg (by omega), hd]
      congr 1
      rw [Int.tmod_eq_emod_of_nonneg (by omega), Bool.eq_iff_iff, decide_eq_true_iff, bne_iff_ne, hm, z, Nat.zero_add, ← hmm]
      rw [show (((x / 65536 ^ (n / 16) % 65536 : Nat) : Int) % ((2 ^ (n % 16) : Nat) : Int)) = ((x / 65536 ^ (n / 16) % 65536 % 2 ^ (n % 16) : Nat) : Int) from rfl]
      generalize x / 65536 ^ (n / 16) % 65536 % 2 ^ (n % 16) = t at *
      constructor
      · intro h g
        rcases Nat.mul_eq_zero.1 g with g | g
        · omega
        · omega
      · intro h g
        have : t = 0 := by omega
        subst this
        exact h (Nat.mul_zero _)
    · rw [decide_eq_true z, if_pos rfl, decide_eq_true (by omega)]
  | succ d ih =>
    intro j hj
    have h2 := two_16 (show j < 16 by omega)
    refine Ev.step (f := fun k => r2_Shr.l1 k (ln x) (n : Int) (decide (x % 65536 ^ (n / 16) ≠ 0)) ((n / 16 : Nat) : Int) ((2 ^ (j + 1) : Nat) : Int) ((j + 1 : Nat) : Int)) (fun k => ?_) (ih (j + 1) (by omega))
    simp only [r2_Shr.l1]
    rw [tmod_16, if_pos (by omega), w1 (by omega), Nat.pow_succ]
    congr 1
    omega
theorem shr_loop0 (hB : B ≤ 1000000) (hx : x < 65536 ^ B) (n : Nat) (hn : n ≤ 10000000) : ∀ (d i : Nat), i + d = n / 16 →
    Ev (fun k => r2_Shr.l0 k (ln x) (n : Int) (decide (x % 65536 ^ i ≠ 0)) ((n / 16 : Nat) : Int) (i : Int)) (ln (x / 2 ^ n), decide (x % 2 ^ n ≠ 0)) := by
  have out : ∀ i, i ≤ n / 16 → ¬ 65536 ^ i ≤ x → Ev (fun k => r2_Shr.j1 k (ln x) (n : Int) (decide (x % 65536 ^ i ≠ 0)) ((n / 16 : Nat) : Int)) (ln (x / 2 ^ n), decide (x % 2 ^ n ≠ 0)) := by
    intro i hi h1
    have h2 : 65536 ^ i ≤ 65536 ^ (n / 16) := Nat.pow_le_pow_right (by omega) hi
    have h3 : 65536 ^ (n / 16) ≤ 2 ^ n := by rw [← pow_16 n]; exact Nat.le_mul_of_pos_right _ (Nat.two_pow_pos _)
    refine Ev.step (f := fun _ => some _) (fun k => ?_) (Ev.now _)
    simp only [r2_Shr.j1]
    have := len_neg (x := x) (i := n / 16) (by omega)
    rw [if_pos (by omega), Nat.mod_eq_of_lt (by omega), Nat.mod_eq_of_lt (by omega), Nat.div_eq_of_lt (by omega), ln_zero]
  intro d
  induction d with
  | zero =>
    intro i hi
    obtain rfl : i = n / 16 := by omega
    by_cases h1 : 65536 ^ (n / 16) ≤ x
    · refine Ev.step (f := fun k => r2_Shr.j1 k (ln x) (n : Int) (decide (x % 65536 ^ (n / 16) ≠ 0)) ((n / 16 : Nat) : Int)) (fun k => ?_) (Ev.step (f := fun k => r2_Shr.l1 k (ln x) (n : Int) (decide (x % 65536 ^ (n / 16) ≠ 0)) ((n / 16 : Nat) : Int) ((2 ^ 0 : Nat) : Int) ((0 : Nat) : Int)) (fun k => ?_) (shr_loop1 hB hx n hn h1 (n % 16) 0 (by omega)))
      · simp only [r2_Shr.l0]
        rw [if_neg (by omega)]
      · simp only [r2_Shr.j1]
        have := len_pos h1
        rw [if_neg (by omega)]
        rfl
    · refine Ev.step (fun k => ?_) (out _ (Nat.le_refl _) h1)
      simp only [r2_Shr.l0]
      rw [if_neg (by omega)]
  | succ d ih =>
    intro i hi
    by_cases h1 : 65536 ^ i ≤ x
    · have hm : x % 65536 ^ (i + 1) = x % 65536 ^ i + 65536 ^ i * (x / 65536 ^ i % 65536) := by rw [Nat.pow_succ, Nat.mod_mul]
      have hpos := p16 i
      refine Ev.step (f := fun k => r2_Shr.l0 k (ln x) (n : Int) (decide (x % 65536 ^ (i + 1) ≠ 0)) ((n / 16 : Nat) : Int) ((i + 1 : Nat) : Int)) (fun k => ?_) (ih (i + 1) (by omega))
      simp only [r2_Shr.l0]
      rw [if_pos (by omega), if_pos (len_pos h1), w1 (by omega), rd_ln]
      by_cases z : x % 65536 ^ i = 0
      · rw [decide_eq_false (by omega), if_neg (by decide), if_pos (by omega)]
        congr 1
        rw [Bool.eq_iff_iff, decide_eq_true_iff, bne_iff_ne, hm, z, Nat.zero_add]
        generalize x / 65536 ^ i % 65536 = t at *
        constructor
        · intro h g
          rcases Nat.mul_eq_zero.1 g with g | g
          · omega
          · omega
        · intro h g
          have : t = 0 := by omega
          subst this
          exact h (Nat.mul_zero _)
      · rw [decide_eq_true z, if_pos rfl, decide_eq_true (by omega)]
    · refine Ev.step (fun k => ?_) (out i (by omega) h1)
      simp only [r2_Shr.l0]
      rw [if_pos (by omega), if_neg (len_neg h1)]
theorem shr_ev (hB : B ≤ 1000000) (hx : x < 65536 ^ B) (n : Nat) (h0 : n ≠ 0) (hn : n ≤ 10000000) : Ev (fun k => r2_Shr.f k (ln x) (n : Int)) (ln (x / 2 ^ n), decide (x % 2 ^ n ≠ 0)) := by
  refine Ev.congr (f := fun k => r2_Shr.l0 k (ln x) (n : Int) (decide (x % 65536 ^ 0 ≠ 0)) ((n / 16 : Nat) : Int) ((0 : Nat) : Int)) (fun k => ?_) (shr_loop0 hB hx n hn (n / 16) 0 (by omega))
  unfold r2_Shr.f
  rw [if_neg (by omega), tdiv_16 (by omega), Nat.pow_zero, Nat.mod_one]
  rfl
end
end Go.Proofs.Ythcgeekibomhiaa
end
section
namespace Go.Proofs.Ythcgeekibomhiaa
set_option linter.unusedVariables false
set_option linter.unusedSimpArgs false
open Go.RowKit X Go.Proofs.YthcgeekibomhiaaW.PrintWords
theorem one_B {B : Nat} (h : 1 ≤ B) : 1 < 65536 ^ B := by
  have := Nat.pow_le_pow_right (n := 65536) (by omega) h
  rw [Nat.pow_one] at this
  omega
section
variable {B : Nat}
theorem of_one : Ev (fun k => r2_Of.f k 1) (ln 1) := of_ev (n := 1) (by unfold U; omega)
theorem to_j3 (hB : B ≤ 1000000) {q : Nat} (hq : q < 65536 ^ B) (h1 : 1 ≤ B) (up : Bool) : Ev (fun k => r4_To.j3 k (ln q) up) (ln (q + if up = true then 1 else 0), true) := by
  cases up
  · refine Ev.step (f := fun _ => some _) (fun k => ?_) (Ev.now _)
    simp only [r4_To.j3]
    rw [if_neg (by decide), if_neg (by decide), Nat.add_zero]
  · refine Ev.step (f := fun k => (r2_Of.f k 1).bind fun t281 => ((r2_Add.f k (ln q) t281).bind fun t284 => (some (t284, true)))) (fun k => ?_) (Ev.bind of_one (Ev.bind (add_ev hB hq (one_B h1)) (Ev.now _)))
    simp only [r4_To.j3]
    first | rw [if_pos rfl] | rw [if_pos trivial]
theorem to_j2 (hB : B ≤ 1000000) {q : Nat} (hq : q < 65536 ^ B) (h1 : 1 ≤ B) (m : Int) (H J mi : Bool) (e : Int) (X : List Int) : Ev (fun k => r4_To.j2 k m (ln q) H J mi e X) (ln (q + if (if m = 1 then H else if m = 2 then false else if m = 3 then !mi else if m = 4 then mi else J) = true then 1 else 0), true) := by
  have h3 := to_j3 hB hq h1
  refine Ev.step (f := fun k => r4_To.j3 k (ln q) (if m = 1 then H else if m = 2 then false else if m = 3 then !mi else if m = 4 then mi else J)) (fun k => ?_) (h3 _)
  simp only [r4_To.j2]
  by_cases c1 : m = 1
  · rw [if_pos c1, if_pos c1]
  · rw [if_neg c1, if_neg c1]
    by_cases c2 : m = 2
    · rw [if_pos c2, if_pos c2]
    · rw [if_neg c2, if_neg c2]
      by_cases c3 : m = 3
      · rw [if_pos c3, if_pos c3]
      · rw [if_neg c3, if_neg c3]
        by_cases c4 : m = 4
        · rw [if_pos c4, if_pos c4]
        · rw [if_neg c4, if_neg c4]
theorem to_j1 (hB : B ≤ 1000000) {q : Nat} (hq : q < 65536 ^ B) (h1 : 1 ≤ B) (m : Int) (H just mi : Bool) (e : Int) (X : List Int) : Ev (fun k => r4_To.j1 k m (ln q) H just mi e X) (ln (q + if (if m = 1 then H else if m = 2 then false else if m = 3 then !mi else if m = 4 then mi else H && (!just || decide (q % 2 = 1))) = true then 1 else 0), true) := by
  refine Ev.step (f := fun k => r4_To.j2 k m (ln q) H (H && (!just || decide (q % 2 = 1))) mi e X) (fun k => ?_) (to_j2 hB hq h1 m H _ mi e X)
  simp only [r4_To.j1]
  cases H
  · rw [if_neg (by decide)]; rfl
  · first | rw [if_pos rfl] | rw [if_pos trivial]
    cases just
    · rw [if_neg (by decide)]; rfl
    · first | rw [if_pos rfl] | rw [if_pos trivial]
      by_cases h0 : q = 0
      · subst h0
        rw [ln_zero]
        rfl
      · have hl : 0 < (ln q).length := ln_lt_iff.2 (by rw [Nat.pow_zero]; omega)
        have hr := rd_ln q 0
        rw [Nat.pow_zero, Nat.div_one] at hr
        rw [if_pos (by omega), if_pos (by omega), show (0 : Int) = ((0 : Nat) : Int) from rfl, hr, Int.tmod_eq_emod_of_nonneg (by omega)]
        congr 1
        rw [Bool.eq_iff_iff]
        simp only [beq_iff_eq, Bool.true_and, Bool.not_true, Bool.false_or, decide_eq_true_eq]
        omega
theorem to_j0 (hB : B ≤ 1000000) {q r : Nat} (hq : q < 65536 ^ B) (hr : r < 65536 ^ B) (b : Nat) (hb : 2 ^ b < 65536 ^ B) (hbl : b ≤ 10000000) (m : Int) (H mi : Bool) (e : Int) (X : List Int) (h1 : 1 ≤ B) :
    Ev (fun k => r4_To.j0 k m ((b + 1 : Nat) : Int) (ln q) H (ln r) mi e X) (ln (q + if (if m = 1 then H else if m = 2 then false else if m = 3 then !mi else if m = 4 then mi else H && (!(H && decide (r = 2 ^ b)) || decide (q % 2 = 1))) = true then 1 else 0), true) := by
  cases H
  · have := to_j1 hB hq h1 m false false mi e X
    refine Ev.step (f := fun k => r4_To.j1 k m (ln q) false false mi e X) (fun k => ?_) this
    simp only [r4_To.j0]
    rw [if_neg (by decide)]
  · have hS := shl_ev hB (one_B h1) b hbl
    rw [Nat.one_mul] at hS
    have hC := cmp_ev hB hr hb
    have ej : (cmpI r (2 ^ b) == 0) = decide (r = 2 ^ b) := by
      rw [Bool.eq_iff_iff]
      simp only [beq_iff_eq, decide_eq_true_eq]
      unfold cmpI
      split
      · omega
      · split <;> omega
    have := to_j1 hB hq h1 m true (decide (r = 2 ^ b)) mi e X
    rw [← ej] at this
    refine Ev.step (f := fun k => (r2_Of.f k 1).bind fun t273 => ((r2_Shl.f k t273 (b : Int)).bind fun t276 => ((r2_Cmp.f k (ln r) t276).bind fun t279 => (r4_To.j1 k m (ln q) true (t279 == 0) mi e X)))) (fun k => ?_) (Ev.bind of_one (Ev.bind hS (Ev.bind hC ?_)))
    · simp only [r4_To.j0]
      first | rw [if_pos rfl, show wrap64 (((b + 1 : Nat) : Int) - 1) = (b : Int) by unfold wrap64; omega] | rw [if_pos trivial, show wrap64 (((b + 1 : Nat) : Int) - 1) = (b : Int) by unfold wrap64; omega]
    · rw [← ej]
      simp only [Bool.true_and] at this ⊢
      exact this
theorem to_ev (hB : B ≤ 1000000) (h1 : 1 ≤ B) {s : Nat} {e n m : Int} (mi : Bool) (hs : s < 65536 ^ B) (he : -2000000 ≤ e) (he2 : e ≤ 2000000) (hn : -2000000 ≤ n) (hn2 : n ≤ 2000000) (hm : m = 0 ∨ m = 1 ∨ m = 2 ∨ m = 3 ∨ m = 4) (hbig : 2 ^ (n - e).toNat < 65536 ^ B) :
    Ev (fun k => r4_To.f k mi e (ln s) n m) (ln (tQ mi e s n m), rOdd s e n) := by
  by_cases c : n ≤ e
  · have hS := shl_ev hB hs (e - n).toNat (by omega)
    have e1 : tQ mi e s n m = s * 2 ^ (e - n).toNat := by unfold tQ; rw [if_pos c]
    have e2 : rOdd s e n = false := by unfold rOdd cutH cutR; rw [if_pos c, if_pos c]; rfl
    rw [e1, e2]
    refine Ev.congr (f := fun k => (r2_Shl.f k (ln s) (((e - n).toNat : Nat) : Int)).bind fun t258 => some (t258, false)) (fun k => ?_) (Ev.bind hS (Ev.now _))
    unfold r4_To.f
    rw [if_pos (by omega), show wrap64 (e - n) = (((e - n).toNat : Nat) : Int) by unfold wrap64; omega]
  · obtain ⟨b, hb⟩ : ∃ b, (n - e).toNat = b + 1 := ⟨(n - e).toNat - 1, by omega⟩
    rw [hb] at hbig
    have hbb : 2 ^ b < 65536 ^ B := by rw [Nat.pow_succ] at hbig; omega
    have ew : wrap64 (n - e) = ((b + 1 : Nat) : Int) := by unfold wrap64; omega
    have ew2 : wrap64 (((b + 1 : Nat) : Int) - 1) = (b : Int) := by unfold wrap64; omega
    have hR := shr_ev hB hs (b + 1) (by omega) (by omega)
    have hq : s / 2 ^ (b + 1) < 65536 ^ B := Nat.lt_of_le_of_lt (Nat.div_le_self _ _) hs
    have hodd := odd_of s (show e < n by omega)
    rw [hb] at hodd
    have hH : cutH s e n = decide (s / 2 ^ b % 2 = 1) := by unfold cutH; rw [if_neg c, show (n - e - 1).toNat = b by omega]
    have hRr : cutR s e n = decide (s % 2 ^ b ≠ 0) := by unfold cutR; rw [if_neg c, show (n - e - 1).toNat = b by omega]
    rw [hodd]
    by_cases z : s % 2 ^ (b + 1) = 0
    · have e1 : tQ mi e s n m = s / 2 ^ (b + 1) := by
        have ho : rOdd s e n = false := by rw [odd_of s (by omega), hb]; exact decide_eq_false (by omega)
        unfold rOdd at ho
        unfold tQ tU
        rw [if_neg c, hb, (Bool.or_eq_false_iff.1 ho).1, (Bool.or_eq_false_iff.1 ho).2, upB_no]
        rfl
      rw [e1, decide_eq_false (by omega)]
      rw [decide_eq_false (by omega)] at hR
      refine Ev.congr (f := fun k => (r2_Shr.f k (ln s) ((b + 1 : Nat) : Int)).bind fun bt261 => (if bt261.2 = true then ((r2_Bit.f k (ln s) (b : Int)).bind fun t265 => ((r2_Len.f k (ln s)).bind fun t266 => (if ((b + 1 : Nat) : Int) ≤ t266 then ((r2_Shl.f k bt261.1 ((b + 1 : Nat) : Int)).bind fun t267 => ((r2_Sub.f k (ln s) t267).bind fun t270 => (r4_To.j0 k m ((b + 1 : Nat) : Int) bt261.1 (t265 == 1) t270 mi e (ln s)))) else (r4_To.j0 k m ((b + 1 : Nat) : Int) bt261.1 (t265 == 1) (ln s) mi e (ln s))))) else (some (bt261.1, false)))) (fun k => ?_) (Ev.bind hR ?_)
      · unfold r4_To.f
        rw [if_neg (by omega), ew, ew2]
      · exact Ev.congr (fun k => by rw [if_neg Bool.false_ne_true]) (Ev.now _)
    · rw [decide_eq_true z]
      rw [decide_eq_true z] at hR
      have hBit := bit_ev s b (by omega)
      have hLen := len_ev hB hs
      have eb : (((s / 2 ^ b % 2 : Nat) : Int) == 1) = cutH s e n := by rw [hH, Bool.eq_iff_iff]; simp only [beq_iff_eq, decide_eq_true_eq]; omega
      have hrest : s % 2 ^ (b + 1) < 65536 ^ B := Nat.lt_of_le_of_lt (Nat.mod_le _ _) hs
      have hj0 := to_j0 hB hq hrest b hbb (by omega) m (cutH s e n) mi e (ln s) h1
      have hlost : (cutH s e n || cutR s e n) = true := by have := odd_of s (show e < n by omega); unfold rOdd at this; rw [this, hb]; exact decide_eq_true z
      have ejust : (cutH s e n && decide (s % 2 ^ (b + 1) = 2 ^ b)) = (cutH s e n && !cutR s e n) := by
        rw [hH, hRr]
        have := mod_two_pow s b
        have hp := Nat.two_pow_pos b
        by_cases t : s / 2 ^ b % 2 = 1
        · rw [decide_eq_true t, Bool.true_and, Bool.true_and, this, t, Bool.eq_iff_iff]
          simp only [decide_eq_true_eq, Bool.not_eq_true', decide_eq_false_iff_not]
          omega
        · rw [decide_eq_false t]; rfl
      have eT : tQ mi e s n m = s / 2 ^ (b + 1) + if tU mi e s n m = true then 1 else 0 := by unfold tQ; rw [if_neg c, hb]
      have eU : tU mi e s n m = upB m mi (decide (s / 2 ^ (b + 1) % 2 = 1)) (cutH s e n) (cutR s e n) := by unfold tU; rw [hb]
      rw [ejust, upB_lost m mi (decide (s / 2 ^ (b + 1) % 2 = 1)) _ _ hlost hm, ← eU, ← eT] at hj0
      refine Ev.congr (f := fun k => (r2_Shr.f k (ln s) ((b + 1 : Nat) : Int)).bind fun bt261 => (if bt261.2 = true then ((r2_Bit.f k (ln s) (b : Int)).bind fun t265 => ((r2_Len.f k (ln s)).bind fun t266 => (if ((b + 1 : Nat) : Int) ≤ t266 then ((r2_Shl.f k bt261.1 ((b + 1 : Nat) : Int)).bind fun t267 => ((r2_Sub.f k (ln s) t267).bind fun t270 => (r4_To.j0 k m ((b + 1 : Nat) : Int) bt261.1 (t265 == 1) t270 mi e (ln s)))) else (r4_To.j0 k m ((b + 1 : Nat) : Int) bt261.1 (t265 == 1) (ln s) mi e (ln s))))) else (some (bt261.1, false)))) (fun k => ?_) (Ev.bind hR (Ev.congr (fun k => by first | rw [if_pos rfl] | rw [if_pos trivial]) (Ev.bind hBit (Ev.bind hLen ?_))))
      · unfold r4_To.f
        rw [if_neg (by omega), ew, ew2]
      · simp only [eb]
        by_cases hl : ((b + 1 : Nat) : Int) ≤ (blen s : Int)
        · have hS := shl_ev hB hq (b + 1) (by omega)
          have hm2 := Nat.div_add_mod s (2 ^ (b + 1))
          have hsub := sub_ev hB hs (y := s / 2 ^ (b + 1) * 2 ^ (b + 1)) (Nat.div_mul_le_self _ _)
          rw [show s - s / 2 ^ (b + 1) * 2 ^ (b + 1) = s % 2 ^ (b + 1) by rw [Nat.mul_comm]; omega] at hsub
          exact Ev.congr (fun k => by rw [if_pos hl]) (Ev.bind hS (Ev.bind hsub hj0))
        · have : s < 2 ^ (b + 1) := blen_le_iff.1 (by omega)
          rw [Nat.mod_eq_of_lt this] at hj0
          exact Ev.congr (fun k => by rw [if_neg hl]) hj0
end
end Go.Proofs.Ythcgeekibomhiaa
end
section
namespace Go.Proofs.Ythcgeekibomhiaa
set_option linter.unusedVariables false
set_option linter.unusedSimpArgs false
open Go.RowKit X Go.Proofs.YthcgeekibomhiaaW.PrintWords
def overA (mi : Bool) (m : Int) : Int := if m = 2 ∨ (m = 3 ∧ mi = true) ∨ (m = 4 ∧ mi = false) then 9218868437227405311 else 9218868437227405312
theorem overA_bd (mi : Bool) (m : Int) : 0 ≤ overA mi m ∧ overA mi m < 9223372036854775808 := by unfold overA; split <;> omega
theorem over4_eq (mi : Bool) (m : Int) : r4_over.f mi m = some (overA mi m) := by
  unfold r4_over.f overA
  by_cases h2 : m = 2
  · rw [if_pos h2, if_pos (.inl h2)]
  · rw [if_neg h2]
    by_cases h3 : m = 3
    · subst h3; cases mi <;> simp
    · rw [if_neg h3]
      by_cases h4 : m = 4
      · subst h4; cases mi <;> simp
      · simp [h2, h3, h4]
theorem signed4_eq {a : Int} (h0 : 0 ≤ a) (h1 : a < 9223372036854775808) (mi : Bool) : r4_signed.f a mi = some (a + sg mi) := by
  unfold r4_signed.f sg
  cases mi
  · simp
  · rw [if_pos rfl, if_pos rfl, IntKind.wrap_u64]
    congr 1
    omega
theorem round_j4 (k : Nat) (n f : Int) (q : Nat) (mi : Bool) (e : Int) (X : List Int) (hn : -1074 ≤ n) (hn2 : n ≤ 971) (hq : q < 9007199254740992) (h52 : q < 4503599627370496 → n = -1074) :
    r4_Round.j4 (k + 1) n f (q : Int) mi e X = some ((q : Int) + (n + 1074) * 4503599627370496 + sg mi, f) := by
  simp only [r4_Round.j4]
  by_cases c : (q : Int) ≥ 4503599627370496
  · have e0 : wrap64 (n + 1075) = n + 1075 := by unfold wrap64; omega
    have e1 : IntKind.u64.wrap ((IntKind.u64.wrap ((IntKind.u64.wrap ((IntKind.u64.wrap (n + 1075)) * 4503599627370496)) + (q : Int))) - 4503599627370496) = (q : Int) + (n + 1074) * 4503599627370496 := by simp only [IntKind.wrap_u64]; omega
    rw [if_pos c, e0, e1, signed4_eq (by omega) (by omega)]
    rfl
  · rw [if_neg c, signed4_eq (by omega) (by omega), Option.bind_some]
    have := h52 (by omega)
    subst this
    simp
def fin2 (mi : Bool) (n : Int) (q : Nat) (m f : Int) : Int × Int := if 9218868437227405312 ≤ (q : Int) + (n + 1074) * 4503599627370496 then (overA mi m + sg mi, 20) else ((q : Int) + (n + 1074) * 4503599627370496 + sg mi, f)
theorem small_B {B q : Nat} (hB : 130000 ≤ B) (hq : q < 18446744073709551616) : q < 65536 ^ B := by
  have := Nat.pow_le_pow_right (n := 65536) (by omega) (show 4 ≤ B by omega)
  rw [show 65536 ^ 4 = 18446744073709551616 from rfl] at this
  omega
section
variable {B : Nat}
theorem round_j3 (hB : B ≤ 1000000) (hB2 : 130000 ≤ B) {n : Int} {q : Nat} (m f : Int) (mi : Bool) (e : Int) (X : List Int) (hn : -1074 ≤ n) (hn2 : n ≤ 2000) (hq : q ≤ 9007199254740992) (h52 : q < 4503599627370496 → n = -1074) :
    Ev (fun k => r4_Round.j3 k m n (ln q) f mi e X) (fin2 mi n q m f) := by
  have hqB : q < 65536 ^ B := small_B hB2 (by omega)
  have hL := len_ev hB hqB
  have hLow := low_ev q (by have := ln_length hqB; omega)
  rw [Nat.mod_eq_of_lt (by omega)] at hLow
  have hb : blen q ≤ 54 := blen_le_iff.2 (by rw [show (2 : Nat) ^ 54 = 18014398509481984 from rfl]; omega)
  have hov := overA_bd mi m
  refine Ev.step (f := fun k => (r2_Len.f k (ln q)).bind fun t305 => (if (wrap64 (t305 + n)) > 1024 then ((r4_over.f mi m).bind fun t306 => ((r4_signed.f t306 mi).bind fun t307 => (some (t307, 20)))) else ((r2_Low.f k (ln q)).bind fun t308 => (if t308 = 9007199254740992 then (r4_Round.j4 k (wrap64 (n + 1)) f 4503599627370496 mi e X) else (r4_Round.j4 k n f t308 mi e X))))) (fun k => by simp only [r4_Round.j3]) (Ev.bind hL ?_)
  have ew : wrap64 ((blen q : Int) + n) = (blen q : Int) + n := by unfold wrap64; omega
  have ew1 : wrap64 (n + 1) = n + 1 := by unfold wrap64; omega
  unfold fin2
  simp only [ew, ew1]
  by_cases c : (blen q : Int) + n > 1024
  · have hP : 9218868437227405312 ≤ (q : Int) + (n + 1074) * 4503599627370496 := by
      rcases Nat.lt_or_ge q 4503599627370496 with g | g
      · have := h52 g; omega
      · rcases Nat.lt_or_ge q 9007199254740992 with g2 | g2
        · have := blen_53 g g2; omega
        · have : q = 9007199254740992 := by omega
          subst this; have := blen_54; omega
    rw [if_pos hP]
    refine Ev.congr (fun k => ?_) (Ev.now _)
    rw [if_pos c, over4_eq, Option.bind_some, signed4_eq hov.1 hov.2, Option.bind_some]
  · have hP : ¬ 9218868437227405312 ≤ (q : Int) + (n + 1074) * 4503599627370496 := by
      rcases Nat.lt_or_ge q 4503599627370496 with g | g
      · have := h52 g; omega
      · rcases Nat.lt_or_ge q 9007199254740992 with g2 | g2
        · have := blen_53 g g2; omega
        · have : q = 9007199254740992 := by omega
          subst this; have := blen_54; omega
    rw [if_neg hP]
    refine Ev.congr (fun k => by rw [if_neg c]) (Ev.bind hLow ?_)
    by_cases c3 : (q : Int) = 9007199254740992
    · refine Ev.congr (fun k => by rw [if_pos c3]) (Ev.step (fun k => round_j4 k (n + 1) f 4503599627370496 mi e X (by omega) ?_ (by omega) (by omega)) ?_)
      · have : q = 9007199254740992 := by omega
        subst this; have := blen_54; omega
      · refine Ev.congr (fun k => ?_) (Ev.now _)
        congr 2
        omega
    · refine Ev.congr (fun k => by rw [if_neg c3]) (Ev.step (fun k => round_j4 k n f q mi e X hn ?_ (by omega) h52) (Ev.now _))
      rcases Nat.lt_or_ge q 4503599627370496 with g | g
      · have := h52 g; omega
      · have := blen_53 g (by omega); omega
theorem fin2_round (mi : Bool) (e : Int) (s : Nat) (m : Int) (hs : s ≠ 0) : fin2 mi (rN e s) (tQ mi e s (rN e s) m) m (rFlag mi e s m) = rRound mi e s m := by
  rw [round_eq _ _ _ _ hs, tQ_rN _ _ _ _ hs]
  rfl
theorem pow_B {t : Nat} (hB2 : 130000 ≤ B) (h : t ≤ 2000000) : 2 ^ t < 65536 ^ B := by
  rw [show (65536 : Nat) = 2 ^ 16 from rfl, ← Nat.pow_mul]
  exact (Nat.pow_lt_pow_iff_right (by omega)).2 (by omega)
theorem round_j2 (hB : B ≤ 1000000) (hB2 : 130000 ≤ B) (mi : Bool) {e : Int} {s : Nat} {m : Int} (hs : s ≠ 0) (hsB : s < 65536 ^ B) (he : -900000 ≤ e) (he2 : e ≤ 900000) (ht : -1300 ≤ e + (blen s : Int)) (ht2 : e + (blen s : Int) ≤ 1100) (hm : m = 0 ∨ m = 1 ∨ m = 2 ∨ m = 3 ∨ m = 4) :
    Ev (fun k => r4_Round.j2 k m (e + (blen s : Int)) mi e (ln s)) (rRound mi e s m) := by
  have ew : wrap64 (e + (blen s : Int) - 53) = e + (blen s : Int) - 53 := by unfold wrap64; omega
  have hbl := blen_pos hs
  have hTf := to_ev hB (by omega) mi hsB (e := e) (n := e + (blen s : Int) - 53) (m := m) (by omega) (by omega) (by omega) (by omega) hm (pow_B hB2 (by omega))
  obtain ⟨f1, f2, f3⟩ := tQ_53 mi e s m hs
  have hLf := len_ev hB (x := tQ mi e s (e + (blen s : Int) - 53) m) (small_B hB2 (by omega))
  have htf := tiny_iff mi e s m hs
  have hbf : blen (tQ mi e s (e + (blen s : Int) - 53) m) ≤ 54 := blen_le_iff.2 (by rw [show (2 : Nat) ^ 54 = 18014398509481984 from rfl]; omega)
  have hfin := fin2_round mi e s m hs
  have hq1 := tQ_rN mi e s m hs
  have hqlt := cutQ53_lt (x := e) hs
  have hqge := cutQ_ge (x := e) hs
  have huu := uu_le mi e s m
  rw [show (2 : Nat) ^ 53 = 9007199254740992 from rfl] at hqlt
  rw [show (2 : Nat) ^ 52 = 4503599627370496 from rfl] at hqge
  have hng := rN_ge e s
  by_cases c : e + (blen s : Int) - 53 < -1074
  · have hN : rN e s = -1074 := by unfold rN rTop; rw [if_pos c]
    rw [hN] at hfin hq1 hqlt hqge hng
    have hT := to_ev hB (by omega) mi hsB (e := e) (n := -1074) (m := m) (by omega) (by omega) (by omega) (by omega) hm (pow_B hB2 (by omega))
    have h3 := fun f => round_j3 hB hB2 (n := -1074) (q := tQ mi e s (-1074) m) m f mi e (ln s) (by omega) (by omega) (by omega) (fun _ => rfl)
    refine Ev.step (f := fun k => (r4_To.f k mi e (ln s) (-1074) m).bind fun bt296 => (if bt296.2 = true then ((r4_To.f k mi e (ln s) (e + (blen s : Int) - 53) m).bind fun bt300 => ((r2_Len.f k bt300.1).bind fun t304 => (if (wrap64 ((wrap64 (t304 + (e + (blen s : Int)))) - 53)) ≤ (-1022) then (r4_Round.j3 k m (-1074) bt296.1 24 mi e (ln s)) else (r4_Round.j3 k m (-1074) bt296.1 16 mi e (ln s))))) else (r4_Round.j3 k m (-1074) bt296.1 0 mi e (ln s)))) (fun k => ?_) (Ev.bind hT ?_)
    · simp only [r4_Round.j2]
      rw [ew, show mx (e + (blen s : Int) - 53) (-1074) = -1074 from if_pos c]
    · unfold rFlag at hfin
      rw [hN] at hfin
      cases ho : rOdd s e (-1074)
      · rw [ho, if_neg (by decide)] at hfin
        exact Ev.congr (fun k => by simp only [ho]; rw [if_neg (by decide)]) (hfin ▸ h3 0)
      · rw [ho, if_pos rfl] at hfin
        refine Ev.congr (fun k => by simp only [ho]; rw [if_pos trivial]) (Ev.bind hTf (Ev.bind hLf ?_))
        have ew2 : wrap64 ((wrap64 ((blen (tQ mi e s (e + (blen s : Int) - 53) m) : Int) + (e + (blen s : Int)))) - 53) = (blen (tQ mi e s (e + (blen s : Int) - 53) m) : Int) + (e + (blen s : Int)) - 53 := by unfold wrap64; omega
        simp only [ew2]
        by_cases ct : (blen (tQ mi e s (e + (blen s : Int) - 53) m) : Int) + (e + (blen s : Int)) - 53 ≤ -1022
        · rw [if_pos (htf.1 ct)] at hfin
          exact Ev.congr (fun k => by rw [if_pos ct]) (hfin ▸ h3 24)
        · rw [if_neg (fun h => ct (htf.2 h))] at hfin
          exact Ev.congr (fun k => by rw [if_neg ct]) (hfin ▸ h3 16)
  · have hN : rN e s = e + (blen s : Int) - 53 := by unfold rN rTop; rw [if_neg c]
    rw [hN] at hfin hq1 hqlt hqge hng
    have h3 := fun f => round_j3 hB hB2 (n := e + (blen s : Int) - 53) (q := tQ mi e s (e + (blen s : Int) - 53) m) m f mi e (ln s) (by omega) (by omega) (by omega) (fun h => by omega)
    refine Ev.step (f := fun k => (r4_To.f k mi e (ln s) (e + (blen s : Int) - 53) m).bind fun bt311 => (if bt311.2 = true then ((r4_To.f k mi e (ln s) (e + (blen s : Int) - 53) m).bind fun bt315 => ((r2_Len.f k bt315.1).bind fun t319 => (if (wrap64 ((wrap64 (t319 + (e + (blen s : Int)))) - 53)) ≤ (-1022) then (r4_Round.j3 k m (e + (blen s : Int) - 53) bt311.1 24 mi e (ln s)) else (r4_Round.j3 k m (e + (blen s : Int) - 53) bt311.1 16 mi e (ln s))))) else (r4_Round.j3 k m (e + (blen s : Int) - 53) bt311.1 0 mi e (ln s)))) (fun k => ?_) (Ev.bind hTf ?_)
    · simp only [r4_Round.j2]
      rw [ew, show mx (e + (blen s : Int) - 53) (-1074) = e + (blen s : Int) - 53 from if_neg c]
    · unfold rFlag at hfin
      rw [hN] at hfin
      cases ho : rOdd s e (e + (blen s : Int) - 53)
      · rw [ho, if_neg (by decide)] at hfin
        exact Ev.congr (fun k => by simp only [ho]; rw [if_neg (by decide)]) (hfin ▸ h3 0)
      · rw [ho, if_pos rfl] at hfin
        refine Ev.congr (fun k => by simp only [ho]; rw [if_pos trivial]) (Ev.bind hTf (Ev.bind hLf ?_))
        have ew2 : wrap64 ((wrap64 ((blen (tQ mi e s (e + (blen s : Int) - 53) m) : Int) + (e + (blen s : Int)))) - 53) = (blen (tQ mi e s (e + (blen s : Int) - 53) m) : Int) + (e + (blen s : Int)) - 53 := by unfold wrap64; omega
        simp only [ew2]
        by_cases ct : (blen (tQ mi e s (e + (blen s : Int) - 53) m) : Int) + (e + (blen s : Int)) - 53 ≤ -1022
        · rw [if_pos (htf.1 ct)] at hfin
          exact Ev.congr (fun k => by rw [if_pos ct]) (hfin ▸ h3 24)
        · rw [if_neg (fun h => ct (htf.2 h))] at hfin
          exact Ev.congr (fun k => by rw [if_neg ct]) (hfin ▸ h3 16)
theorem round_j1 (hB : B ≤ 1000000) (hB2 : 130000 ≤ B) (mi : Bool) {e : Int} {s : Nat} {m : Int} (hsB : s < 65536 ^ B) (hbl : blen s ≤ 1000000) (he : -900000 ≤ e) (he2 : e ≤ 900000) (hm : m = 0 ∨ m = 1 ∨ m = 2 ∨ m = 3 ∨ m = 4) :
    Ev (fun k => r4_Round.j1 k m mi e (ln s)) (rRound mi e s m) := by
  by_cases hs : s = 0
  · subst hs
    refine Ev.step (f := fun _ => some _) (fun k => ?_) (Ev.now _)
    simp only [r4_Round.j1]
    rw [ln_zero, if_pos (by rfl), signed4_eq (by omega) (by omega), Option.bind_some]
    unfold rRound
    rw [if_pos rfl, Int.zero_add]
  · have hL := len_ev hB hsB
    have hl : 0 < (ln s).length := ln_lt_iff.2 (by rw [Nat.pow_zero]; omega)
    have ew : wrap64 (e + (blen s : Int)) = e + (blen s : Int) := by unfold wrap64; omega
    have hov := overA_bd mi m
    refine Ev.step (f := fun k => (r2_Len.f k (ln s)).bind fun t290 => (if (wrap64 (e + t290)) > 1100 then ((r4_over.f mi m).bind fun t291 => ((r4_signed.f t291 mi).bind fun t292 => (some (t292, 20)))) else (if (wrap64 (e + t290)) < (-1200) then ((r2_Of.f k 1).bind fun t293 => (r4_Round.j2 k m (-1299) mi (-1300) t293)) else (r4_Round.j2 k m (wrap64 (e + t290)) mi e (ln s))))) (fun k => by simp only [r4_Round.j1]; rw [if_neg (by omega)]) (Ev.bind hL ?_)
    simp only [ew]
    by_cases c : e + (blen s : Int) > 1100
    · have hN : rN e s = e + (blen s : Int) - 53 := by rcases rN_cases e s with g | g <;> omega
      have hP : 9218868437227405312 ≤ PQ mi e s m := by
        have := cutQ_ge (x := e) hs (by omega)
        rw [show (2 : Nat) ^ 52 = 4503599627370496 from rfl] at this
        unfold PQ
        omega
      rw [round_eq _ _ _ _ hs, if_pos hP]
      refine Ev.congr (fun k => ?_) (Ev.now _)
      rw [if_pos c, over4_eq, Option.bind_some, signed4_eq hov.1 hov.2, Option.bind_some]
      rfl
    · by_cases c2 : e + (blen s : Int) < -1200
      · rw [round_far mi m hs c2]
        have := round_j2 hB hB2 mi (e := -1300) (s := 1) (m := m) (by omega) (one_B (by omega)) (by omega) (by omega) (by decide) (by decide) hm
        rw [show (-1300 : Int) + (blen 1 : Int) = -1299 by decide] at this
        exact Ev.congr (fun k => by rw [if_neg c, if_pos c2]) (Ev.bind of_one this)
      · exact Ev.congr (fun k => by rw [if_neg c, if_neg c2]) (round_j2 hB hB2 mi hs hsB he he2 (by omega) (by omega) hm)
theorem ref_round_ev (hB : B ≤ 1000000) (hB2 : 130000 ≤ B) (mi : Bool) {e : Int} {s : Nat} (m : Int) (hsB : s < 65536 ^ B) (hbl : blen s ≤ 1000000) (he : -900000 ≤ e) (he2 : e ≤ 900000) :
    Ev (fun k => r4_Round.f k mi e (ln s) m) (rRound mi e s m) := by
  rw [← round_md]
  have h1 := round_j1 hB hB2 mi (e := e) (s := s) (m := md m) hsB hbl he he2 (md_in m)
  by_cases c1 : m < 0
  · have e0 : md m = 0 := by unfold md; rw [if_pos (.inl c1)]
    rw [e0] at h1 ⊢
    refine Ev.congr (f := fun k => r4_Round.j0 k m true mi e (ln s)) (fun k => by unfold r4_Round.f; rw [if_pos c1]) (Ev.step (fun k => ?_) h1)
    simp only [r4_Round.j0]
    rw [if_pos trivial]
  · refine Ev.congr (f := fun k => r4_Round.j0 k m (decide (m > 4)) mi e (ln s)) (fun k => by unfold r4_Round.f; rw [if_neg c1]) ?_
    by_cases c2 : m > 4
    · have e0 : md m = 0 := by unfold md; rw [if_pos (.inr c2)]
      rw [e0] at h1 ⊢
      rw [decide_eq_true c2]
      refine Ev.step (fun k => ?_) h1
      simp only [r4_Round.j0]
      rw [if_pos trivial]
    · have e0 : md m = m := by unfold md; rw [if_neg (by omega)]
      rw [e0] at h1 ⊢
      rw [decide_eq_false c2]
      refine Ev.step (fun k => ?_) h1
      simp only [r4_Round.j0]
      rw [if_neg (by decide)]
end
end Go.Proofs.Ythcgeekibomhiaa
end
section
namespace Go.Proofs.Ythcgeekibomhiaa
set_option linter.unusedVariables false
set_option linter.unusedSimpArgs false
open Go.RowKit X Go.Proofs.YthcgeekibomhiaaW.PrintWords
theorem nv_set {l : List Int} (i : Nat) (hi : i < l.length) (d : Int) : nv (l.set i d) + 65536 ^ i * (l.getD i 0).toNat = nv l + 65536 ^ i * d.toNat := by
  induction l generalizing i with
  | nil => simp at hi
  | cons e l ih =>
    cases i with
    | zero => simp [nv]; omega
    | succ i =>
      have := ih i (by simpa using hi)
      show e.toNat + 65536 * nv (l.set i d) + 65536 ^ (i + 1) * (l.getD i 0).toNat = e.toNat + 65536 * nv l + 65536 ^ (i + 1) * d.toNat
      rw [Nat.pow_succ', Nat.mul_assoc, Nat.mul_assoc, Nat.add_assoc, ← Nat.mul_add, this, Nat.mul_add, Nat.add_assoc]
theorem nok_set {l : List Int} (h : nok l) (i : Nat) {d : Int} (h0 : 0 ≤ d) (h1 : d < 65536) : nok (l.set i d) := fun e he => by
  rcases List.mem_or_eq_of_mem_set he with g | g
  · exact h e g
  · subst g; exact ⟨h0, h1⟩
theorem wr64 (v : Nat) (hv : v < 18446744073709551616) : IntKind.u64.wrap (v : Int) = (v : Int) := by rw [IntKind.wrap_u64]; omega
theorem wr64m (v w : Nat) (hv : v * w < 18446744073709551616) : IntKind.u64.wrap ((v : Int) * (w : Int)) = ((v * w : Nat) : Int) := by rw [← Int.natCast_mul]; exact wr64 _ hv
theorem wr64a (v w : Nat) (hv : v + w < 18446744073709551616) : IntKind.u64.wrap ((v : Int) + (w : Int)) = ((v + w : Nat) : Int) := by rw [← Int.natCast_add]; exact wr64 _ hv
end Go.Proofs.Ythcgeekibomhiaa
end
section
namespace Go.Proofs.Ythcgeekibomhiaa
set_option linter.unusedVariables false
set_option linter.unusedSimpArgs false
open Go.RowKit X Go.Proofs.YthcgeekibomhiaaW.PrintWords
theorem set_lt {v v' j M d o : Nat} (hj : j < M) (hd : d < 65536) (ho : o = v / 65536 ^ j % 65536) (h : v < 65536 ^ M) (e : v' + 65536 ^ j * o = v + 65536 ^ j * d) : v' < 65536 ^ M := by
  obtain ⟨r, rfl⟩ : ∃ r, M = j + 1 + r := ⟨M - j - 1, by omega⟩
  have h1 := Nat.div_add_mod v (65536 ^ j)
  have h2 := div_step v j
  rw [← ho] at h2
  have h3 : v / 65536 ^ (j + 1) < 65536 ^ r := Nat.div_lt_of_lt_mul (by rw [← Nat.pow_add]; exact h)
  have h4 := Nat.mod_lt v (p16 j)
  have h5 : 65536 ^ (j + 1 + r) = 65536 ^ j * (65536 * 65536 ^ r) := by rw [Nat.pow_add, Nat.pow_succ, Nat.mul_assoc]
  rw [h5]
  have h6 : v' = v % 65536 ^ j + 65536 ^ j * (d + 65536 * (v / 65536 ^ (j + 1))) := by
    have : v = v % 65536 ^ j + 65536 ^ j * o + 65536 ^ j * (65536 * (v / 65536 ^ (j + 1))) := by
      rw [Nat.add_assoc, ← Nat.mul_add, ← h2]; omega
    rw [Nat.mul_add]
    omega
  have h7 : 65536 ^ j * (d + 65536 * (v / 65536 ^ (j + 1)) + 1) ≤ 65536 ^ j * (65536 * 65536 ^ r) := Nat.mul_le_mul_left _ (by omega)
  rw [Nat.mul_add, Nat.mul_one] at h7
  omega
section
variable {x y B : Nat}
theorem mul_part (a b c o : Nat) (ha : a < 65536) (hb : b < 65536) (hc : c < 65536) (ho : o < 65536) :
    IntKind.u64.wrap ((IntKind.u64.wrap ((c : Int) + (IntKind.u64.wrap (o : Int)))) + (IntKind.u64.wrap ((IntKind.u64.wrap (a : Int)) * (IntKind.u64.wrap (b : Int))))) = ((c + o + a * b : Nat) : Int) ∧ c + o + a * b < 4294967296 := by
  have h : a * b ≤ 65535 * 65535 := Nat.mul_le_mul (by omega) (by omega)
  have h2 : c + o + a * b < 4294967296 := by omega
  refine ⟨?_, h2⟩
  rw [wr64 o (by omega), wr64 a (by omega), wr64 b (by omega), wr64a _ _ (by omega), wr64m _ _ (by omega), wr64a _ _ (by omega)]
theorem mul_tm (t : Nat) (h : t < 4294967296) : Int.tmod (t : Int) 65536 % 4294967296 = ((t % 65536 : Nat) : Int) ∧ IntKind.u64.wrap (Int.tdiv (t : Int) 65536) = ((t / 65536 : Nat) : Int) := by
  rw [Int.tmod_eq_emod_of_nonneg (by omega), Int.tdiv_eq_ediv_of_nonneg (by omega), IntKind.wrap_u64]
  omega
theorem mod_up (x i : Nat) : x % 65536 ^ (i + 1) = x % 65536 ^ i + 65536 ^ i * (x / 65536 ^ i % 65536) := by rw [Nat.pow_succ, Nat.mod_mul]
theorem mul_l1 (hB : B ≤ 1000000) (hx : x < 65536 ^ B) (hy : y < 65536 ^ B) (i : Nat) (hi : i < (ln x).length)
    (next : ∀ out, nok out → out.length = (ln x).length + (ln y).length → nv out = (x % 65536 ^ (i + 1)) * y → Ev (fun n => r2_Mul.l0 n (ln x) (ln y) out ((i + 1 : Nat) : Int)) (ln (x * y))) :
    ∀ (d k c : Nat) (out : List Int), k + d = (ln y).length → nok out → out.length = (ln x).length + (ln y).length → c < 65536 → nv out < 65536 ^ (i + (ln y).length) →
      nv out + 65536 ^ (i + k) * c = (x % 65536 ^ i) * y + 65536 ^ i * (x / 65536 ^ i % 65536 * (y % 65536 ^ k)) → Ev (fun n => r2_Mul.l1 n (ln x) (ln y) out (i : Int) (c : Int) (k : Int)) (ln (x * y)) := by
  have lx := ln_length hx
  have ly := ln_length hy
  have hyl : y < 65536 ^ (ln y).length := by have := nv_lt (nok_ln y); rwa [nv_ln] at this
  intro d
  induction d with
  | zero =>
    intro k c out hk hok hlen hc hlt hv
    rw [Nat.add_zero] at hk
    subst hk
    have hs := nv_set (l := out) (i + (ln y).length) (by omega) (c : Int)
    rw [getD_nv hok, Nat.div_eq_of_lt hlt] at hs
    have hs2 : nv (out.set (i + (ln y).length) (c : Int)) = nv out + 65536 ^ (i + (ln y).length) * c := by
      rw [Int.toNat_natCast] at hs
      simpa using hs
    have ew : wrap64 ((i : Int) + ((ln y).length : Int)) = ((i + (ln y).length : Nat) : Int) := by unfold wrap64; omega
    refine Ev.step (f := fun n => r2_Mul.l0 n (ln x) (ln y) (out.set (i + (ln y).length) (c : Int)) ((i + 1 : Nat) : Int)) (fun n => ?_) (next _ (nok_set hok _ (Int.natCast_nonneg _) (Int.ofNat_lt.2 hc)) (by rw [List.length_set]; exact hlen) ?_)
    · clear hv hlt hs hs2 next hyl
      simp only [r2_Mul.l1]
      rw [if_neg (by omega), ew, if_pos (by omega), if_pos (by omega), Int.toNat_natCast, w1 (by omega), show ((c : Int) % 4294967296) = (c : Int) by omega]
    · rw [hs2, hv, Nat.mod_eq_of_lt hyl, mod_up, Nat.add_mul, Nat.mul_assoc]
  | succ d ih =>
    intro k c out hk hok hlen hc hlt hv
    have hkl : k < (ln y).length := by omega
    have hp : i + k < out.length := by omega
    have q1 : (k : Int) < ((ln y).length : Int) := by omega
    have q2 : (0 : Int) ≤ ((i + k : Nat) : Int) := Int.natCast_nonneg _
    have q3 : ((i + k : Nat) : Int) < (out.length : Int) := by omega
    have q4 : (0 : Int) ≤ (i : Int) := Int.natCast_nonneg _
    have q5 : (i : Int) < ((ln x).length : Int) := by omega
    have q6 : (0 : Int) ≤ (k : Int) := Int.natCast_nonneg _
    have q7 : k < 4000000000000000000 := by omega
    have ew : wrap64 ((i : Int) + (k : Int)) = ((i + k : Nat) : Int) := by unfold wrap64; omega
    have ro := rd_nv hok (i + k)
    generalize hoo : nv out / 65536 ^ (i + k) % 65536 = o at *
    have ho : o < 65536 := by omega
    have rx := rd_ln x i
    have ry := rd_ln y k
    obtain ⟨e1, hT⟩ := mul_part (x / 65536 ^ i % 65536) (y / 65536 ^ k % 65536) c o (by omega) (by omega) hc ho
    obtain ⟨e2, e3⟩ := mul_tm _ hT
    have hy2 := mod_up y k
    generalize hxi : x / 65536 ^ i % 65536 = xi at *
    generalize hyk : y / 65536 ^ k % 65536 = yk at *
    generalize ht : c + o + xi * yk = t at *
    have hcn : t / 65536 < 65536 := Nat.div_lt_of_lt_mul hT
    have hs := nv_set (l := out) (i + k) hp ((t % 65536 : Nat) : Int)
    rw [getD_nv hok, hoo, Int.toNat_natCast, Int.toNat_natCast] at hs
    refine Ev.step (f := fun n => r2_Mul.l1 n (ln x) (ln y) (out.set (i + k) ((t % 65536 : Nat) : Int)) (i : Int) ((t / 65536 : Nat) : Int) ((k + 1 : Nat) : Int)) (fun n => ?_) (ih (k + 1) (t / 65536) _ (by clear hv hlt hs ro rx ry e1 e2 e3; omega) (nok_set hok _ (Int.natCast_nonneg _) (Int.ofNat_lt.2 (Nat.mod_lt t (by decide)))) (by rw [List.length_set]; exact hlen) hcn (set_lt (Nat.add_lt_add_left hkl i) (Nat.mod_lt t (by decide)) hoo.symm hlt hs) ?_)
    · clear hv hlt hs hy2 ih next hyl hoo hxi hyk ht hT
      simp only [r2_Mul.l1]
      rw [if_pos q1, ew, if_pos q2, if_pos q3, if_pos q4, if_pos q5, if_pos q6, ro, rx, ry, e1, e2, e3, Int.toNat_natCast, w1 q7]
    · have h1 : 65536 ^ (i + (k + 1)) * (t / 65536) + 65536 ^ (i + k) * (t % 65536) = 65536 ^ (i + k) * t := by
        rw [← Nat.add_assoc, Nat.pow_succ, Nat.mul_assoc, ← Nat.mul_add, Nat.div_add_mod]
      have h2 : 65536 ^ (i + k) * t = 65536 ^ (i + k) * c + 65536 ^ (i + k) * o + 65536 ^ (i + k) * (xi * yk) := by rw [← ht, Nat.mul_add, Nat.mul_add]
      have h3 : 65536 ^ i * (xi * (y % 65536 ^ (k + 1))) = 65536 ^ i * (xi * (y % 65536 ^ k)) + 65536 ^ (i + k) * (xi * yk) := by
        rw [hy2, Nat.mul_add, Nat.mul_add, Nat.pow_add, Nat.mul_left_comm xi, Nat.mul_assoc]
      rw [h3]
      clear h3 hy2 ht hT hcn ih next hyl hlt
      generalize 65536 ^ (i + (k + 1)) * (t / 65536) = P at *
      generalize 65536 ^ (i + k) * (t % 65536) = Q at *
      generalize 65536 ^ (i + k) * t = R at *
      generalize 65536 ^ (i + k) * c = V at *
      generalize 65536 ^ (i + k) * o = W at *
      generalize 65536 ^ (i + k) * (xi * yk) = Z at *
      generalize 65536 ^ i * (xi * (y % 65536 ^ k)) = Y at *
      generalize x % 65536 ^ i * y = X at *
      omega
theorem mul_l0 (hB : B ≤ 1000000) (hx : x < 65536 ^ B) (hy : y < 65536 ^ B) : ∀ (d i : Nat) (out : List Int), i + d = (ln x).length → nok out → out.length = (ln x).length + (ln y).length → nv out = (x % 65536 ^ i) * y →
    Ev (fun n => r2_Mul.l0 n (ln x) (ln y) out (i : Int)) (ln (x * y)) := by
  have lx := ln_length hx
  have ly := ln_length hy
  have hxl : x < 65536 ^ (ln x).length := by have := nv_lt (nok_ln x); rwa [nv_ln] at this
  have hyl : y < 65536 ^ (ln y).length := by have := nv_lt (nok_ln y); rwa [nv_ln] at this
  intro d
  induction d with
  | zero =>
    intro i out hi hok hlen hv
    rw [Nat.add_zero] at hi
    subst hi
    rw [Nat.mod_eq_of_lt hxl] at hv
    refine Ev.step (f := fun n => (r2_trim.f n out).bind fun t => some t) (fun n => ?_) (trim_to hok (by omega) hv)
    simp only [r2_Mul.l0]
    rw [if_neg (by omega)]
  | succ d ih =>
    intro i out hi hok hlen hv
    have hlt : nv out < 65536 ^ (i + (ln y).length) := by
      rw [hv, Nat.pow_add]
      exact Nat.mul_lt_mul'' (Nat.mod_lt _ (p16 i)) hyl
    refine Ev.step (f := fun n => r2_Mul.l1 n (ln x) (ln y) out (i : Int) ((0 : Nat) : Int) ((0 : Nat) : Int)) (fun n => ?_) (mul_l1 hB hx hy i (by omega) (fun out' h1 h2 h3 => ih (i + 1) out' (by omega) h1 h2 h3) (ln y).length 0 0 out (by omega) hok hlen (by omega) hlt ?_)
    · simp only [r2_Mul.l0]
      rw [if_pos (by omega)]
      rfl
    · rw [Nat.mul_zero, Nat.add_zero, hv, Nat.pow_zero, Nat.mod_one, Nat.mul_zero, Nat.mul_zero, Nat.add_zero]
theorem mul_ev (hB : B ≤ 1000000) (hx : x < 65536 ^ B) (hy : y < 65536 ^ B) : Ev (fun k => r2_Mul.f k (ln x) (ln y)) (ln (x * y)) := by
  have lx := ln_length hx
  have ly := ln_length hy
  have ew : wrap64 (((ln x).length : Int) + ((ln y).length : Int)) = (((ln x).length + (ln y).length : Nat) : Int) := by unfold wrap64; omega
  refine Ev.congr (fun k => ?_) (mul_l0 hB hx hy (ln x).length 0 (List.replicate ((ln x).length + (ln y).length) 0) (by omega) (nok_zeros _) (by simp) (by rw [nv_zeros, Nat.pow_zero, Nat.mod_one, Nat.zero_mul]))
  unfold r2_Mul.f
  rw [ew, if_pos (by omega), Int.toNat_natCast, if_pos (by omega)]
  rfl
end
end Go.Proofs.Ythcgeekibomhiaa
end
section
namespace Go.Proofs.Ythcgeekibomhiaa
set_option linter.unusedVariables false
set_option linter.unusedSimpArgs false
open Go.RowKit X Go.Proofs.YthcgeekibomhiaaW.PrintWords
theorem pattern_ev {p : Int} (hp : U p) : Ev (fun k => r4_Pattern.f k p) (pM p, pX p, ln (pS p).toNat) := by
  refine Ev.congr (f := fun k => (r2_Of.f k (pS p)).bind fun t227 => (some (pM p, pX p, t227))) (fun k => ?_) (Ev.bind (of_ev (U_pS p)) (Ev.now _))
  unfold r4_Pattern.f
  rw [r3_Take.eq p (inU_of hp), Option.bind_some]
end Go.Proofs.Ythcgeekibomhiaa
end
section
namespace Go.Proofs.Ythcgeekibomhiaa
set_option linter.unusedVariables false
set_option linter.unusedSimpArgs false
open Go.RowKit X D Go.Proofs.YthcgeekibomhiaaW.PrintWords
theorem llen_nil {n : Nat} : ((List.length (ln n) : Nat) : Int) = 0 ↔ n = 0 := by
  have := ln_lt_iff (n := n) (i := 0)
  rw [Nat.pow_zero] at this
  omega
theorem llen_pos {n : Nat} : ((List.length (ln n) : Nat) : Int) > 0 ↔ n ≠ 0 := by
  have := ln_lt_iff (n := n) (i := 0)
  rw [Nat.pow_zero] at this
  omega
def l3S (t : Bool × Int × Nat) : Bool × Int × List Int := (t.1, t.2.1, ln t.2.2)
def tSum (mx : Bool) (A : Nat) (my : Bool) (low : Int) (C : Nat) (m : Int) : Bool × Int × Nat :=
  if mx = my then (mx, low, A + C) else if A = C then (decide (m = 4), low, 0) else if C < A then (mx, low, A - C) else (my, low, C - A)
section
variable {B : Nat}
theorem rshl (hB : B ≤ 1000000) (hB2 : 130000 ≤ B) {s : Nat} {n : Int} (hs : s < 2 ^ 128) (h0 : 0 ≤ n) (h1 : n ≤ 10000) : r02_Shl.f (ln s) n = some (ln (s * 2 ^ n.toNat)) := by
  have := shl_ev hB (x := s) (Nat.lt_trans hs (pow_B hB2 (by omega))) n.toNat (by omega)
  rw [show ((n.toNat : Nat) : Int) = n by omega] at this
  exact evF_eq this
theorem big (hB2 : 130000 ≤ B) {s n : Nat} (hs : s < 2 ^ 128) (hn : n ≤ 10000) : s * 2 ^ n < 65536 ^ B := by
  have := pow_B (B := B) (t := 128 + n) hB2 (by omega)
  rw [Nat.pow_add] at this
  exact Nat.lt_of_le_of_lt (Nat.mul_le_mul_right _ (Nat.le_of_lt hs)) this
theorem tail_eq (hB : B ≤ 1000000) {A C : Nat} (hA : A < 65536 ^ B) (hC : C < 65536 ^ B) (zA : A ≠ 0) (zC : C ≠ 0) (mx my : Bool) (low m : Int) :
    (if (mx == my) = true then (if ((List.length (ln A) : Nat) : Int) = 0 then Option.bind (r02_Add.f (ln A) (ln C)) fun q => some (my, low, q) else Option.bind (r02_Add.f (ln A) (ln C)) fun q => some (mx, low, q))
      else if ((List.length (ln A) : Nat) : Int) = 0 then (if ((List.length (ln A) : Nat) : Int) = 0 then Option.bind (r02_Add.f (ln A) (ln C)) fun q => some (my, low, q) else Option.bind (r02_Add.f (ln A) (ln C)) fun q => some (mx, low, q))
      else if ((List.length (ln C) : Nat) : Int) = 0 then (if ((List.length (ln A) : Nat) : Int) = 0 then Option.bind (r02_Add.f (ln A) (ln C)) fun q => some (my, low, q) else Option.bind (r02_Add.f (ln A) (ln C)) fun q => some (mx, low, q))
      else Option.bind (r02_Cmp.f (ln A) (ln C)) fun q_2 => if q_2 = 0 then some (decide (m = 4), low, []) else if q_2 = 1 then Option.bind (r02_Sub.f (ln A) (ln C)) fun q => some (mx, low, q) else Option.bind (r02_Sub.f (ln C) (ln A)) fun q => some (my, low, q)) =
    some (l3S (tSum mx A my low C m)) := by
  have eA : r02_Add.f (ln A) (ln C) = some (ln (A + C)) := evF_eq (add_ev hB hA hC)
  have eC : r02_Cmp.f (ln A) (ln C) = some (cmpI A C) := evF_eq (cmp_ev hB hA hC)
  have nA : ¬ ((List.length (ln A) : Nat) : Int) = 0 := fun h => zA (llen_nil.1 h)
  have nC : ¬ ((List.length (ln C) : Nat) : Int) = 0 := fun h => zC (llen_nil.1 h)
  rw [if_neg nA, if_neg nA, if_neg nC, eA, eC, Option.bind_some, Option.bind_some]
  unfold tSum
  by_cases h : mx = my
  · rw [if_pos (by rw [h]; simp), if_pos h]; rfl
  · rw [if_neg (by simpa using h), if_neg h]
    by_cases e : A = C
    · rw [if_pos e, if_pos (by unfold cmpI; split <;> (try split) <;> omega)]
      unfold l3S
      rw [ln_zero]
    · rw [if_neg e, if_neg (by unfold cmpI; split <;> (try split) <;> omega)]
      by_cases g : C < A
      · rw [if_pos g, if_pos (by unfold cmpI; split <;> (try split) <;> omega)]
        have : r02_Sub.f (ln A) (ln C) = some (ln (A - C)) := evF_eq (sub_ev hB hA (y := C) (by omega))
        rw [this]; rfl
      · rw [if_neg g, if_neg (by unfold cmpI; split <;> (try split) <;> omega)]
        have : r02_Sub.f (ln C) (ln A) = some (ln (C - A)) := evF_eq (sub_ev hB hC (y := A) (by omega))
        rw [this]; rfl
theorem ref_sum (hB : B ≤ 1000000) (hB2 : 130000 ≤ B) (mx : Bool) (ex : Int) (sx : Nat) (my : Bool) (ey : Int) (sy : Nat) (m : Int) (hx : sx < 2 ^ 128) (hy : sy < 2 ^ 128) (f0 : -5000 ≤ ex) (f1 : ex ≤ 5000) (g0 : -5000 ≤ ey) (g1 : ey ≤ 5000) :
    ref05_Sum.f mx ex (ln sx) my ey (ln sy) m = some (l3S (sSum mx ex sx my ey sy m)) := by
  have big0 : ∀ s : Nat, s < 2 ^ 128 → s < 65536 ^ B := fun s hs => by
    have := big hB2 hs (show 0 ≤ 10000 by omega)
    rw [Nat.pow_zero, Nat.mul_one] at this
    exact this
  have w0 : ∀ e : Int, wrap64 (e - e) = 0 := fun e => by unfold wrap64; omega
  have s0 : ∀ s : Nat, s < 2 ^ 128 → r02_Shl.f (ln s) 0 = some (ln s) := fun s hs => by
    have := rshl hB hB2 (s := s) (n := 0) hs (by omega) (by omega)
    rw [Int.toNat_zero, Nat.pow_zero, Nat.mul_one] at this
    exact this
  have wx : ∀ a b : Int, -5000 ≤ a → a ≤ 5000 → -5000 ≤ b → b ≤ 5000 → wrap64 (a - b) = a - b := fun a b _ _ _ _ => by unfold wrap64; omega
  by_cases zx : sx = 0
  · have Lx : (((List.length (ln sx) : Nat) : Int) = 0) = True := eq_true (llen_nil.2 zx)
    have Px : (((List.length (ln sx) : Nat) : Int) > 0) = False := eq_false (fun h => llen_pos.1 h zx)
    by_cases zy : sy = 0
    · have Ly : (((List.length (ln sy) : Nat) : Int) = 0) = True := eq_true (llen_nil.2 zy)
      unfold ref05_Sum.f ref05_Sum.j1
      simp only [Lx, Ly, if_true]
      unfold sSum l3S
      rw [if_pos zx, if_pos zy]
      by_cases h : mx = my
      · rw [if_neg (by rw [h]; simp), if_pos h, ln_zero]
      · rw [if_pos (by simp [h]), if_neg h, ln_zero]
    · have Ly : (((List.length (ln sy) : Nat) : Int) = 0) = False := eq_false (fun h => zy (llen_nil.1 h))
      have Py : (((List.length (ln sy) : Nat) : Int) > 0) = True := eq_true (llen_pos.2 zy)
      have eA : r02_Add.f [] (ln sy) = some (ln sy) := by
        have := add_ev hB (x := 0) (y := sy) (big0 0 (by decide)) (big0 _ hy)
        rw [Nat.zero_add, ln_zero] at this
        exact evF_eq this
      unfold ref05_Sum.f ref05_Sum.j2
      simp only [Lx, Ly, Px, Py, if_true, if_false, w0, s0 sy hy, Option.bind_some, eA, ite_self]
      unfold sSum l3S
      rw [if_pos zx, if_neg zy]
  · have Lx : (((List.length (ln sx) : Nat) : Int) = 0) = False := eq_false (fun h => zx (llen_nil.1 h))
    have Px : (((List.length (ln sx) : Nat) : Int) > 0) = True := eq_true (llen_pos.2 zx)
    by_cases zy : sy = 0
    · have Ly : (((List.length (ln sy) : Nat) : Int) = 0) = True := eq_true (llen_nil.2 zy)
      have Py : (((List.length (ln sy) : Nat) : Int) > 0) = False := eq_false (fun h => llen_pos.1 h zy)
      have eA : r02_Add.f (ln sx) [] = some (ln sx) := by
        have := add_ev hB (x := sx) (y := 0) (big0 _ hx) (big0 0 (by decide))
        rw [Nat.add_zero, ln_zero] at this
        exact evF_eq this
      unfold ref05_Sum.f ref05_Sum.j1
      simp only [Lx, Ly, Px, Py, if_true, if_false, w0, s0 sx hx, Option.bind_some, eA, ite_self]
      unfold sSum l3S
      rw [if_neg zx, if_pos zy]
    · have Ly : (((List.length (ln sy) : Nat) : Int) = 0) = False := eq_false (fun h => zy (llen_nil.1 h))
      have Py : (((List.length (ln sy) : Nat) : Int) > 0) = True := eq_true (llen_pos.2 zy)
      unfold ref05_Sum.f ref05_Sum.j0
      simp only [Lx, Ly, Px, Py, if_true, if_false]
      by_cases c : ey < ex
      · rw [if_pos c, wx ex ey f0 f1 g0 g1, w0 ey, rshl hB hB2 hx (by omega) (by omega), s0 sy hy, Option.bind_some, Option.bind_some]
        rw [tail_eq hB (big hB2 hx (by omega)) (big0 _ hy) (Nat.mul_ne_zero zx (Nat.ne_of_gt (Nat.two_pow_pos _))) zy]
        congr 2
        unfold sSum tSum
        rw [if_neg zx, if_neg zy, if_pos (show ey ≤ ex by omega)]
        by_cases h : mx = my
        · rw [if_pos h, if_pos h, h]
        · rw [if_neg h, if_neg h]
      · rw [if_neg c, wx ey ex g0 g1 f0 f1, w0 ex, rshl hB hB2 hy (by omega) (by omega), s0 sx hx, Option.bind_some, Option.bind_some]
        rw [tail_eq hB (big0 _ hx) (big hB2 hy (by omega)) zx (Nat.mul_ne_zero zy (Nat.ne_of_gt (Nat.two_pow_pos _)))]
        congr 2
        unfold sSum tSum
        rw [if_neg zx, if_neg zy]
        by_cases d : ey ≤ ex
        · have e : ey = ex := by omega
          subst e
          rw [if_pos d, Int.sub_self, Int.toNat_zero, Nat.pow_zero, Nat.mul_one, Nat.mul_one]
          by_cases h : mx = my
          · rw [if_pos h, if_pos h, h]
          · rw [if_neg h, if_neg h]
        · rw [if_neg d]
          by_cases h : mx = my
          · rw [if_pos h, if_pos h, Nat.add_comm]
          · rw [if_neg h, if_neg h]
            generalize sy * 2 ^ (ey - ex).toNat = C
            by_cases z : sx = C
            · rw [if_pos z, if_pos z.symm]
            · rw [if_neg z, if_neg (show ¬ C = sx from fun g => z g.symm)]
              by_cases y : C < sx
              · rw [if_pos y, if_neg (by omega)]
              · rw [if_neg y, if_pos (by omega)]
end
theorem rpat {p : Int} (hp : U p) : r04_Pattern.f p = some (pM p, pX p, ln (pS p).toNat) := evF_eq (pattern_ev hp)
theorem ref_fin {mx my : Bool} {ex ey : Int} {sx sy : Nat} (m : Int) (hx : sx < 2 ^ 128) (hy : sy < 2 ^ 128) (f0 : -5000 ≤ ex) (f1 : ex ≤ 5000) (g0 : -5000 ≤ ey) (g1 : ey ≤ 5000) :
    (Option.bind (ref05_Sum.f mx ex (ln sx) my ey (ln sy) m) fun q => Option.bind (r04_Round.f q.1 q.2.1 q.2.2 m) fun q => some (q.1, q.2)) = some (qSumR mx ex sx my ey sy m) := by
  obtain ⟨B, hBe⟩ : ∃ B : Nat, B = 130000 := ⟨_, rfl⟩
  have hB : B ≤ 1000000 := by omega
  have hB2 : 130000 ≤ B := by omega
  clear hBe
  obtain ⟨N, hN⟩ : ∃ N : Nat, N = 10000 := ⟨_, rfl⟩
  rw [ref_sum hB hB2 mx ex sx my ey sy m hx hy f0 f1 g0 g1, Option.bind_some]
  obtain ⟨d1, d2, d3⟩ := sSum_bd (mx := mx) (my := my) (ex := ex) (ey := ey) (sx := sx) (sy := sy) (N := N) m hx hy f0 f1 g0 g1 (by omega)
  have e2 : 2 * (2 ^ 128 * 2 ^ N) = 2 ^ (129 + N) := by rw [← Nat.pow_add, show 129 + N = 128 + N + 1 by omega, Nat.pow_succ, Nat.mul_comm]
  rw [e2] at d3
  unfold qSumR l3S
  generalize sSum mx ex sx my ey sy m = t at *
  have hbl := blen_le_iff.2 d3
  have r : r04_Round.f t.1 t.2.1 (ln t.2.2) m = some (rRound t.1 t.2.1 t.2.2 m) := evF_eq (ref_round_ev hB hB2 t.1 (e := t.2.1) (s := t.2.2) m (Nat.lt_trans d3 (pow_B hB2 (by omega))) (by omega) (by omega) (by omega))
  dsimp only
  rw [r]
  rfl
theorem rnone5 {a b : Int} (ha : U a) (hb : U b) : ref05_None.f a b = some (qNone a b).2 := by
  unfold ref05_None.f qNone
  rw [r3_Take.eq a (inU_of ha), Option.bind_some, r3_Take.eq b (inU_of hb)]
  dsimp only
  by_cases h1 : pC a = 5
  · rw [if_pos h1, if_pos (.inl h1)]
  · rw [if_neg h1, Option.bind_some]
    by_cases h2 : pC b = 5
    · rw [if_pos h2, if_pos (.inr h2)]
    · rw [if_neg h2, if_neg (fun h => h.elim h1 h2)]
theorem rbad6 {a b : Int} (ha : U a) (hb : U b) : ref06_bad.f a b = some (bad a b) := by
  have z1 := zero_iff (a := a)
  have z2 := zero_iff (a := b)
  have i1 := inf_iff (a := a)
  have i2 := inf_iff (a := b)
  unfold ref06_bad.f bad
  rw [r3_Abs.eq a (inU_of ha), Option.bind_some, r3_Abs.eq b (inU_of hb), Option.bind_some]
  by_cases h0 : pA a = 0
  · have c0 := z1.1 h0
    rw [if_pos h0]
    by_cases h1 : pA b = 9218868437227405312
    · rw [if_pos h1, decide_eq_true (.inl ⟨c0, i2.1 h1⟩)]
    · have : pC b ≠ 3 := fun h => h1 (i2.2 h)
      rw [if_neg h1]
      by_cases h2 : pA b = 0
      · rw [if_pos h2, decide_eq_false (by omega), decide_eq_false (show ¬ (pC a = 0 ∧ pC b = 3 ∨ pC a = 3 ∧ pC b = 0) by omega)]
      · rw [if_neg h2, decide_eq_false (by omega)]
  · have c0 : pC a ≠ 0 := fun h => h0 (z1.2 h)
    rw [if_neg h0]
    by_cases h2 : pA b = 0
    · have := z2.1 h2
      rw [if_pos h2]
      congr 1
      rw [Bool.eq_iff_iff]
      simp only [decide_eq_true_eq]
      rw [i1]
      omega
    · have : pC b ≠ 0 := fun h => h2 (z2.2 h)
      rw [if_neg h2, decide_eq_false (by omega)]
theorem rsig6 {p a b : Int} (h0 : 0 ≤ p) (h1 : p < 9223372036854775808) : ref06_signed.f p a b = some (p + sg (qMi a b)) := by
  have e : (!decide (a ≥ 9223372036854775808) == decide (b ≥ 9223372036854775808)) = qMi a b := by
    unfold qMi pM
    cases decide (a ≥ 9223372036854775808) <;> cases decide (b ≥ 9223372036854775808) <;> rfl
  unfold ref06_signed.f sg
  rw [e]
  cases qMi a b
  · rw [if_neg (by decide), if_neg (by decide), Int.add_zero]
  · rw [if_pos rfl, if_pos rfl]
    congr 1
    omega
theorem rexact6 {a b : Int} (ha : U a) (hb : U b) : ref06_Exact.f a b = some (qMi a b, pX a + pX b, ln ((pS a).toNat * (pS b).toNat)) := by
  obtain ⟨B, hBe⟩ : ∃ B : Nat, B = 130000 := ⟨_, rfl⟩
  have hB : B ≤ 1000000 := by omega
  have hB2 : 130000 ≤ B := by omega
  clear hBe
  have sa := pS_bd a
  have sb := pS_bd b
  have xa := pX_bd a
  have xb := pX_bd b
  have ew : wrap64 (pX a + pX b) = pX a + pX b := by unfold wrap64; omega
  have hM : r02_Mul.f (ln (pS a).toNat) (ln (pS b).toNat) = some (ln ((pS a).toNat * (pS b).toNat)) := evF_eq (mul_ev hB (x := (pS a).toNat) (y := (pS b).toNat) (small_B hB2 (by omega)) (small_B hB2 (by omega)))
  unfold ref06_Exact.f
  rw [rpat ha, rpat hb, Option.bind_some, Option.bind_some]
  dsimp only
  rw [hM, Option.bind_some, ew]
  unfold qMi
  cases pM a <;> cases pM b <;> rfl
theorem ref06_Mul.eq {a b : Int} (m : Int) (ha : U a) (hb : U b) : ref06_Mul.f a b m = some (qMul a b m) := by
  have ca := pC_bd a
  have cb := pC_bd b
  have xa := pX_bd a
  have xb := pX_bd b
  have nanj : ref06_Mul.j1 a b = some (qNone a b) := by unfold ref06_Mul.j1; rw [rnone5 ha hb]; rfl
  have infj : ref06_Mul.j0 a b = some (9218868437227405312 + sg (qMi a b), 0) := by unfold ref06_Mul.j0; rw [rsig6 (by omega) (by omega)]; rfl
  unfold ref06_Mul.f qMul
  rw [r3_NaN.eq a (inU_of ha), Option.bind_some]
  by_cases n1 : 3 < pC a
  · rw [decide_eq_true n1, if_pos rfl, if_pos (.inl n1), nanj]
  · rw [decide_eq_false n1, if_neg (by decide), r3_NaN.eq b (inU_of hb), Option.bind_some]
    by_cases n2 : 3 < pC b
    · rw [decide_eq_true n2, if_pos rfl, if_pos (.inr n2), nanj]
    · rw [decide_eq_false n2, if_neg (by decide), if_neg (fun h => h.elim n1 n2), rbad6 ha hb, Option.bind_some]
      by_cases hbad : bad a b = true
      · rw [if_pos hbad, if_pos hbad]
      · rw [if_neg hbad, if_neg hbad, r3_Abs.eq a (inU_of ha), Option.bind_some]
        by_cases i1 : pC a = 3
        · rw [if_pos (inf_iff.2 i1), if_pos (.inl i1), infj]
        · rw [if_neg (fun h => i1 (inf_iff.1 h)), r3_Abs.eq b (inU_of hb), Option.bind_some]
          by_cases i2 : pC b = 3
          · rw [if_pos (inf_iff.2 i2), if_pos (.inr i2), infj]
          · rw [if_neg (fun h => i2 (inf_iff.1 h)), if_neg (by omega), rexact6 ha hb, Option.bind_some]
            obtain ⟨B, hBe⟩ : ∃ B : Nat, B = 130000 := ⟨_, rfl⟩
            have hB : B ≤ 1000000 := by omega
            have hB2 : 130000 ≤ B := by omega
            clear hBe
            have hl := prod_lt a b
            have r : r04_Round.f (qMi a b) (pX a + pX b) (ln ((pS a).toNat * (pS b).toNat)) m = some (rRound (qMi a b) (pX a + pX b) ((pS a).toNat * (pS b).toNat) m) :=
              evF_eq (ref_round_ev hB hB2 (qMi a b) (e := pX a + pX b) (s := (pS a).toNat * (pS b).toNat) m (Nat.lt_trans hl (pow_B hB2 (by omega))) (by have := blen_le_iff.2 hl; omega) (by omega) (by omega))
            dsimp only
            rw [r]; rfl
theorem ref05_Add.eq {a b : Int} (m : Int) (ha : U a) (hb : U b) : ref05_Add.f a b m = some (qAdd a b m) := by
  have ca := pC_bd a
  have cb := pC_bd b
  have xa := pX_bd a
  have xb := pX_bd b
  have i1 := inf_iff (a := a)
  have i2 := inf_iff (a := b)
  have nanj : ref05_Add.j1 a b = some (qNone a b) := by unfold ref05_Add.j1; rw [rnone5 ha hb]; rfl
  have infj : pC a = 3 ∨ pC b = 3 → ref05_Add.j0 a b = some (if pC a = 3 ∧ pC b = 3 ∧ a ≠ b then (9221120237041090560, 1) else if pC a = 3 then (a, 0) else (b, 0)) := fun h => by
    unfold ref05_Add.j0
    rw [r3_Abs.eq a (inU_of ha), Option.bind_some, r3_Abs.eq b (inU_of hb), Option.bind_some, Option.bind_some]
    by_cases e : pA a = pA b
    · have c : pC a = 3 ∧ pC b = 3 := by
        rcases h with h | h
        · exact ⟨h, i2.1 (by rw [← e]; exact i1.2 h)⟩
        · exact ⟨i1.1 (by rw [e]; exact i2.2 h), h⟩
      rw [if_pos e, if_pos (i1.2 c.1), if_pos c.1]
      by_cases g : a = b
      · rw [if_neg (fun h => h g), if_neg (fun h => h.2.2 g)]
      · rw [if_pos g, if_pos ⟨c.1, c.2, g⟩]
    · rw [if_neg e, if_neg (show ¬ (pC a = 3 ∧ pC b = 3 ∧ a ≠ b) from fun g => e ((i1.2 g.1).trans (i2.2 g.2.1).symm))]
      by_cases c : pC a = 3
      · rw [if_pos (i1.2 c), if_pos c]
      · rw [if_neg (fun h => c (i1.1 h)), if_neg c]
  unfold ref05_Add.f qAdd
  rw [r3_NaN.eq a (inU_of ha), Option.bind_some]
  by_cases n1 : 3 < pC a
  · rw [decide_eq_true n1, if_pos rfl, if_pos (.inl n1), nanj]
  · rw [decide_eq_false n1, if_neg (by decide), r3_NaN.eq b (inU_of hb), Option.bind_some]
    by_cases n2 : 3 < pC b
    · rw [decide_eq_true n2, if_pos rfl, if_pos (.inr n2), nanj]
    · rw [decide_eq_false n2, if_neg (by decide), if_neg (fun h => h.elim n1 n2), r3_Abs.eq a (inU_of ha), Option.bind_some]
      by_cases c1 : pC a = 3
      · rw [if_pos (i1.2 c1), infj (.inl c1), if_pos c1, if_pos c1]
      · rw [if_neg (fun h => c1 (i1.1 h)), r3_Abs.eq b (inU_of hb), Option.bind_some, if_neg (show ¬ (pC a = 3 ∧ pC b = 3 ∧ a ≠ b) from fun h => c1 h.1), if_neg c1]
        by_cases c2 : pC b = 3
        · rw [if_pos (i2.2 c2), infj (.inr c2), if_neg (show ¬ (pC a = 3 ∧ pC b = 3 ∧ a ≠ b) from fun h => c1 h.1), if_neg c1, if_pos c2]
        · rw [if_neg (fun h => c2 (i2.1 h)), if_neg c2, rpat ha, rpat hb, Option.bind_some, Option.bind_some]
          dsimp only
          exact ref_fin m (pS_128 a) (pS_128 b) (by omega) (by omega) (by omega) (by omega)
def qSub (a b m : Int) : Int × Int := if 3 < pC b then qAdd a b m else qAdd a (pN b) m
theorem ref05_Sub.eq {a b : Int} (m : Int) (ha : U a) (hb : U b) : ref05_Sub.f a b m = some (qSub a b m) := by
  unfold ref05_Sub.f qSub
  rw [r3_NaN.eq b (inU_of hb), Option.bind_some]
  by_cases n : 3 < pC b
  · rw [decide_eq_true n, if_pos rfl, if_pos n, ref05_Add.eq m ha hb]; rfl
  · rw [decide_eq_false n, if_neg (by decide), if_neg n, rneg_eq hb, Option.bind_some, ref05_Add.eq m ha (U_N b hb)]; rfl
theorem mx_flags (p q : Prop) [Decidable p] [Decidable q] : (if (if q then (1 : Int) else 0) > (if p then 1 else 0) then (if q then (1 : Int) else 0) else (if p then 1 else 0)) = if p ∨ q then 1 else 0 := by
  by_cases hp : p <;> by_cases hq : q <;> simp [hp, hq]
theorem ref06_Fma.eq {a b c : Int} (m : Int) (ha : U a) (hb : U b) (hc : U c) : ref06_Fma.f a b c m = some (qFma a b c m) := by
  have ca := pC_bd a
  have cb := pC_bd b
  have cc := pC_bd c
  have xa := pX_bd a
  have xb := pX_bd b
  have xc := pX_bd c
  have nanj : ref06_Fma.j1 a b c = some (9221120237041090560, if pC a = 5 ∨ pC b = 5 ∨ pC c = 5 then 1 else 0) := by
    unfold ref06_Fma.j1
    rw [rnone5 ha hb, rnone5 hc hc, Option.bind_some, Option.bind_some]
    unfold qNone
    simp only [or_self, mx_flags, or_assoc]
  have infj : ref06_Fma.j0 a b c = some (if pC c = 3 ∧ c ≠ 9218868437227405312 + sg (qMi a b) then (9221120237041090560, 1) else (9218868437227405312 + sg (qMi a b), 0)) := by
    unfold ref06_Fma.j0
    rw [rsig6 (by omega) (by omega), Option.bind_some, r3_Abs.eq c (inU_of hc), Option.bind_some]
    by_cases i3 : pC c = 3
    · rw [if_pos (inf_iff.2 i3)]
      by_cases e : c = 9218868437227405312 + sg (qMi a b)
      · rw [if_neg (fun h => h e), if_neg (fun g => g.2 e)]
      · rw [if_pos e, if_pos ⟨i3, e⟩]
    · rw [if_neg (fun h => i3 (inf_iff.1 h)), if_neg (fun g => i3 g.1)]
  unfold ref06_Fma.f qFma
  rw [rbad6 ha hb, Option.bind_some]
  by_cases hbad : bad a b = true
  · rw [if_pos hbad, if_pos hbad]
  · rw [if_neg hbad, if_neg hbad, r3_NaN.eq a (inU_of ha), Option.bind_some]
    by_cases n1 : 3 < pC a
    · rw [decide_eq_true n1, if_pos rfl, if_pos (.inl n1), nanj]
    · rw [decide_eq_false n1, if_neg (by decide), r3_NaN.eq b (inU_of hb), Option.bind_some]
      by_cases n2 : 3 < pC b
      · rw [decide_eq_true n2, if_pos rfl, if_pos (.inr (.inl n2)), nanj]
      · rw [decide_eq_false n2, if_neg (by decide), r3_NaN.eq c (inU_of hc), Option.bind_some]
        by_cases n3 : 3 < pC c
        · rw [decide_eq_true n3, if_pos rfl, if_pos (.inr (.inr n3)), nanj]
        · rw [decide_eq_false n3, if_neg (by decide), if_neg (show ¬ (3 < pC a ∨ 3 < pC b ∨ 3 < pC c) by omega), r3_Abs.eq a (inU_of ha), Option.bind_some]
          by_cases i1 : pC a = 3
          · rw [if_pos (inf_iff.2 i1), if_pos (.inl i1), infj]
          · rw [if_neg (fun h => i1 (inf_iff.1 h)), r3_Abs.eq b (inU_of hb), Option.bind_some]
            by_cases i2 : pC b = 3
            · rw [if_pos (inf_iff.2 i2), if_pos (.inr i2), infj]
            · rw [if_neg (fun h => i2 (inf_iff.1 h)), if_neg (show ¬ (pC a = 3 ∨ pC b = 3) by omega), r3_Abs.eq c (inU_of hc), Option.bind_some]
              by_cases i3 : pC c = 3
              · rw [if_pos (inf_iff.2 i3), if_pos i3]
              · rw [if_neg (fun h => i3 (inf_iff.1 h)), if_neg i3, rexact6 ha hb, rpat hc, Option.bind_some, Option.bind_some]
                dsimp only
                exact ref_fin m (Nat.lt_trans (prod_lt a b) (by decide)) (pS_128 c) (by omega) (by omega) (by omega) (by omega)
end Go.Proofs.Ythcgeekibomhiaa
end
section
namespace Go.Proofs.Ythcgeekibomhiaa
set_option linter.unusedVariables false
set_option linter.unusedSimpArgs false
open Go.RowKit X Go.Proofs.YthcgeekibomhiaaW.PrintWords
section
variable {x y B : Nat}
theorem small_loop (hB : B ≤ 1000000) (hx : x < 65536 ^ B) (p m0 : Nat) (hp : p < 4294967296) (hm0 : m0 < 4294967296) : ∀ (d i c : Nat) (out : List Int), i + d = B + 2 → nok out → out.length = i → c < 4294967296 →
    nv out + 65536 ^ i * (c + x / 65536 ^ i * p) = x * p + m0 → Ev (fun k => r2_Small.l0 k (ln x) (p : Int) out (c : Int) (i : Int)) (ln (x * p + m0)) := by
  have wr : ∀ v : Nat, v < 18446744073709551616 → IntKind.u64.wrap (v : Int) = (v : Int) := fun v hv => by rw [IntKind.wrap_u64]; omega
  intro d
  induction d with
  | zero =>
    intro i c out hi hok hlen hc hv
    have hP : 65536 ^ i = 65536 ^ B * 65536 * 65536 := by rw [show i = B + 1 + 1 by omega, Nat.pow_succ, Nat.pow_succ]
    have h1 : ¬ 65536 ^ i ≤ x := by omega
    rw [div_zero_of h1, Nat.zero_mul, Nat.add_zero] at hv
    have hc0 : c = 0 := by
      rcases Nat.lt_or_ge 0 c with g | g
      · have g1 : 65536 ^ i * 1 ≤ 65536 ^ i * c := Nat.mul_le_mul_left _ g
        have g2 : x * p ≤ x * 4294967295 := Nat.mul_le_mul_left _ (by omega)
        omega
      · omega
    subst hc0
    refine Ev.step (f := fun k => (r2_trim.f k out).bind fun t => some t) (fun k => ?_) (trim_to hok (by omega) (by omega))
    simp only [r2_Small.l0]
    rw [if_neg (len_neg h1), if_neg (by omega)]
  | succ d ih =>
    intro i c out hi hok hlen hc hv
    have hx' := div_step x i
    generalize hX : x / 65536 ^ (i + 1) = X at *
    generalize hdx : x / 65536 ^ i % 65536 = dx at *
    have bx : dx < 65536 := by omega
    have bm : dx * p ≤ 65535 * 4294967295 := Nat.mul_le_mul (by omega) (by omega)
    generalize hm : dx * p = m at *
    have e : ((dx : Nat) : Int) * (p : Int) = (m : Int) := by rw [← hm]; push_cast; rfl
    have next := ih (i + 1) ((c + m) / 65536) (out ++ [(((c + m) % 65536 : Nat) : Int)]) (by omega) (nok_append hok (nok_one (by omega) (by omega))) (by simp [hlen]) (by omega) (by
      rw [nv_append, hlen, nv_one, Int.toNat_natCast, hX, ← hv, hx', Nat.add_assoc, pw_step]
      congr 2
      rw [Nat.add_mul, hm, Nat.mul_assoc]
      generalize X * p = Z
      omega)
    have go : (Int.tmod (IntKind.u64.wrap ((c : Int) + (IntKind.u64.wrap ((IntKind.u64.wrap ((dx : Nat) : Int)) * (IntKind.u64.wrap (p : Int)))))) 65536) % 4294967296 = (((c + m) % 65536 : Nat) : Int) := by
      rw [wr _ (by omega), wr _ (by omega), e, wr _ (by omega), ← Int.natCast_add, wr _ (by omega), Int.tmod_eq_emod_of_nonneg (by omega)]
      omega
    have go2 : IntKind.u64.wrap (Int.tdiv (IntKind.u64.wrap ((c : Int) + (IntKind.u64.wrap ((IntKind.u64.wrap ((dx : Nat) : Int)) * (IntKind.u64.wrap (p : Int)))))) 65536) = (((c + m) / 65536 : Nat) : Int) := by
      rw [wr _ (by omega), wr _ (by omega), e, wr _ (by omega), ← Int.natCast_add, wr _ (by omega), Int.tdiv_eq_ediv_of_nonneg (by omega)]
      exact wr ((c + m) / 65536) (by omega)
    by_cases h1 : 65536 ^ i ≤ x
    · refine Ev.step (fun k => ?_) next
      simp only [r2_Small.l0]
      rw [if_pos (len_pos h1), at_ln]
      simp only [Option.bind_some]
      rw [if_pos (by omega), w1 (by omega), hdx, go, go2]
    · by_cases h2 : 0 < c
      · refine Ev.step (fun k => ?_) next
        simp only [r2_Small.l0]
        rw [if_neg (len_neg h1), if_pos (by omega), at_ln]
        simp only [Option.bind_some]
        rw [if_pos (by omega), w1 (by omega), hdx, go, go2]
      · have h3 : c = 0 := by omega
        subst h3
        rw [div_zero_of h1, Nat.zero_mul, Nat.zero_add, Nat.mul_zero, Nat.add_zero] at hv
        refine Ev.step (f := fun k => (r2_trim.f k out).bind fun t => some t) (fun k => ?_) (trim_to hok (by omega) hv)
        simp only [r2_Small.l0]
        rw [if_neg (len_neg h1), if_neg (by omega)]
theorem small_ev (hB : B ≤ 1000000) (hx : x < 65536 ^ B) (p m : Nat) (hp : p < 4294967296) (hm : m < 4294967296) : Ev (fun k => r2_Small.f k (ln x) (p : Int) (m : Int)) (ln (x * p + m)) := by
  refine Ev.congr (fun k => ?_) (small_loop hB hx p m hp hm (B + 2) 0 m [] (by omega) nok_nil rfl hm (by rw [Nat.pow_zero, Nat.div_one, Nat.one_mul]; simp [nv]; omega))
  unfold r2_Small.f
  rw [show IntKind.u64.wrap (m : Int) = (m : Int) by rw [IntKind.wrap_u64]; omega]
  rfl
end
end Go.Proofs.Ythcgeekibomhiaa
end
section
namespace Go.Proofs.Ythcgeekibomhiaa
set_option linter.unusedVariables false
set_option linter.unusedSimpArgs false
open Go.RowKit X D Go.Proofs.YthcgeekibomhiaaW.PrintWords
def F32 (f : Int) : Prop := 0 ≤ f ∧ f < 32
theorem por_all : ∀ x y : Fin 32, bits .or .i64 (x.1 : Int) (y.1 : Int) = bits .or .u8 (x.1 : Int) (y.1 : Int) ∧ 0 ≤ bits .or .u8 (x.1 : Int) (y.1 : Int) ∧ bits .or .u8 (x.1 : Int) (y.1 : Int) < 32 := by decide +kernel
theorem por_fl {x y : Int} (hx : F32 x) (hy : F32 y) : bits .or .i64 x y = bits .or .u8 x y ∧ F32 (bits .or .u8 x y) := by
  have := por_all ⟨x.toNat, by unfold F32 at hx; omega⟩ ⟨y.toNat, by unfold F32 at hy; omega⟩
  rw [show ((⟨x.toNat, by unfold F32 at hx; omega⟩ : Fin 32).1 : Int) = x by unfold F32 at hx; simp; omega, show ((⟨y.toNat, by unfold F32 at hy; omega⟩ : Fin 32).1 : Int) = y by unfold F32 at hy; simp; omega] at this
  exact ⟨this.1, this.2.1, this.2.2⟩
theorem round_Fl (mi : Bool) (x : Int) (s : Nat) (m : Int) : F32 (rRound mi x s m).2 := by
  unfold F32
  by_cases hs : s = 0
  · subst hs; unfold rRound; rw [if_pos rfl]; simp
  · rw [round_eq mi x s m hs]
    split
    · simp
    · rcases rFlag_cases mi x s m with ⟨h, _⟩ | ⟨h | h, _⟩ <;> rw [h] <;> simp
theorem none_Fl (a b : Int) : F32 (qNone a b).2 := by unfold qNone F32; dsimp only; split <;> omega
theorem mul_Fl (a b m : Int) : F32 (qMul a b m).2 := by
  unfold qMul
  split
  · exact none_Fl a b
  · split
    · unfold F32; simp
    · split
      · unfold F32; simp
      · exact round_Fl _ _ _ _
theorem fma_Fl (a b c m : Int) : F32 (qFma a b c m).2 := by
  unfold qFma
  split
  · unfold F32; simp
  · split
    · unfold F32; dsimp only; split <;> omega
    · split
      · split <;> (unfold F32; simp)
      · split
        · unfold F32; simp
        · exact round_Fl _ _ _ _
theorem wrap_Fl {f : Int} (h : F32 f) : wrap64 f = f := by unfold F32 at h; unfold wrap64; omega
theorem is_eq {a b f c d g : Int} (h1 : a = c) (h2 : b = d) (h3 : f = g) (hf : F32 f) : l17_is.f a b f c d g = some true := by
  subst h1 h2 h3
  unfold l17_is.f l17_pair.f
  rw [Option.bind_some, if_pos ⟨rfl, rfl⟩, wrap_Fl hf, decide_eq_true rfl]
end Go.Proofs.Ythcgeekibomhiaa
end
