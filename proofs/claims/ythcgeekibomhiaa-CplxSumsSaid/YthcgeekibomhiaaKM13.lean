import Derived.Test.YthcgeekibomhiaaKM11
section
namespace Go.Proofs.Ythcgeekibomhiaa.D
set_option linter.unusedVariables false
set_option linter.unusedSimpArgs false
open Go Go.RowKit Go.Proofs Go.Proofs.Ythcgeekibomhiaa.Den X
noncomputable def ref17_Add.f (a0 : Int) (a1 : Int) (a2 : Int) (a3 : Int) : Option (Int × Int × Int) :=
  Option.bind (ref05_Add.f a0 a2 0) fun q => Option.bind (ref05_Add.f a1 a3 0) fun q_1 => some (q.1, q_1.1, bits .or .i64 q.2 q_1.2)
noncomputable abbrev ref17_Add.c : Codec (Int × Int × Int) := (Ty.codec (.tup [.agg [.int .u64, .int .u64], .b (.int .i64)])).map (γ := Int × Int × Int) (fun y => (y.1.1, y.1.2, y.2)) (fun z => ((z.1, z.2.1), z.2.2)) (fun _ => rfl)
theorem ref17_Add.g : Den.Good Try.prog 18 [.agg [.int .u64, .int .u64], .agg [.int .u64, .int .u64]] ref17_Add.c.enc (fun x => ref17_Add.f x.1.1 x.1.2 x.2.1 x.2.2) := good hm k69 Try.func18 (by kernel_rfl) ref17_Add.c (fun x => by kernel_rfl)
noncomputable abbrev t70 : List (Nat × Entry) := (18, entry [.agg [.int .u64, .int .u64], .agg [.int .u64, .int .u64]] ref17_Add.c.enc (fun x => ref17_Add.f x.1.1 x.1.2 x.2.1 x.2.2)) :: t69
theorem k70 : TblOK Try.prog (tbl t70) := .cons (ref17_Add.g.entry) k69
noncomputable def ref17_Sub.f (a0 : Int) (a1 : Int) (a2 : Int) (a3 : Int) : Option (Int × Int × Int) :=
  Option.bind (ref05_Sub.f a0 a2 0) fun q => Option.bind (ref05_Sub.f a1 a3 0) fun q_1 => some (q.1, q_1.1, bits .or .i64 q.2 q_1.2)
noncomputable abbrev ref17_Sub.c : Codec (Int × Int × Int) := (Ty.codec (.tup [.agg [.int .u64, .int .u64], .b (.int .i64)])).map (γ := Int × Int × Int) (fun y => (y.1.1, y.1.2, y.2)) (fun z => ((z.1, z.2.1), z.2.2)) (fun _ => rfl)
theorem ref17_Sub.g : Den.Good Try.prog 20 [.agg [.int .u64, .int .u64], .agg [.int .u64, .int .u64]] ref17_Sub.c.enc (fun x => ref17_Sub.f x.1.1 x.1.2 x.2.1 x.2.2) := good hm k70 Try.func20 (by kernel_rfl) ref17_Sub.c (fun x => by kernel_rfl)
noncomputable abbrev t71 : List (Nat × Entry) := (20, entry [.agg [.int .u64, .int .u64], .agg [.int .u64, .int .u64]] ref17_Sub.c.enc (fun x => ref17_Sub.f x.1.1 x.1.2 x.2.1 x.2.2)) :: t70
theorem k71 : TblOK Try.prog (tbl t71) := .cons (ref17_Sub.g.entry) k70
noncomputable def l17_Sums.f (a0 : Int) (a1 : Int) (a2 : Int) (a3 : Int) : Option (Bool) :=
  Option.bind (l17_pair.f a0 a1) fun q => Option.bind (l17_pair.f a2 a3) fun q_1 => Option.bind (cplx_Add.f q.1 q.2 q_1.1 q_1.2) fun q => Option.bind (ref17_Add.f a0 a1 a2 a3) fun q_2 => Option.bind (l17_pair.f a0 a1) fun q_3 => Option.bind (l17_pair.f a2 a3) fun q_4 => Option.bind (cplx_Sub.f q_3.1 q_3.2 q_4.1 q_4.2) fun q_5 => Option.bind (ref17_Sub.f a0 a1 a2 a3) fun q_6 => Option.bind (l17_is.f q.1 q.2.1 q.2.2 q_2.1 q_2.2.1 q_2.2.2) fun q => if q = true then Option.bind (l17_is.f q_5.1 q_5.2.1 q_5.2.2 q_6.1 q_6.2.1 q_6.2.2) fun q => if q = true then Option.bind l17_sure.f fun q => if q = true then some true else some false else some false else some false
noncomputable abbrev l17_Sums.c : Codec (Bool) := Ty.codec (.one (.b .bool))
theorem l17_Sums.g : Den.Good Try.prog 5 [.agg [.int .u64, .int .u64], .agg [.int .u64, .int .u64]] l17_Sums.c.enc (fun x => l17_Sums.f x.1.1 x.1.2 x.2.1 x.2.2) := good hm k71 Try.func5 (by kernel_rfl) l17_Sums.c (fun x => by kernel_rfl)
noncomputable abbrev t72 : List (Nat × Entry) := (5, entryB [.agg [.int .u64, .int .u64], .agg [.int .u64, .int .u64]] (fun x => l17_Sums.f x.1.1 x.1.2 x.2.1 x.2.2)) :: t71
theorem k72 : TblOK Try.prog (tbl t72) := .cons (l17_Sums.g.entryB) k71
end Go.Proofs.Ythcgeekibomhiaa.D
end
section
namespace Go.Proofs.Ythcgeekibomhiaa
set_option linter.unusedVariables false
set_option linter.unusedSimpArgs false
open Go.RowKit X D Go.Proofs.YthcgeekibomhiaaW.PrintWords
theorem sub_spec {a b : Int} (m : Int) (ha : U a) (hb : U b) : sums_Sub.f a b m = some (qSub a b m) := by
  unfold sums_Sub.f qSub
  rw [pat_IsNaN.eq b (inU_of hb), Option.bind_some]
  by_cases n : 3 < pC b
  · rw [decide_eq_true n, if_pos rfl, if_pos n, add_spec m ha hb]; rfl
  · rw [decide_eq_false n, if_neg (by decide), if_neg n, pat_Neg.eq b (inU_of hb), Option.bind_some, add_spec m ha (U_N b hb)]; rfl
theorem sub_Fl (a b m : Int) : F32 (qSub a b m).2 := by unfold qSub; split <;> exact add_Fl _ _ _
theorem CplxSums (a b c d : Int) (ha : U a) (hb : U b) (hc : U c) (hd : U d) : l17_Sums.f a b c d = some true := by
  obtain ⟨e1, k1⟩ := por_fl (add_Fl a c 0) (add_Fl b d 0)
  obtain ⟨e2, k2⟩ := por_fl (sub_Fl a c 0) (sub_Fl b d 0)
  unfold l17_Sums.f l17_pair.f ref17_Add.f ref17_Sub.f cplx_Add.f cplx_Sub.f cplx_bothAdd.f cplx_bothSub.f
  simp only [Option.bind_some, add_spec 0 ha hc, add_spec 0 hb hd, sub_spec 0 ha hc, sub_spec 0 hb hd, ref05_Add.eq 0 ha hc, ref05_Add.eq 0 hb hd, ref05_Sub.eq 0 ha hc, ref05_Sub.eq 0 hb hd, csure, e1, e2, is_eq rfl rfl rfl k1, is_eq rfl rfl rfl k2, if_true]
end Go.Proofs.Ythcgeekibomhiaa
end
