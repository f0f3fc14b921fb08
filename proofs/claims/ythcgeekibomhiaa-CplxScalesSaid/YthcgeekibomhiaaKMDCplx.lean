import Derived.Test.YthcgeekibomhiaaProg
import Derived.Test.YthcgeekibomhiaaKMDenM
import Derived.Test.YthcgeekibomhiaaKM6
namespace Go.Proofs.Ythcgeekibomhiaa.D
set_option linter.unusedVariables false
set_option linter.unusedSimpArgs false
open Go Go.RowKit Go.Proofs Go.Proofs.Ythcgeekibomhiaa.Den X
theorem hm : Try.prog.follows .mixedOrders = true := by kernel_rfl
noncomputable abbrev t0 : List (Nat × Entry) := []
theorem k0 : TblOK Try.prog (tbl t0) := .nil
theorem wide_Of.g : Den.Good Try.prog 66 [vu] (β := Int × Int × Int × Int) (fun y => .agg [.v (.int .u64 y.1), .v (.int .u64 y.2.1), .v (.int .u64 y.2.2.1), .v (.int .u64 y.2.2.2)]) (fun x => wide_Of.f x) := of_calls Try.func66 (by kernel_rfl) rfl (fun _ => rfl) fun x y w h => wide_Of.calls x y.1 y.2.1 y.2.2.1 y.2.2.2 w h
noncomputable abbrev t1 : List (Nat × Entry) := (66, entry [vu] (β := Int × Int × Int × Int) (fun y => .agg [.v (.int .u64 y.1), .v (.int .u64 y.2.1), .v (.int .u64 y.2.2.1), .v (.int .u64 y.2.2.2)]) (fun x => wide_Of.f x)) :: t0
theorem k1 : TblOK Try.prog (tbl t1) := .cons (wide_Of.g.entry) k0
theorem wide_Add.g : Den.Good Try.prog 100 [vW, vW] (β := Int × Int × Int × Int × Bool) (fun y => .tup [.agg [.v (.int .u64 y.1), .v (.int .u64 y.2.1), .v (.int .u64 y.2.2.1), .v (.int .u64 y.2.2.2.1)], .v (.bool y.2.2.2.2)]) (fun x => wide_Add.f x.1.1 x.1.2.1 x.1.2.2.1 x.1.2.2.2 x.2.1 x.2.2.1 x.2.2.2.1 x.2.2.2.2) := of_calls Try.func100 (by kernel_rfl) rfl (fun _ => rfl) fun x y w h => wide_Add.calls x.1.1 x.1.2.1 x.1.2.2.1 x.1.2.2.2 x.2.1 x.2.2.1 x.2.2.2.1 x.2.2.2.2 y.1 y.2.1 y.2.2.1 y.2.2.2.1 y.2.2.2.2 w h
noncomputable abbrev t2 : List (Nat × Entry) := (100, entry [vW, vW] (β := Int × Int × Int × Int × Bool) (fun y => .tup [.agg [.v (.int .u64 y.1), .v (.int .u64 y.2.1), .v (.int .u64 y.2.2.1), .v (.int .u64 y.2.2.2.1)], .v (.bool y.2.2.2.2)]) (fun x => wide_Add.f x.1.1 x.1.2.1 x.1.2.2.1 x.1.2.2.2 x.2.1 x.2.2.1 x.2.2.2.1 x.2.2.2.2)) :: t1
theorem k2 : TblOK Try.prog (tbl t2) := .cons (wide_Add.g.entry) k1
theorem wide_Sub.g : Den.Good Try.prog 96 [vW, vW] (β := Int × Int × Int × Int × Bool) (fun y => .tup [.agg [.v (.int .u64 y.1), .v (.int .u64 y.2.1), .v (.int .u64 y.2.2.1), .v (.int .u64 y.2.2.2.1)], .v (.bool y.2.2.2.2)]) (fun x => wide_Sub.f x.1.1 x.1.2.1 x.1.2.2.1 x.1.2.2.2 x.2.1 x.2.2.1 x.2.2.2.1 x.2.2.2.2) := of_calls Try.func96 (by kernel_rfl) rfl (fun _ => rfl) fun x y w h => wide_Sub.calls x.1.1 x.1.2.1 x.1.2.2.1 x.1.2.2.2 x.2.1 x.2.2.1 x.2.2.2.1 x.2.2.2.2 y.1 y.2.1 y.2.2.1 y.2.2.2.1 y.2.2.2.2 w h
noncomputable abbrev t3 : List (Nat × Entry) := (96, entry [vW, vW] (β := Int × Int × Int × Int × Bool) (fun y => .tup [.agg [.v (.int .u64 y.1), .v (.int .u64 y.2.1), .v (.int .u64 y.2.2.1), .v (.int .u64 y.2.2.2.1)], .v (.bool y.2.2.2.2)]) (fun x => wide_Sub.f x.1.1 x.1.2.1 x.1.2.2.1 x.1.2.2.2 x.2.1 x.2.2.1 x.2.2.2.1 x.2.2.2.2)) :: t2
theorem k3 : TblOK Try.prog (tbl t3) := .cons (wide_Sub.g.entry) k2
theorem wide_Mul.g : Den.Good Try.prog 83 [vW, vW] (β := Int × Int × Int × Int × Int × Int × Int × Int) (fun y => .tup [.agg [.v (.int .u64 y.1), .v (.int .u64 y.2.1), .v (.int .u64 y.2.2.1), .v (.int .u64 y.2.2.2.1)], .agg [.v (.int .u64 y.2.2.2.2.1), .v (.int .u64 y.2.2.2.2.2.1), .v (.int .u64 y.2.2.2.2.2.2.1), .v (.int .u64 y.2.2.2.2.2.2.2)]]) (fun x => wide_Mul.f x.1.1 x.1.2.1 x.1.2.2.1 x.1.2.2.2 x.2.1 x.2.2.1 x.2.2.2.1 x.2.2.2.2) := of_calls Try.func83 (by kernel_rfl) rfl (fun _ => rfl) fun x y w h => wide_Mul.calls x.1.1 x.1.2.1 x.1.2.2.1 x.1.2.2.2 x.2.1 x.2.2.1 x.2.2.2.1 x.2.2.2.2 y.1 y.2.1 y.2.2.1 y.2.2.2.1 y.2.2.2.2.1 y.2.2.2.2.2.1 y.2.2.2.2.2.2.1 y.2.2.2.2.2.2.2 w h
noncomputable abbrev t4 : List (Nat × Entry) := (83, entry [vW, vW] (β := Int × Int × Int × Int × Int × Int × Int × Int) (fun y => .tup [.agg [.v (.int .u64 y.1), .v (.int .u64 y.2.1), .v (.int .u64 y.2.2.1), .v (.int .u64 y.2.2.2.1)], .agg [.v (.int .u64 y.2.2.2.2.1), .v (.int .u64 y.2.2.2.2.2.1), .v (.int .u64 y.2.2.2.2.2.2.1), .v (.int .u64 y.2.2.2.2.2.2.2)]]) (fun x => wide_Mul.f x.1.1 x.1.2.1 x.1.2.2.1 x.1.2.2.2 x.2.1 x.2.2.1 x.2.2.2.1 x.2.2.2.2)) :: t3
theorem k4 : TblOK Try.prog (tbl t4) := .cons (wide_Mul.g.entry) k3
theorem wide_Cmp.g : Den.Good Try.prog 108 [vW, vW] (β := Int) (fun y => .v (.int .i64 y)) (fun x => wide_Cmp.f x.1.1 x.1.2.1 x.1.2.2.1 x.1.2.2.2 x.2.1 x.2.2.1 x.2.2.2.1 x.2.2.2.2) := of_calls Try.func108 (by kernel_rfl) rfl (fun _ => rfl) fun x y w h => wide_Cmp.calls x.1.1 x.1.2.1 x.1.2.2.1 x.1.2.2.2 x.2.1 x.2.2.1 x.2.2.2.1 x.2.2.2.2 y w h
noncomputable abbrev t5 : List (Nat × Entry) := (108, entry [vW, vW] (β := Int) (fun y => .v (.int .i64 y)) (fun x => wide_Cmp.f x.1.1 x.1.2.1 x.1.2.2.1 x.1.2.2.2 x.2.1 x.2.2.1 x.2.2.2.1 x.2.2.2.2)) :: t4
theorem k5 : TblOK Try.prog (tbl t5) := .cons (wide_Cmp.g.entry) k4
theorem wide_Len.g : Den.Good Try.prog 78 [vW] (β := Int) (fun y => .v (.int .i64 y)) (fun x => wide_Len.f x.1 x.2.1 x.2.2.1 x.2.2.2) := of_calls Try.func78 (by kernel_rfl) rfl (fun _ => rfl) fun x y w h => wide_Len.calls x.1 x.2.1 x.2.2.1 x.2.2.2 y w h
noncomputable abbrev t6 : List (Nat × Entry) := (78, entry [vW] (β := Int) (fun y => .v (.int .i64 y)) (fun x => wide_Len.f x.1 x.2.1 x.2.2.1 x.2.2.2)) :: t5
theorem k6 : TblOK Try.prog (tbl t6) := .cons (wide_Len.g.entry) k5
theorem wide_Shl.g : Den.Good Try.prog 65 [vW, vi] (β := Int × Int × Int × Int) (fun y => .agg [.v (.int .u64 y.1), .v (.int .u64 y.2.1), .v (.int .u64 y.2.2.1), .v (.int .u64 y.2.2.2)]) (fun x => wide_Shl.f x.1.1 x.1.2.1 x.1.2.2.1 x.1.2.2.2 x.2) := of_calls Try.func65 (by kernel_rfl) rfl (fun _ => rfl) fun x y w h => wide_Shl.calls x.1.1 x.1.2.1 x.1.2.2.1 x.1.2.2.2 x.2 y.1 y.2.1 y.2.2.1 y.2.2.2 w h
noncomputable abbrev t7 : List (Nat × Entry) := (65, entry [vW, vi] (β := Int × Int × Int × Int) (fun y => .agg [.v (.int .u64 y.1), .v (.int .u64 y.2.1), .v (.int .u64 y.2.2.1), .v (.int .u64 y.2.2.2)]) (fun x => wide_Shl.f x.1.1 x.1.2.1 x.1.2.2.1 x.1.2.2.2 x.2)) :: t6
theorem k7 : TblOK Try.prog (tbl t7) := .cons (wide_Shl.g.entry) k6
theorem wide_Shr.g : Den.Good Try.prog 81 [vW, vi] (β := Int × Int × Int × Int × Bool) (fun y => .tup [.agg [.v (.int .u64 y.1), .v (.int .u64 y.2.1), .v (.int .u64 y.2.2.1), .v (.int .u64 y.2.2.2.1)], .v (.bool y.2.2.2.2)]) (fun x => wide_Shr.f x.1.1 x.1.2.1 x.1.2.2.1 x.1.2.2.2 x.2) := of_calls Try.func81 (by kernel_rfl) rfl (fun _ => rfl) fun x y w h => wide_Shr.calls x.1.1 x.1.2.1 x.1.2.2.1 x.1.2.2.2 x.2 y.1 y.2.1 y.2.2.1 y.2.2.2.1 y.2.2.2.2 w h
noncomputable abbrev t8 : List (Nat × Entry) := (81, entry [vW, vi] (β := Int × Int × Int × Int × Bool) (fun y => .tup [.agg [.v (.int .u64 y.1), .v (.int .u64 y.2.1), .v (.int .u64 y.2.2.1), .v (.int .u64 y.2.2.2.1)], .v (.bool y.2.2.2.2)]) (fun x => wide_Shr.f x.1.1 x.1.2.1 x.1.2.2.1 x.1.2.2.2 x.2)) :: t7
theorem k8 : TblOK Try.prog (tbl t8) := .cons (wide_Shr.g.entry) k7
theorem pat_Take.g : Den.Good Try.prog 62 [vu] (β := Bool × Int × Int × Int) (fun y => .agg [.v (.bool y.1), .v (.int .i64 y.2.1), .v (.int .i64 y.2.2.1), .v (.int .u64 y.2.2.2)]) (fun x => pat_Take.f x) := of_calls Try.func62 (by kernel_rfl) rfl (fun _ => rfl) fun x y w h => pat_Take.calls x y.1 y.2.1 y.2.2.1 y.2.2.2 w h
noncomputable abbrev t9 : List (Nat × Entry) := (62, entry [vu] (β := Bool × Int × Int × Int) (fun y => .agg [.v (.bool y.1), .v (.int .i64 y.2.1), .v (.int .i64 y.2.2.1), .v (.int .u64 y.2.2.2)]) (fun x => pat_Take.f x)) :: t8
theorem k9 : TblOK Try.prog (tbl t9) := .cons (pat_Take.g.entry) k8
theorem pat_IsNaN.g : Den.Good Try.prog 41 [vu] (β := Bool) encB (fun x => pat_IsNaN.f x) := of_calls Try.func41 (by kernel_rfl) rfl (fun _ => rfl) fun x y w h => pat_IsNaN.calls x y w h
noncomputable abbrev t10 : List (Nat × Entry) := (41, entryB [vu] (fun x => pat_IsNaN.f x)) :: t9
theorem k10 : TblOK Try.prog (tbl t10) := .cons (pat_IsNaN.g.entryB) k9
theorem pat_Finite.g : Den.Good Try.prog 44 [vu] (β := Bool) encB (fun x => pat_Finite.f x) := of_calls Try.func44 (by kernel_rfl) rfl (fun _ => rfl) fun x y w h => pat_Finite.calls x y w h
noncomputable abbrev t11 : List (Nat × Entry) := (44, entryB [vu] (fun x => pat_Finite.f x)) :: t10
theorem k11 : TblOK Try.prog (tbl t11) := .cons (pat_Finite.g.entryB) k10
theorem pat_Class.g : Den.Good Try.prog 60 [vu] (β := Int) (fun y => .v (.int .i64 y)) (fun x => pat_Class.f x) := of_calls Try.func60 (by kernel_rfl) rfl (fun _ => rfl) fun x y w h => pat_Class.calls x y w h
noncomputable abbrev t12 : List (Nat × Entry) := (60, entry [vu] (β := Int) (fun y => .v (.int .i64 y)) (fun x => pat_Class.f x)) :: t11
theorem k12 : TblOK Try.prog (tbl t12) := .cons (pat_Class.g.entry) k11
theorem pat_Abs.g : Den.Good Try.prog 73 [vu] (β := Int) (fun y => .v (.int .u64 y)) (fun x => pat_Abs.f x) := of_calls Try.func73 (by kernel_rfl) rfl (fun _ => rfl) fun x y w h => pat_Abs.calls x y w h
noncomputable abbrev t13 : List (Nat × Entry) := (73, entry [vu] (β := Int) (fun y => .v (.int .u64 y)) (fun x => pat_Abs.f x)) :: t12
theorem k13 : TblOK Try.prog (tbl t13) := .cons (pat_Abs.g.entry) k12
theorem pat_Neg.g : Den.Good Try.prog 30 [vu] (β := Int) (fun y => .v (.int .u64 y)) (fun x => pat_Neg.f x) := of_calls Try.func30 (by kernel_rfl) rfl (fun _ => rfl) fun x y w h => pat_Neg.calls x y w h
noncomputable abbrev t14 : List (Nat × Entry) := (30, entry [vu] (β := Int) (fun y => .v (.int .u64 y)) (fun x => pat_Neg.f x)) :: t13
theorem k14 : TblOK Try.prog (tbl t14) := .cons (pat_Neg.g.entry) k13
theorem rnd_Of.g : Den.Good Try.prog 48 [vu] (β := Bool × Int × Int × Int × Int × Int × Bool × Option Int) (fun y => .tup [.agg [.v (.bool y.1), .v (.int .i64 y.2.1), .v (.int .u64 y.2.2.1), .v (.int .u64 y.2.2.2.1), .v (.int .u64 y.2.2.2.2.1), .v (.int .u64 y.2.2.2.2.2.1), .v (.bool y.2.2.2.2.2.2.1)], .err 112 .i64 y.2.2.2.2.2.2.2]) (fun x => rnd_Of.f x) := of_calls Try.func48 (by kernel_rfl) rfl (fun _ => rfl) fun x y w h => rnd_Of.calls x y.1 y.2.1 y.2.2.1 y.2.2.2.1 y.2.2.2.2.1 y.2.2.2.2.2.1 y.2.2.2.2.2.2.1 y.2.2.2.2.2.2.2 w h
noncomputable abbrev t15 : List (Nat × Entry) := (48, entry [vu] (β := Bool × Int × Int × Int × Int × Int × Bool × Option Int) (fun y => .tup [.agg [.v (.bool y.1), .v (.int .i64 y.2.1), .v (.int .u64 y.2.2.1), .v (.int .u64 y.2.2.2.1), .v (.int .u64 y.2.2.2.2.1), .v (.int .u64 y.2.2.2.2.2.1), .v (.bool y.2.2.2.2.2.2.1)], .err 112 .i64 y.2.2.2.2.2.2.2]) (fun x => rnd_Of.f x)) :: t14
theorem k15 : TblOK Try.prog (tbl t15) := .cons (rnd_Of.g.entry) k14
theorem rnd_Round.g : Den.Good Try.prog 46 [vN, vi] (β := Int × Int) (fun y => .tup [.v (.int .u64 y.1), .v (.int .u8 y.2)]) (fun x => rnd_Round.f x.1.1 x.1.2.1 x.1.2.2.1 x.1.2.2.2.1 x.1.2.2.2.2.1 x.1.2.2.2.2.2.1 x.1.2.2.2.2.2.2 x.2) := of_calls Try.func46 (by kernel_rfl) rfl (fun _ => rfl) fun x y w h => rnd_Round.calls x.1.1 x.1.2.1 x.1.2.2.1 x.1.2.2.2.1 x.1.2.2.2.2.1 x.1.2.2.2.2.2.1 x.1.2.2.2.2.2.2 x.2 y.1 y.2 w h
noncomputable abbrev t16 : List (Nat × Entry) := (46, entry [vN, vi] (β := Int × Int) (fun y => .tup [.v (.int .u64 y.1), .v (.int .u8 y.2)]) (fun x => rnd_Round.f x.1.1 x.1.2.1 x.1.2.2.1 x.1.2.2.2.1 x.1.2.2.2.2.1 x.1.2.2.2.2.2.1 x.1.2.2.2.2.2.2 x.2)) :: t15
theorem k16 : TblOK Try.prog (tbl t16) := .cons (rnd_Round.g.entry) k15
def prod_sign.f (a0 : Int) (a1 : Int) : Option (Int) :=
  some (bits .and .u64 (bits .xor .u64 a0 a1) 9223372036854775808)
noncomputable abbrev prod_sign.c : Codec (Int) := Ty.codec (.one vu)
theorem prod_sign.g : Den.Good Try.prog 45 [vu, vu] prod_sign.c.enc (fun x => prod_sign.f x.1 x.2) := good hm k16 Try.func45 (by kernel_rfl) prod_sign.c (fun x => by kernel_rfl)
noncomputable abbrev t17 : List (Nat × Entry) := (45, entry [vu, vu] prod_sign.c.enc (fun x => prod_sign.f x.1 x.2)) :: t16
theorem k17 : TblOK Try.prog (tbl t17) := .cons (prod_sign.g.entry) k16
def prod_nothing.f (a0 : Int) (a1 : Int) : Option (Bool) :=
  Option.bind (pat_Abs.f a0) fun q => Option.bind (pat_Abs.f a1) fun q_1 => if q = 0 then if q_1 = 9218868437227405312 then some true else if q = 9218868437227405312 then some (decide (q_1 = 0)) else some false else if q = 9218868437227405312 then some (decide (q_1 = 0)) else some false
noncomputable abbrev prod_nothing.c : Codec (Bool) := Ty.codec (.one vb)
theorem prod_nothing.g : Den.Good Try.prog 43 [vu, vu] prod_nothing.c.enc (fun x => prod_nothing.f x.1 x.2) := good hm k17 Try.func43 (by kernel_rfl) prod_nothing.c (fun x => by kernel_rfl)
noncomputable abbrev t18 : List (Nat × Entry) := (43, entryB [vu, vu] (fun x => prod_nothing.f x.1 x.2)) :: t17
theorem k18 : TblOK Try.prog (tbl t18) := .cons (prod_nothing.g.entryB) k17
def prod_loud2.f (a0 : Int) (a1 : Int) : Option (Int) :=
  Option.bind (pat_Class.f a0) fun q => if q = 5 then some 1 else Option.bind (pat_Class.f a1) fun q => if q = 5 then some 1 else some 0
noncomputable abbrev prod_loud2.c : Codec (Int) := Ty.codec (.one v8)
theorem prod_loud2.g : Den.Good Try.prog 42 [.b (.ro2 .u64)] prod_loud2.c.enc (fun x => prod_loud2.f x.1 x.2) := good hm k18 Try.func42 (by kernel_rfl) prod_loud2.c (fun x => by kernel_rfl)
noncomputable abbrev t19 : List (Nat × Entry) := (42, entry [.b (.ro2 .u64)] prod_loud2.c.enc (fun x => prod_loud2.f x.1 x.2)) :: t18
theorem k19 : TblOK Try.prog (tbl t19) := .cons (prod_loud2.g.entry) k18
def prod_loud3.f (a0 : Int) (a1 : Int) (a2 : Int) : Option (Int) :=
  Option.bind (pat_Class.f a0) fun q => if q = 5 then some 1 else Option.bind (pat_Class.f a1) fun q => if q = 5 then some 1 else Option.bind (pat_Class.f a2) fun q => if q = 5 then some 1 else some 0
noncomputable abbrev prod_loud3.c : Codec (Int) := Ty.codec (.one v8)
theorem prod_loud3.g : Den.Good Try.prog 42 [.b (.ro3 .u64)] prod_loud3.c.enc (fun x => prod_loud3.f x.1 x.2.1 x.2.2) := good hm k19 Try.func42 (by kernel_rfl) prod_loud3.c (fun x => by kernel_rfl)
noncomputable abbrev t20 : List (Nat × Entry) := (42, entry [.b (.ro3 .u64)] prod_loud3.c.enc (fun x => prod_loud3.f x.1 x.2.1 x.2.2)) :: t19
theorem k20 : TblOK Try.prog (tbl t20) := .cons (prod_loud3.g.entry) k19
def prod_exact.f (a0 : Int) (a1 : Int) : Option (Bool × Int × Int × Int × Int × Int × Bool) :=
  Option.bind (pat_Take.f a0) fun q => Option.bind (pat_Take.f a1) fun q_1 => Option.bind (wide_Of.f q.2.2.2) fun q_2 => Option.bind (wide_Of.f q_1.2.2.2) fun q_3 => Option.bind (wide_Mul.f q_2.1 q_2.2.1 q_2.2.2.1 q_2.2.2.2 q_3.1 q_3.2.1 q_3.2.2.1 q_3.2.2.2) fun q_4 => some (!q.1 == q_1.1, wrap64 (q.2.2.1 + q_1.2.2.1), q_4.1, q_4.2.1, q_4.2.2.1, q_4.2.2.2.1, false)
noncomputable abbrev prod_exact.c : Codec (Bool × Int × Int × Int × Int × Int × Bool) := Ty.codec (.one vN)
theorem prod_exact.g : Den.Good Try.prog 47 [vu, vu] prod_exact.c.enc (fun x => prod_exact.f x.1 x.2) := good hm k20 Try.func47 (by kernel_rfl) prod_exact.c (fun x => by kernel_rfl)
noncomputable abbrev t21 : List (Nat × Entry) := (47, entry [vu, vu] prod_exact.c.enc (fun x => prod_exact.f x.1 x.2)) :: t20
theorem k21 : TblOK Try.prog (tbl t21) := .cons (prod_exact.g.entry) k20
def prod_Mul.j0 (a0 : Int) (a1 : Int) : Option (Int × Int) :=
  Option.bind (prod_sign.f a0 a1) fun q => some (bits .or .u64 9218868437227405312 q, 0)
def prod_Mul.j1 (a0 : Int) (a1 : Int) : Option (Int × Int) :=
  Option.bind (prod_loud2.f a0 a1) fun q => some (9221120237041090560, q)
def prod_Mul.f (a0 : Int) (a1 : Int) (a2 : Int) : Option (Int × Int) :=
  Option.bind (pat_IsNaN.f a0) fun q => if q = true then prod_Mul.j1 a0 a1 else Option.bind (pat_IsNaN.f a1) fun q => if q = true then prod_Mul.j1 a0 a1 else Option.bind (prod_nothing.f a0 a1) fun q => if q = true then some (9221120237041090560, 1) else Option.bind (pat_Finite.f a0) fun q => if q = true then Option.bind (pat_Finite.f a1) fun q => if q = true then Option.bind (prod_exact.f a0 a1) fun q => Option.bind (rnd_Round.f q.1 q.2.1 q.2.2.1 q.2.2.2.1 q.2.2.2.2.1 q.2.2.2.2.2.1 q.2.2.2.2.2.2 a2) fun q => some (q.1, q.2) else prod_Mul.j0 a0 a1 else prod_Mul.j0 a0 a1
noncomputable abbrev prod_Mul.c : Codec (Int × Int) := Ty.codec (.tup [vu, v8])
theorem prod_Mul.g : Den.Good Try.prog 28 [vu, vu, vi] prod_Mul.c.enc (fun x => prod_Mul.f x.1 x.2.1 x.2.2) := good hm k21 Try.func28 (by kernel_rfl) prod_Mul.c (fun x => by kernel_rfl)
noncomputable abbrev t22 : List (Nat × Entry) := (28, entry [vu, vu, vi] prod_Mul.c.enc (fun x => prod_Mul.f x.1 x.2.1 x.2.2)) :: t21
theorem k22 : TblOK Try.prog (tbl t22) := .cons (prod_Mul.g.entry) k21
def sums_nought.f (a0 : Bool) (a1 : Bool) (a2 : Int) : Option (Bool × Int × Int × Int × Int × Int × Bool) :=
  if (a0 == a1) = true then some (a0, 0, 0, 0, 0, 0, false) else some (decide (a2 = 4), 0, 0, 0, 0, 0, false)
noncomputable abbrev sums_nought.c : Codec (Bool × Int × Int × Int × Int × Int × Bool) := Ty.codec (.one vN)
theorem sums_nought.g : Den.Good Try.prog 93 [vb, vb, vi] sums_nought.c.enc (fun x => sums_nought.f x.1 x.2.1 x.2.2) := good hm k22 Try.func93 (by kernel_rfl) sums_nought.c (fun x => by kernel_rfl)
noncomputable abbrev t23 : List (Nat × Entry) := (93, entry [vb, vb, vi] sums_nought.c.enc (fun x => sums_nought.f x.1 x.2.1 x.2.2)) :: t22
theorem k23 : TblOK Try.prog (tbl t23) := .cons (sums_nought.g.entry) k22
def sums_right.f (a0 : Bool) (a1 : Int) (a2 : Int) (a3 : Int) (a4 : Int) (a5 : Int) (a6 : Bool) : Option (Bool) :=
  Option.bind (wide_Len.f a2 a3 a4 a5) fun q => if q ≤ 128 then if (!a6) = true then if a1 ≥ -100000 then some (decide (a1 ≤ 100000)) else some false else some false else some false
noncomputable abbrev sums_right.c : Codec (Bool) := Ty.codec (.one vb)
theorem sums_right.g : Den.Good Try.prog 84 [vN] sums_right.c.enc (fun x => sums_right.f x.1 x.2.1 x.2.2.1 x.2.2.2.1 x.2.2.2.2.1 x.2.2.2.2.2.1 x.2.2.2.2.2.2) := good hm k23 Try.func84 (by kernel_rfl) sums_right.c (fun x => by kernel_rfl)
noncomputable abbrev t24 : List (Nat × Entry) := (84, entryB [vN] (fun x => sums_right.f x.1 x.2.1 x.2.2.1 x.2.2.2.1 x.2.2.2.2.1 x.2.2.2.2.2.1 x.2.2.2.2.2.2)) :: t23
theorem k24 : TblOK Try.prog (tbl t24) := .cons (sums_right.g.entryB) k23
def sums_beside.f (a0 : Bool) (a1 : Int) (a2 : Int) (a3 : Int) (a4 : Int) (a5 : Int) (a6 : Bool) (a7 : Bool) (a8 : Int) (a9 : Int) (a10 : Int) (a11 : Int) (a12 : Int) (a13 : Bool) : Option (Bool × Int × Int × Int × Int × Int × Bool) :=
  Option.bind (wide_Len.f a2 a3 a4 a5) fun q => Option.bind (wide_Shr.f a9 a10 a11 a12 (wrap64 (wrap64 (a1 - wrap64 (250 - q)) - a8))) fun q_1 => Option.bind (wide_Shl.f a2 a3 a4 a5 (wrap64 (250 - q))) fun q_2 => if (a0 == a7) = true then Option.bind (wide_Add.f q_2.1 q_2.2.1 q_2.2.2.1 q_2.2.2.2 q_1.1 q_1.2.1 q_1.2.2.1 q_1.2.2.2.1) fun q_3 => some (a0, wrap64 (a1 - wrap64 (250 - q)), q_3.1, q_3.2.1, q_3.2.2.1, q_3.2.2.2.1, q_1.2.2.2.2) else Option.bind (wide_Sub.f q_2.1 q_2.2.1 q_2.2.2.1 q_2.2.2.2 q_1.1 q_1.2.1 q_1.2.2.1 q_1.2.2.2.1) fun q_3 => if q_1.2.2.2.2 = true then Option.bind (wide_Of.f 1) fun q_4 => Option.bind (wide_Sub.f q_3.1 q_3.2.1 q_3.2.2.1 q_3.2.2.2.1 q_4.1 q_4.2.1 q_4.2.2.1 q_4.2.2.2) fun q_5 => some (a0, wrap64 (a1 - wrap64 (250 - q)), q_5.1, q_5.2.1, q_5.2.2.1, q_5.2.2.2.1, q_1.2.2.2.2) else some (a0, wrap64 (a1 - wrap64 (250 - q)), q_3.1, q_3.2.1, q_3.2.2.1, q_3.2.2.2.1, q_1.2.2.2.2)
noncomputable abbrev sums_beside.c : Codec (Bool × Int × Int × Int × Int × Int × Bool) := Ty.codec (.one vN)
theorem sums_beside.g : Den.Good Try.prog 95 [vN, vN] sums_beside.c.enc (fun x => sums_beside.f x.1.1 x.1.2.1 x.1.2.2.1 x.1.2.2.2.1 x.1.2.2.2.2.1 x.1.2.2.2.2.2.1 x.1.2.2.2.2.2.2 x.2.1 x.2.2.1 x.2.2.2.1 x.2.2.2.2.1 x.2.2.2.2.2.1 x.2.2.2.2.2.2.1 x.2.2.2.2.2.2.2) := good hm k24 Try.func95 (by kernel_rfl) sums_beside.c (fun x => by kernel_rfl)
noncomputable abbrev t25 : List (Nat × Entry) := (95, entry [vN, vN] sums_beside.c.enc (fun x => sums_beside.f x.1.1 x.1.2.1 x.1.2.2.1 x.1.2.2.2.1 x.1.2.2.2.2.1 x.1.2.2.2.2.2.1 x.1.2.2.2.2.2.2 x.2.1 x.2.2.1 x.2.2.2.1 x.2.2.2.2.1 x.2.2.2.2.2.1 x.2.2.2.2.2.2.1 x.2.2.2.2.2.2.2)) :: t24
theorem k25 : TblOK Try.prog (tbl t25) := .cons (sums_beside.g.entry) k24
def sums_aligned.f (a0 : Bool) (a1 : Int) (a2 : Int) (a3 : Int) (a4 : Int) (a5 : Int) (a6 : Bool) (a7 : Bool) (a8 : Int) (a9 : Int) (a10 : Int) (a11 : Int) (a12 : Int) (a13 : Bool) (a14 : Int) : Option (Bool × Int × Int × Int × Int × Int × Bool) :=
  Option.bind (wide_Shl.f a2 a3 a4 a5 (wrap64 (a1 - a8))) fun q => if (a0 == a7) = true then Option.bind (wide_Add.f q.1 q.2.1 q.2.2.1 q.2.2.2 a9 a10 a11 a12) fun q => some (a7, a8, q.1, q.2.1, q.2.2.1, q.2.2.2.1, a13) else Option.bind (wide_Cmp.f q.1 q.2.1 q.2.2.1 q.2.2.2 a9 a10 a11 a12) fun q_1 => if q_1 = 0 then Option.bind (sums_nought.f false true a14) fun q => some (q.1, q.2.1, q.2.2.1, q.2.2.2.1, q.2.2.2.2.1, q.2.2.2.2.2.1, q.2.2.2.2.2.2) else if q_1 = 1 then Option.bind (wide_Sub.f q.1 q.2.1 q.2.2.1 q.2.2.2 a9 a10 a11 a12) fun q => some (a0, a8, q.1, q.2.1, q.2.2.1, q.2.2.2.1, a6) else Option.bind (wide_Sub.f a9 a10 a11 a12 q.1 q.2.1 q.2.2.1 q.2.2.2) fun q => some (a7, a8, q.1, q.2.1, q.2.2.1, q.2.2.2.1, a13)
noncomputable abbrev sums_aligned.c : Codec (Bool × Int × Int × Int × Int × Int × Bool) := Ty.codec (.one vN)
theorem sums_aligned.g : Den.Good Try.prog 94 [vN, vN, vi] sums_aligned.c.enc (fun x => sums_aligned.f x.1.1 x.1.2.1 x.1.2.2.1 x.1.2.2.2.1 x.1.2.2.2.2.1 x.1.2.2.2.2.2.1 x.1.2.2.2.2.2.2 x.2.1.1 x.2.1.2.1 x.2.1.2.2.1 x.2.1.2.2.2.1 x.2.1.2.2.2.2.1 x.2.1.2.2.2.2.2.1 x.2.1.2.2.2.2.2.2 x.2.2) := good hm k25 Try.func94 (by kernel_rfl) sums_aligned.c (fun x => by kernel_rfl)
noncomputable abbrev t26 : List (Nat × Entry) := (94, entry [vN, vN, vi] sums_aligned.c.enc (fun x => sums_aligned.f x.1.1 x.1.2.1 x.1.2.2.1 x.1.2.2.2.1 x.1.2.2.2.2.1 x.1.2.2.2.2.2.1 x.1.2.2.2.2.2.2 x.2.1.1 x.2.1.2.1 x.2.1.2.2.1 x.2.1.2.2.2.1 x.2.1.2.2.2.2.1 x.2.1.2.2.2.2.2.1 x.2.1.2.2.2.2.2.2 x.2.2)) :: t25
theorem k26 : TblOK Try.prog (tbl t26) := .cons (sums_aligned.g.entry) k25
def sums_join.j0 (a0 : Bool) (a1 : Int) (a2 : Int) (a3 : Int) (a4 : Int) (a5 : Int) (a6 : Bool) (a7 : Bool) (a8 : Int) (a9 : Int) (a10 : Int) (a11 : Int) (a12 : Int) (a13 : Bool) (a14 : Int) : Option (Bool × Int × Int × Int × Int × Int × Bool) :=
  if a2 = 0 ∧ a3 = 0 ∧ a4 = 0 ∧ a5 = 0 then some (a7, a8, a9, a10, a11, a12, a13) else if a9 = 0 ∧ a10 = 0 ∧ a11 = 0 ∧ a12 = 0 then some (a0, a1, a2, a3, a4, a5, a6) else if a1 < a8 then Option.bind (wide_Len.f a9 a10 a11 a12) fun q => if wrap64 (wrap64 (q + a8) - a1) < 250 then Option.bind (sums_aligned.f a7 a8 a9 a10 a11 a12 a13 a0 a1 a2 a3 a4 a5 a6 a14) fun q => some (q.1, q.2.1, q.2.2.1, q.2.2.2.1, q.2.2.2.2.1, q.2.2.2.2.2.1, q.2.2.2.2.2.2) else Option.bind (sums_beside.f a7 a8 a9 a10 a11 a12 a13 a0 a1 a2 a3 a4 a5 a6) fun q => some (q.1, q.2.1, q.2.2.1, q.2.2.2.1, q.2.2.2.2.1, q.2.2.2.2.2.1, q.2.2.2.2.2.2) else Option.bind (wide_Len.f a2 a3 a4 a5) fun q => if wrap64 (wrap64 (q + a1) - a8) < 250 then Option.bind (sums_aligned.f a0 a1 a2 a3 a4 a5 a6 a7 a8 a9 a10 a11 a12 a13 a14) fun q => some (q.1, q.2.1, q.2.2.1, q.2.2.2.1, q.2.2.2.2.1, q.2.2.2.2.2.1, q.2.2.2.2.2.2) else Option.bind (sums_beside.f a0 a1 a2 a3 a4 a5 a6 a7 a8 a9 a10 a11 a12 a13) fun q => some (q.1, q.2.1, q.2.2.1, q.2.2.2.1, q.2.2.2.2.1, q.2.2.2.2.2.1, q.2.2.2.2.2.2)
def sums_join.f (a0 : Bool) (a1 : Int) (a2 : Int) (a3 : Int) (a4 : Int) (a5 : Int) (a6 : Bool) (a7 : Bool) (a8 : Int) (a9 : Int) (a10 : Int) (a11 : Int) (a12 : Int) (a13 : Bool) (a14 : Int) : Option (Bool × Int × Int × Int × Int × Int × Bool) :=
  if a2 = 0 ∧ a3 = 0 ∧ a4 = 0 ∧ a5 = 0 then if a9 = 0 ∧ a10 = 0 ∧ a11 = 0 ∧ a12 = 0 then Option.bind (sums_nought.f a0 a7 a14) fun q => some (q.1, q.2.1, q.2.2.1, q.2.2.2.1, q.2.2.2.2.1, q.2.2.2.2.2.1, q.2.2.2.2.2.2) else sums_join.j0 a0 a1 a2 a3 a4 a5 a6 a7 a8 a9 a10 a11 a12 a13 a14 else sums_join.j0 a0 a1 a2 a3 a4 a5 a6 a7 a8 a9 a10 a11 a12 a13 a14
noncomputable abbrev sums_join.c : Codec (Bool × Int × Int × Int × Int × Int × Bool) := Ty.codec (.one vN)
theorem sums_join.g : Den.Good Try.prog 61 [vN, vN, vi] sums_join.c.enc (fun x => sums_join.f x.1.1 x.1.2.1 x.1.2.2.1 x.1.2.2.2.1 x.1.2.2.2.2.1 x.1.2.2.2.2.2.1 x.1.2.2.2.2.2.2 x.2.1.1 x.2.1.2.1 x.2.1.2.2.1 x.2.1.2.2.2.1 x.2.1.2.2.2.2.1 x.2.1.2.2.2.2.2.1 x.2.1.2.2.2.2.2.2 x.2.2) := good hm k26 Try.func61 (by kernel_rfl) sums_join.c (fun x => by kernel_rfl)
noncomputable abbrev t27 : List (Nat × Entry) := (61, entry [vN, vN, vi] sums_join.c.enc (fun x => sums_join.f x.1.1 x.1.2.1 x.1.2.2.1 x.1.2.2.2.1 x.1.2.2.2.2.1 x.1.2.2.2.2.2.1 x.1.2.2.2.2.2.2 x.2.1.1 x.2.1.2.1 x.2.1.2.2.1 x.2.1.2.2.2.1 x.2.1.2.2.2.2.1 x.2.1.2.2.2.2.2.1 x.2.1.2.2.2.2.2.2 x.2.2)) :: t26
theorem k27 : TblOK Try.prog (tbl t27) := .cons (sums_join.g.entry) k26
def sums_Exact.f (a0 : Bool) (a1 : Int) (a2 : Int) (a3 : Int) (a4 : Int) (a5 : Int) (a6 : Bool) (a7 : Bool) (a8 : Int) (a9 : Int) (a10 : Int) (a11 : Int) (a12 : Int) (a13 : Bool) (a14 : Int) : Option (Bool × Int × Int × Int × Int × Int × Bool × Option Int) :=
  Option.bind (sums_right.f a0 a1 a2 a3 a4 a5 a6) fun q => if q = true then Option.bind (sums_right.f a7 a8 a9 a10 a11 a12 a13) fun q => if q = true then Option.bind (sums_join.f a0 a1 a2 a3 a4 a5 a6 a7 a8 a9 a10 a11 a12 a13 a14) fun q => some (q.1, q.2.1, q.2.2.1, q.2.2.2.1, q.2.2.2.2.1, q.2.2.2.2.2.1, q.2.2.2.2.2.2, none) else some (false, 0, 0, 0, 0, 0, false, some 1) else some (false, 0, 0, 0, 0, 0, false, some 1)
noncomputable abbrev sums_Exact.c : Codec (Bool × Int × Int × Int × Int × Int × Bool × Option Int) := (Ty.codec (.tup [vN, .b (.err 112 .i64)])).map (γ := Bool × Int × Int × Int × Int × Int × Bool × Option Int) (fun y => (y.1.1, y.1.2.1, y.1.2.2.1, y.1.2.2.2.1, y.1.2.2.2.2.1, y.1.2.2.2.2.2.1, y.1.2.2.2.2.2.2, y.2)) (fun z => ((z.1, z.2.1, z.2.2.1, z.2.2.2.1, z.2.2.2.2.1, z.2.2.2.2.2.1, z.2.2.2.2.2.2.1), z.2.2.2.2.2.2.2)) (fun _ => rfl)
theorem sums_Exact.g : Den.Good Try.prog 49 [vN, vN, vi] sums_Exact.c.enc (fun x => sums_Exact.f x.1.1 x.1.2.1 x.1.2.2.1 x.1.2.2.2.1 x.1.2.2.2.2.1 x.1.2.2.2.2.2.1 x.1.2.2.2.2.2.2 x.2.1.1 x.2.1.2.1 x.2.1.2.2.1 x.2.1.2.2.2.1 x.2.1.2.2.2.2.1 x.2.1.2.2.2.2.2.1 x.2.1.2.2.2.2.2.2 x.2.2) := good hm k27 Try.func49 (by kernel_rfl) sums_Exact.c (fun x => by kernel_rfl)
noncomputable abbrev t28 : List (Nat × Entry) := (49, entry [vN, vN, vi] sums_Exact.c.enc (fun x => sums_Exact.f x.1.1 x.1.2.1 x.1.2.2.1 x.1.2.2.2.1 x.1.2.2.2.2.1 x.1.2.2.2.2.2.1 x.1.2.2.2.2.2.2 x.2.1.1 x.2.1.2.1 x.2.1.2.2.1 x.2.1.2.2.2.1 x.2.1.2.2.2.2.1 x.2.1.2.2.2.2.2.1 x.2.1.2.2.2.2.2.2 x.2.2)) :: t27
theorem k28 : TblOK Try.prog (tbl t28) := .cons (sums_Exact.g.entry) k27
def sums_none.f (a0 : Int) (a1 : Int) : Option (Int × Int) :=
  Option.bind (pat_Class.f a0) fun q => if q = 5 then some (9221120237041090560, 1) else Option.bind (pat_Class.f a1) fun q => if q = 5 then some (9221120237041090560, 1) else some (9221120237041090560, 0)
noncomputable abbrev sums_none.c : Codec (Int × Int) := Ty.codec (.tup [vu, v8])
theorem sums_none.g : Den.Good Try.prog 59 [.b (.ro2 .u64)] sums_none.c.enc (fun x => sums_none.f x.1 x.2) := good hm k28 Try.func59 (by kernel_rfl) sums_none.c (fun x => by kernel_rfl)
noncomputable abbrev t29 : List (Nat × Entry) := (59, entry [.b (.ro2 .u64)] sums_none.c.enc (fun x => sums_none.f x.1 x.2)) :: t28
theorem k29 : TblOK Try.prog (tbl t29) := .cons (sums_none.g.entry) k28
def sums_Add.j0 (a0 : Int) (a1 : Int) (a2 : Int) : Option (Int × Int) :=
  Option.bind (pat_Class.f a0) fun q => if q = 3 then some (a0, 0) else Option.bind (pat_Class.f a1) fun q => if q = 3 then some (a1, 0) else Option.bind (rnd_Of.f a0) fun q => Option.bind (rnd_Of.f a1) fun q_1 => if ¬Option.isNone q.2.2.2.2.2.2.2 = true then Option.bind (sums_none.f a0 a1) fun q => some (q.1, q.2) else if ¬Option.isNone q_1.2.2.2.2.2.2.2 = true then Option.bind (sums_none.f a0 a1) fun q => some (q.1, q.2) else Option.bind (sums_join.f q.1 q.2.1 q.2.2.1 q.2.2.2.1 q.2.2.2.2.1 q.2.2.2.2.2.1 q.2.2.2.2.2.2.1 q_1.1 q_1.2.1 q_1.2.2.1 q_1.2.2.2.1 q_1.2.2.2.2.1 q_1.2.2.2.2.2.1 q_1.2.2.2.2.2.2.1 a2) fun q => Option.bind (rnd_Round.f q.1 q.2.1 q.2.2.1 q.2.2.2.1 q.2.2.2.2.1 q.2.2.2.2.2.1 q.2.2.2.2.2.2 a2) fun q => some (q.1, q.2)
def sums_Add.j1 (a0 : Int) (a1 : Int) : Option (Int × Int) :=
  Option.bind (sums_none.f a0 a1) fun q => some (q.1, q.2)
def sums_Add.f (a0 : Int) (a1 : Int) (a2 : Int) : Option (Int × Int) :=
  Option.bind (pat_IsNaN.f a0) fun q => if q = true then sums_Add.j1 a0 a1 else Option.bind (pat_IsNaN.f a1) fun q => if q = true then sums_Add.j1 a0 a1 else Option.bind (pat_Class.f a0) fun q => if q = 3 then Option.bind (pat_Class.f a1) fun q => if q = 3 then if ¬a0 = a1 then some (9221120237041090560, 1) else sums_Add.j0 a0 a1 a2 else sums_Add.j0 a0 a1 a2 else sums_Add.j0 a0 a1 a2
noncomputable abbrev sums_Add.c : Codec (Int × Int) := Ty.codec (.tup [vu, v8])
theorem sums_Add.g : Den.Good Try.prog 35 [vu, vu, vi] sums_Add.c.enc (fun x => sums_Add.f x.1 x.2.1 x.2.2) := good hm k29 Try.func35 (by kernel_rfl) sums_Add.c (fun x => by kernel_rfl)
noncomputable abbrev t30 : List (Nat × Entry) := (35, entry [vu, vu, vi] sums_Add.c.enc (fun x => sums_Add.f x.1 x.2.1 x.2.2)) :: t29
theorem k30 : TblOK Try.prog (tbl t30) := .cons (sums_Add.g.entry) k29
def sums_Sub.f (a0 : Int) (a1 : Int) (a2 : Int) : Option (Int × Int) :=
  Option.bind (pat_IsNaN.f a1) fun q => if q = true then Option.bind (sums_Add.f a0 a1 a2) fun q => some (q.1, q.2) else Option.bind (pat_Neg.f a1) fun q => Option.bind (sums_Add.f a0 q a2) fun q => some (q.1, q.2)
noncomputable abbrev sums_Sub.c : Codec (Int × Int) := Ty.codec (.tup [vu, v8])
theorem sums_Sub.g : Den.Good Try.prog 37 [vu, vu, vi] sums_Sub.c.enc (fun x => sums_Sub.f x.1 x.2.1 x.2.2) := good hm k30 Try.func37 (by kernel_rfl) sums_Sub.c (fun x => by kernel_rfl)
noncomputable abbrev t31 : List (Nat × Entry) := (37, entry [vu, vu, vi] sums_Sub.c.enc (fun x => sums_Sub.f x.1 x.2.1 x.2.2)) :: t30
theorem k31 : TblOK Try.prog (tbl t31) := .cons (sums_Sub.g.entry) k30
def prod_Fma.j0 (a0 : Int) (a1 : Int) (a2 : Int) : Option (Int × Int) :=
  Option.bind (prod_loud3.f a0 a1 a2) fun q => some (9221120237041090560, q)
def prod_Fma.f (a0 : Int) (a1 : Int) (a2 : Int) (a3 : Int) : Option (Int × Int) :=
  Option.bind (prod_sign.f a0 a1) fun q => Option.bind (prod_nothing.f a0 a1) fun q_1 => if q_1 = true then some (9221120237041090560, 1) else Option.bind (pat_IsNaN.f a0) fun q_2 => if q_2 = true then prod_Fma.j0 a0 a1 a2 else Option.bind (pat_IsNaN.f a1) fun q_3 => if q_3 = true then prod_Fma.j0 a0 a1 a2 else Option.bind (pat_IsNaN.f a2) fun q_4 => if q_4 = true then prod_Fma.j0 a0 a1 a2 else Option.bind (pat_Finite.f a0) fun q_5 => if q_5 = true then Option.bind (pat_Finite.f a1) fun q_6 => if q_6 = true then Option.bind (pat_Finite.f a2) fun q => if q = true then Option.bind (rnd_Of.f a2) fun q => if ¬Option.isNone q.2.2.2.2.2.2.2 = true then some (9221120237041090560, 1) else Option.bind (prod_exact.f a0 a1) fun q_7 => Option.bind (sums_Exact.f q_7.1 q_7.2.1 q_7.2.2.1 q_7.2.2.2.1 q_7.2.2.2.2.1 q_7.2.2.2.2.2.1 q_7.2.2.2.2.2.2 q.1 q.2.1 q.2.2.1 q.2.2.2.1 q.2.2.2.2.1 q.2.2.2.2.2.1 q.2.2.2.2.2.2.1 a3) fun q => if ¬Option.isNone q.2.2.2.2.2.2.2 = true then some (9221120237041090560, 1) else Option.bind (rnd_Round.f q.1 q.2.1 q.2.2.1 q.2.2.2.1 q.2.2.2.2.1 q.2.2.2.2.2.1 q.2.2.2.2.2.2.1 a3) fun q => some (q.1, q.2) else some (a2, 0) else Option.bind (sums_Add.f (bits .or .u64 9218868437227405312 q) a2 a3) fun q => some (q.1, q.2) else Option.bind (sums_Add.f (bits .or .u64 9218868437227405312 q) a2 a3) fun q => some (q.1, q.2)
noncomputable abbrev prod_Fma.c : Codec (Int × Int) := Ty.codec (.tup [vu, v8])
theorem prod_Fma.g : Den.Good Try.prog 29 [vu, vu, vu, vi] prod_Fma.c.enc (fun x => prod_Fma.f x.1 x.2.1 x.2.2.1 x.2.2.2) := good hm k31 Try.func29 (by kernel_rfl) prod_Fma.c (fun x => by kernel_rfl)
noncomputable abbrev t32 : List (Nat × Entry) := (29, entry [vu, vu, vu, vi] prod_Fma.c.enc (fun x => prod_Fma.f x.1 x.2.1 x.2.2.1 x.2.2.2)) :: t31
theorem k32 : TblOK Try.prog (tbl t32) := .cons (prod_Fma.g.entry) k31
def cplx_Mul.f (a0 : Int) (a1 : Int) (a2 : Int) (a3 : Int) : Option (Int × Int × Int) :=
  Option.bind (prod_Mul.f a1 a3 0) fun q => Option.bind (pat_Neg.f q.1) fun q_1 => Option.bind (prod_Fma.f a0 a2 q_1 0) fun q_2 => Option.bind (prod_Mul.f a1 a2 0) fun q_3 => Option.bind (prod_Fma.f a0 a3 q_3.1 0) fun q_4 => some (q_2.1, q_4.1, bits .or .u8 (bits .or .u8 (bits .or .u8 q.2 q_2.2) q_3.2) q_4.2)
noncomputable abbrev cplx_Mul.c : Codec (Int × Int × Int) := (Ty.codec (.tup [vP, v8])).map (γ := Int × Int × Int) (fun y => (y.1.1, y.1.2, y.2)) (fun z => ((z.1, z.2.1), z.2.2)) (fun _ => rfl)
theorem cplx_Mul.g : Den.Good Try.prog 8 [vP, vP] cplx_Mul.c.enc (fun x => cplx_Mul.f x.1.1 x.1.2 x.2.1 x.2.2) := good hm k32 Try.func8 (by kernel_rfl) cplx_Mul.c (fun x => by kernel_rfl)
noncomputable abbrev t33 : List (Nat × Entry) := (8, entry [vP, vP] cplx_Mul.c.enc (fun x => cplx_Mul.f x.1.1 x.1.2 x.2.1 x.2.2)) :: t32
theorem k33 : TblOK Try.prog (tbl t33) := .cons (cplx_Mul.g.entry) k32
def cplx_Conj.f (a0 : Int) (a1 : Int) : Option (Int × Int) :=
  Option.bind (pat_Neg.f a1) fun q => some (a0, q)
noncomputable abbrev cplx_Conj.c : Codec (Int × Int) := Ty.codec (.one vP)
theorem cplx_Conj.g : Den.Good Try.prog 15 [vP] cplx_Conj.c.enc (fun x => cplx_Conj.f x.1 x.2) := good hm k33 Try.func15 (by kernel_rfl) cplx_Conj.c (fun x => by kernel_rfl)
noncomputable abbrev t34 : List (Nat × Entry) := (15, entry [vP] cplx_Conj.c.enc (fun x => cplx_Conj.f x.1 x.2)) :: t33
theorem k34 : TblOK Try.prog (tbl t34) := .cons (cplx_Conj.g.entry) k33
def cplx_Turn.f (a0 : Int) (a1 : Int) (a2 : Bool) : Option (Int × Int) :=
  if a2 = true then Option.bind (pat_Neg.f a0) fun q => some (a1, q) else Option.bind (pat_Neg.f a1) fun q => some (q, a0)
noncomputable abbrev cplx_Turn.c : Codec (Int × Int) := Ty.codec (.one vP)
theorem cplx_Turn.g : Den.Good Try.prog 13 [vP, vb] cplx_Turn.c.enc (fun x => cplx_Turn.f x.1.1 x.1.2 x.2) := good hm k34 Try.func13 (by kernel_rfl) cplx_Turn.c (fun x => by kernel_rfl)
noncomputable abbrev t35 : List (Nat × Entry) := (13, entry [vP, vb] cplx_Turn.c.enc (fun x => cplx_Turn.f x.1.1 x.1.2 x.2)) :: t34
theorem k35 : TblOK Try.prog (tbl t35) := .cons (cplx_Turn.g.entry) k34
def cplx_bothAdd.f (a0 : Int) (a1 : Int) (a2 : Int) (a3 : Int) : Option (Int × Int × Int) :=
  Option.bind (sums_Add.f a0 a2 0) fun q => Option.bind (sums_Add.f a1 a3 0) fun q_1 => some (q.1, q_1.1, bits .or .u8 q.2 q_1.2)
noncomputable abbrev cplx_bothAdd.c : Codec (Int × Int × Int) := (Ty.codec (.tup [vP, v8])).map (γ := Int × Int × Int) (fun y => (y.1.1, y.1.2, y.2)) (fun z => ((z.1, z.2.1), z.2.2)) (fun _ => rfl)
theorem cplx_bothAdd.g : Den.Good Try.prog 34 [.b (.fn 35), vP, vP] cplx_bothAdd.c.enc (fun x => cplx_bothAdd.f x.2.1.1 x.2.1.2 x.2.2.1 x.2.2.2) := good hm k35 Try.func34 (by kernel_rfl) cplx_bothAdd.c (fun x => by kernel_rfl)
noncomputable abbrev t36 : List (Nat × Entry) := (34, entry [.b (.fn 35), vP, vP] cplx_bothAdd.c.enc (fun x => cplx_bothAdd.f x.2.1.1 x.2.1.2 x.2.2.1 x.2.2.2)) :: t35
theorem k36 : TblOK Try.prog (tbl t36) := .cons (cplx_bothAdd.g.entry) k35
def cplx_bothSub.f (a0 : Int) (a1 : Int) (a2 : Int) (a3 : Int) : Option (Int × Int × Int) :=
  Option.bind (sums_Sub.f a0 a2 0) fun q => Option.bind (sums_Sub.f a1 a3 0) fun q_1 => some (q.1, q_1.1, bits .or .u8 q.2 q_1.2)
noncomputable abbrev cplx_bothSub.c : Codec (Int × Int × Int) := (Ty.codec (.tup [vP, v8])).map (γ := Int × Int × Int) (fun y => (y.1.1, y.1.2, y.2)) (fun z => ((z.1, z.2.1), z.2.2)) (fun _ => rfl)
theorem cplx_bothSub.g : Den.Good Try.prog 34 [.b (.fn 37), vP, vP] cplx_bothSub.c.enc (fun x => cplx_bothSub.f x.2.1.1 x.2.1.2 x.2.2.1 x.2.2.2) := good hm k36 Try.func34 (by kernel_rfl) cplx_bothSub.c (fun x => by kernel_rfl)
noncomputable abbrev t37 : List (Nat × Entry) := (34, entry [.b (.fn 37), vP, vP] cplx_bothSub.c.enc (fun x => cplx_bothSub.f x.2.1.1 x.2.1.2 x.2.2.1 x.2.2.2)) :: t36
theorem k37 : TblOK Try.prog (tbl t37) := .cons (cplx_bothSub.g.entry) k36
def cplx_Add.f (a0 : Int) (a1 : Int) (a2 : Int) (a3 : Int) : Option (Int × Int × Int) :=
  Option.bind (cplx_bothAdd.f a0 a1 a2 a3) fun q => some (q.1, q.2.1, q.2.2)
noncomputable abbrev cplx_Add.c : Codec (Int × Int × Int) := (Ty.codec (.tup [vP, v8])).map (γ := Int × Int × Int) (fun y => (y.1.1, y.1.2, y.2)) (fun z => ((z.1, z.2.1), z.2.2)) (fun _ => rfl)
theorem cplx_Add.g : Den.Good Try.prog 17 [vP, vP] cplx_Add.c.enc (fun x => cplx_Add.f x.1.1 x.1.2 x.2.1 x.2.2) := good hm k37 Try.func17 (by kernel_rfl) cplx_Add.c (fun x => by kernel_rfl)
noncomputable abbrev t38 : List (Nat × Entry) := (17, entry [vP, vP] cplx_Add.c.enc (fun x => cplx_Add.f x.1.1 x.1.2 x.2.1 x.2.2)) :: t37
theorem k38 : TblOK Try.prog (tbl t38) := .cons (cplx_Add.g.entry) k37
def cplx_Sub.f (a0 : Int) (a1 : Int) (a2 : Int) (a3 : Int) : Option (Int × Int × Int) :=
  Option.bind (cplx_bothSub.f a0 a1 a2 a3) fun q => some (q.1, q.2.1, q.2.2)
noncomputable abbrev cplx_Sub.c : Codec (Int × Int × Int) := (Ty.codec (.tup [vP, v8])).map (γ := Int × Int × Int) (fun y => (y.1.1, y.1.2, y.2)) (fun z => ((z.1, z.2.1), z.2.2)) (fun _ => rfl)
theorem cplx_Sub.g : Den.Good Try.prog 19 [vP, vP] cplx_Sub.c.enc (fun x => cplx_Sub.f x.1.1 x.1.2 x.2.1 x.2.2) := good hm k38 Try.func19 (by kernel_rfl) cplx_Sub.c (fun x => by kernel_rfl)
noncomputable abbrev t39 : List (Nat × Entry) := (19, entry [vP, vP] cplx_Sub.c.enc (fun x => cplx_Sub.f x.1.1 x.1.2 x.2.1 x.2.2)) :: t38
theorem k39 : TblOK Try.prog (tbl t39) := .cons (cplx_Sub.g.entry) k38
def ref03_Neg.f (a0 : Int) : Option (Int) :=
  if a0 ≥ 9223372036854775808 then some ((a0 - 9223372036854775808) % 18446744073709551616) else some ((a0 + 9223372036854775808) % 18446744073709551616)
noncomputable abbrev ref03_Neg.c : Codec (Int) := Ty.codec (.one vu)
theorem ref03_Neg.g : Den.Good Try.prog 33 [vu] ref03_Neg.c.enc (fun x => ref03_Neg.f x) := good hm k39 Try.func33 (by kernel_rfl) ref03_Neg.c (fun x => by kernel_rfl)
noncomputable abbrev t40 : List (Nat × Entry) := (33, entry [vu] ref03_Neg.c.enc (fun x => ref03_Neg.f x)) :: t39
theorem k40 : TblOK Try.prog (tbl t40) := .cons (ref03_Neg.g.entry) k39
def ref17_Turn.f (a0 : Int) (a1 : Int) (a2 : Bool) : Option (Int × Int) :=
  if a2 = true then Option.bind (ref03_Neg.f a0) fun q => some (a1, q) else Option.bind (ref03_Neg.f a1) fun q => some (q, a0)
noncomputable abbrev ref17_Turn.c : Codec (Int × Int) := Ty.codec (.one vP)
theorem ref17_Turn.g : Den.Good Try.prog 14 [vP, vb] ref17_Turn.c.enc (fun x => ref17_Turn.f x.1.1 x.1.2 x.2) := good hm k40 Try.func14 (by kernel_rfl) ref17_Turn.c (fun x => by kernel_rfl)
noncomputable abbrev t41 : List (Nat × Entry) := (14, entry [vP, vb] ref17_Turn.c.enc (fun x => ref17_Turn.f x.1.1 x.1.2 x.2)) :: t40
theorem k41 : TblOK Try.prog (tbl t41) := .cons (ref17_Turn.g.entry) k40
def ref17_Conj.f (a0 : Int) (a1 : Int) : Option (Int × Int) :=
  Option.bind (ref03_Neg.f a1) fun q => some (a0, q)
noncomputable abbrev ref17_Conj.c : Codec (Int × Int) := Ty.codec (.one vP)
theorem ref17_Conj.g : Den.Good Try.prog 16 [vP] ref17_Conj.c.enc (fun x => ref17_Conj.f x.1 x.2) := good hm k41 Try.func16 (by kernel_rfl) ref17_Conj.c (fun x => by kernel_rfl)
noncomputable abbrev t42 : List (Nat × Entry) := (16, entry [vP] ref17_Conj.c.enc (fun x => ref17_Conj.f x.1 x.2)) :: t41
theorem k42 : TblOK Try.prog (tbl t42) := .cons (ref17_Conj.g.entry) k41
def l17_pair.f (a0 : Int) (a1 : Int) : Option (Int × Int) :=
  some (a0, a1)
noncomputable abbrev l17_pair.c : Codec (Int × Int) := Ty.codec (.one vP)
theorem l17_pair.g : Den.Good Try.prog 9 [vP] l17_pair.c.enc (fun x => l17_pair.f x.1 x.2) := good hm k42 Try.func9 (by kernel_rfl) l17_pair.c (fun x => by kernel_rfl)
noncomputable abbrev t43 : List (Nat × Entry) := (9, entry [vP] l17_pair.c.enc (fun x => l17_pair.f x.1 x.2)) :: t42
theorem k43 : TblOK Try.prog (tbl t43) := .cons (l17_pair.g.entry) k42
def l17_sure.f  : Option (Bool) :=
  Option.bind (cplx_Mul.f 4607182418800017408 4607182418800017408 4607182418800017408 4607182418800017408) fun q => if q.1 = 0 ∧ q.2.1 = 4611686018427387904 then some (decide (q.2.2 = 0)) else some false
noncomputable abbrev l17_sure.c : Codec (Bool) := Ty.codec (.one vb)
theorem l17_sure.g : Den.Good Try.prog 12 [] l17_sure.c.enc (fun x => l17_sure.f ) := good hm k43 Try.func12 (by kernel_rfl) l17_sure.c (fun x => by kernel_rfl)
noncomputable abbrev t44 : List (Nat × Entry) := (12, entryB [] (fun x => l17_sure.f )) :: t43
theorem k44 : TblOK Try.prog (tbl t44) := .cons (l17_sure.g.entryB) k43
def l17_near.j0 (a0 : Int) (a1 : Int) (a2 : Int) (a3 : Int) : Option (Bool) :=
  if a1 = a3 then some true else some (decide (bits .andNot .u64 (bits .or .u64 a1 a3) 9223372036854775808 = 0))
def l17_near.f (a0 : Int) (a1 : Int) (a2 : Int) (a3 : Int) : Option (Bool) :=
  if a0 = a2 then l17_near.j0 a0 a1 a2 a3 else if bits .andNot .u64 (bits .or .u64 a0 a2) 9223372036854775808 = 0 then l17_near.j0 a0 a1 a2 a3 else some false
noncomputable abbrev l17_near.c : Codec (Bool) := Ty.codec (.one vb)
theorem l17_near.g : Den.Good Try.prog 21 [vP, vP] l17_near.c.enc (fun x => l17_near.f x.1.1 x.1.2 x.2.1 x.2.2) := good hm k44 Try.func21 (by kernel_rfl) l17_near.c (fun x => by kernel_rfl)
noncomputable abbrev t45 : List (Nat × Entry) := (21, entryB [vP, vP] (fun x => l17_near.f x.1.1 x.1.2 x.2.1 x.2.2)) :: t44
theorem k45 : TblOK Try.prog (tbl t45) := .cons (l17_near.g.entryB) k44
def l17_Turns.f (a0 : Int) (a1 : Int) (a2 : Int) (a3 : Int) : Option (Bool) :=
  Option.bind (l17_pair.f a0 a1) fun q => Option.bind (cplx_Turn.f q.1 q.2 false) fun q => Option.bind (l17_pair.f a0 a1) fun q_1 => Option.bind (cplx_Turn.f q_1.1 q_1.2 true) fun q_2 => Option.bind (ref17_Turn.f a0 a1 false) fun q_3 => Option.bind (l17_pair.f q_3.1 q_3.2) fun q_4 => if ¬(q.1 = q_4.1 ∧ q.2 = q_4.2) then some false else Option.bind (ref17_Turn.f a0 a1 true) fun q_5 => Option.bind (l17_pair.f q_5.1 q_5.2) fun q_6 => if ¬(q_2.1 = q_6.1 ∧ q_2.2 = q_6.2) then some false else Option.bind (cplx_Turn.f q.1 q.2 true) fun q => Option.bind (l17_pair.f a0 a1) fun q_7 => if ¬(q.1 = q_7.1 ∧ q.2 = q_7.2) then some false else Option.bind (l17_pair.f a0 a1) fun q => Option.bind (cplx_Conj.f q.1 q.2) fun q => Option.bind (ref17_Conj.f a0 a1) fun q_8 => Option.bind (l17_pair.f q_8.1 q_8.2) fun q_9 => if ¬(q.1 = q_9.1 ∧ q.2 = q_9.2) then some false else Option.bind (l17_pair.f a0 a1) fun q => Option.bind (l17_pair.f a2 a3) fun q_10 => Option.bind (cplx_Mul.f q.1 q.2 q_10.1 q_10.2) fun q => Option.bind (l17_pair.f a0 a1) fun q_11 => Option.bind (cplx_Conj.f q_11.1 q_11.2) fun q_12 => Option.bind (l17_pair.f a2 a3) fun q_13 => Option.bind (cplx_Conj.f q_13.1 q_13.2) fun q_14 => Option.bind (cplx_Mul.f q_12.1 q_12.2 q_14.1 q_14.2) fun q_15 => if q.1 = 9221120237041090560 then if q.2.2 = q_15.2.2 then Option.bind l17_sure.f fun q => if q = true then some true else some false else some false else if q.2.1 = 9221120237041090560 then if q.2.2 = q_15.2.2 then Option.bind l17_sure.f fun q => if q = true then some true else some false else some false else if bits .andNot .u64 q.1 9223372036854775808 = 0 then if q.2.2 = q_15.2.2 then Option.bind l17_sure.f fun q => if q = true then some true else some false else some false else if q.2.2 = q_15.2.2 then if bits .andNot .u64 q.2.1 9223372036854775808 = 0 then Option.bind l17_sure.f fun q => if q = true then some true else some false else Option.bind (cplx_Conj.f q.1 q.2.1) fun q => if q_15.1 = q.1 ∧ q_15.2.1 = q.2 then Option.bind l17_sure.f fun q => if q = true then some true else some false else some false else some false
noncomputable abbrev l17_Turns.c : Codec (Bool) := Ty.codec (.one vb)
theorem l17_Turns.g : Den.Good Try.prog 4 [vP, vP] l17_Turns.c.enc (fun x => l17_Turns.f x.1.1 x.1.2 x.2.1 x.2.2) := good hm k45 Try.func4 (by kernel_rfl) l17_Turns.c (fun x => by kernel_rfl)
def l17_Ones.f (a0 : Int) (a1 : Int) : Option (Bool) :=
  if List.getD [bits .andNot .u64 a0 9223372036854775808, bits .andNot .u64 a1 9223372036854775808] 0 0 ≥ 9218868437227405312 then Option.bind l17_sure.f fun q => if q = true then some true else some false else if List.getD [bits .andNot .u64 a0 9223372036854775808, bits .andNot .u64 a1 9223372036854775808] (Int.toNat (wrap64 1)) 0 ≥ 9218868437227405312 then Option.bind l17_sure.f fun q => if q = true then some true else some false else Option.bind (l17_pair.f a0 a1) fun q => Option.bind (cplx_Mul.f q.1 q.2 4607182418800017408 0) fun q => Option.bind (l17_pair.f a0 a1) fun q_1 => Option.bind (cplx_Mul.f q_1.1 q_1.2 0 4607182418800017408) fun q_2 => Option.bind (l17_pair.f a0 a1) fun q_3 => Option.bind (l17_pair.f a0 a1) fun q_4 => Option.bind (cplx_Sub.f q_3.1 q_3.2 q_4.1 q_4.2) fun q_5 => Option.bind (l17_pair.f a0 a1) fun q_6 => Option.bind (cplx_Turn.f q_6.1 q_6.2 false) fun q_7 => if q.2.2 = 0 then if q_2.2.2 = 0 then if q_5.2.2 = 0 then Option.bind (l17_pair.f a0 a1) fun q_8 => Option.bind (l17_near.f q.1 q.2.1 q_8.1 q_8.2) fun q => if q = true then Option.bind (l17_near.f q_2.1 q_2.2.1 q_7.1 q_7.2) fun q => if q = true then if q_5.1 = 0 ∧ q_5.2.1 = 0 then Option.bind l17_sure.f fun q => if q = true then some true else some false else some false else some false else some false else some false else some false else some false
noncomputable abbrev l17_Ones.c : Codec (Bool) := Ty.codec (.one vb)
theorem l17_Ones.g : Den.Good Try.prog 6 [vP] l17_Ones.c.enc (fun x => l17_Ones.f x.1 x.2) := good hm k45 Try.func6 (by kernel_rfl) l17_Ones.c (fun x => by kernel_rfl)
def l17_is.f (a0 : Int) (a1 : Int) (a2 : Int) (a3 : Int) (a4 : Int) (a5 : Int) : Option (Bool) :=
  Option.bind (l17_pair.f a3 a4) fun q => if a0 = q.1 ∧ a1 = q.2 then some (decide (wrap64 a2 = a5)) else some false
noncomputable abbrev l17_is.c : Codec (Bool) := Ty.codec (.one vb)
theorem l17_is.g : Den.Good Try.prog 11 [vP, v8, vP, vi] l17_is.c.enc (fun x => l17_is.f x.1.1 x.1.2 x.2.1 x.2.2.1.1 x.2.2.1.2 x.2.2.2) := good hm k45 Try.func11 (by kernel_rfl) l17_is.c (fun x => by kernel_rfl)
noncomputable abbrev t46 : List (Nat × Entry) := (11, entryB [vP, v8, vP, vi] (fun x => l17_is.f x.1.1 x.1.2 x.2.1 x.2.2.1.1 x.2.2.1.2 x.2.2.2)) :: t45
theorem k46 : TblOK Try.prog (tbl t46) := .cons (l17_is.g.entryB) k45
end Go.Proofs.Ythcgeekibomhiaa.D
