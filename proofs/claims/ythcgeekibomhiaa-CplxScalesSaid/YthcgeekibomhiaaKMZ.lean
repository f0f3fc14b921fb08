import Derived.Test.YthcgeekibomhiaaRows
import Derived.WalkKit
import Derived.ProofKit
import Derived.OpenShut
import Derived.ShutString
import Derived.ChangeOld
import Derived.Below
import Derived.SizedLaws
import Derived.Test.YthcgeekibomhiaaKM0
import Derived.Test.YthcgeekibomhiaaKM13
namespace Go.Proofs.Ythcgeekibomhiaa.cplxScales
set_option linter.unusedVariables false
set_option linter.unusedSimpArgs false
open Go.ChangeShapes Go.WideShapes Go.ChangeAt Go.RowKit
open Go.ChangeMaps (open_string shut_string)
theorem own : ownKnob Try.prog.godebug = none := by kernel_rfl
theorem walk (x0 x1 x2 x3 x4 : Int) (w : World) (wx0 : (Lit.int .u64 x0).wf = true) (wx1 : (Lit.int .u64 x1).wf = true) (wx2 : (Lit.int .u64 x2).wf = true) (wx3 : (Lit.int .u64 x3).wf = true) (wx4 : (Lit.int .u64 x4).wf = true) :
    Calls Try.prog 7 #[.agg #[.int .u64 x0, .int .u64 x1], .int .u64 x2, .agg #[.int .u64 x3, .int .u64 x4]] w fun e w' => e = .returned (.bool true) ∧ Below w.heap.size w w' := by
  have h := Den.Good.calls Try.func7 (by decide) (fun y => by rfl) D.l17_Scales.g (by kernel_rfl) ((x0, x1), x2, (x3, x4)) true w (Go.Proofs.Ythcgeekibomhiaa.CplxScales x0 x1 x2 x3 x4 (U_wf wx0) (U_wf wx1) (U_wf wx2) (U_wf wx3) (U_wf wx4))
  exact Eq.mp (by kernel_rfl) h
set_option maxRecDepth 100000 in
theorem lifted (os : Os) (started : os.Started) (H : Type) (enc : TypeId × Value → H) :
    ReturnsInHanded {} Try.checked os 7 .any (Rows.cplxScalesSpec.pre6 enc Try.prog Try.f7 Rows.cplxScalesRow.domain false) (Rows.cplxScalesSpec.post enc Try.prog Try.f7 false true false false) := by
  refine returnsInHanded_of_change_sized (C := Try.checked) own started (by kernel_rfl) Try.func7
    (ChangeSpec.witness6 (enc := enc) (C := Try.checked) false ⟨#[], #[.agg #[.int .u64 0, .int .u64 0], .int .u64 0, .agg #[.int .u64 0, .int .u64 0]], []⟩ 7 (by kernel_rfl) (by kernel_rfl) (by kernel_rfl) (by kernel_rfl)) ?_
  intro W base args ds gs before hval0 hW hcnd hsz0 _
  have hsz : (DataW.weightsEach Try.prog (Try.f7.params.toList ++ Rows.cplxScalesSpec.plain.varTypes Try.prog) (ds ++ gs)).all (· ≤ reachBytes) = true := hsz0
  have hval : ∀ (j : Nat) t v, Try.f7.params[j]? = some t → args[j]? = some v → Value.okWide Try.prog W .any base t v := hval0
  have hW' := hW
  obtain ⟨p, q, hA0, hV, rfl, hfz, hnd⟩ := hW
  have hA : DataW.TrodAll enc Try.prog W 0 (fun _ => true) true Try.f7.params.toList args.toList ds p := hA0
  rw [Try.params7] at hA hval hsz
  obtain ⟨v0, vs0, d0, ds0, p0, q0, hargs, rfl, rfl, h0, r0⟩ := trodAll_cons hA
  obtain ⟨v1, vs1, d1, ds1, p1, q1, rfl, rfl, rfl, h1, r1⟩ := trodAll_cons r0
  obtain ⟨v2, vs2, d2, ds2, p2, q2, rfl, rfl, rfl, h2, r2⟩ := trodAll_cons r1
  obtain ⟨rfl, rfl, rfl⟩ := trodAll_nil r2
  obtain rfl : args = #[v0, v1, v2] := by cases args; simp_all
  obtain ⟨rfl, rfl⟩ := trodVars_none hV
  have cP : Try.prog.cellsOf 24 = 2 := by kernel_rfl
  obtain ⟨x0, x1, rfl, rfl, rfl, wx0, wx1⟩ := open_p2 Try.underlying24 (by kernel_rfl) cP rfl rfl Try.underlying22 (hval 0 24 v0 rfl rfl) h0
  obtain ⟨x2, rfl, rfl, rfl, wx2⟩ := open_int Try.underlying22 (hval 1 22 v1 rfl rfl) h1
  obtain ⟨x3, x4, rfl, rfl, rfl, wx3, wx4⟩ := open_p2 Try.underlying24 (by kernel_rfl) cP rfl rfl Try.underlying22 (hval 2 24 v2 rfl rfl) h2
  clear hA0 hval0 hsz0 hsz
  refine (walk x0 x1 x2 x3 x4 W wx0 wx1 wx2 wx3 wx4).mono fun e W' ⟨he, bel⟩ => ?_
  subst he
  exact ⟨_, rfl, _, _, _, [], _, [], hW', trodAll_mk1 (shut_bool Try.underlying4 _), (trodAll_cons_mk (shut_p2 Try.underlying24 (by kernel_rfl) cP rfl rfl Try.underlying22 wx0 wx1) (trodAll_cons_mk (shut_int Try.underlying22 wx2) (trodAll_cons_mk (shut_p2 Try.underlying24 (by kernel_rfl) cP rfl rfl Try.underlying22 wx3 wx4) trodAll_mk0))), rfl, bel.frame _, fun h => by cases h⟩
theorem over : Rows.cplxScalesRow.holds Try.pinned (OpenSpec.ofChange Rows.cplxScalesSpec) :=
  OpenClaim.holds_of_wide 7 Try.f7 rfl rfl rfl rfl rfl rfl rfl ⟨rfl, rfl, rfl, rfl, rfl⟩ rfl rfl rfl rfl rfl (by kernel_rfl) Try.func7 (by kernel_rfl)
    (of_decide_eq_true (by kernel_rfl)) (by unfold Func.isWrapper; first | (rw [if_pos (by decide +kernel)]; kernel_rfl) | (rw [if_neg (by decide +kernel)]; exact ⟨rfl, rfl⟩))
    (fun os started H enc _ => lifted os started H enc)
theorem proved : Rows.CplxScalesSaid := over
#print axioms proved
end Go.Proofs.Ythcgeekibomhiaa.cplxScales
namespace Go.Proofs.Ythcgeekibomhiaa
set_option linter.unusedVariables false
set_option linter.unusedSimpArgs false
theorem cplxScales_holds : Rows.CplxScalesSaid := cplxScales.proved
end Go.Proofs.Ythcgeekibomhiaa
