import Derived.Test.YthcgeekibomhiaaKM11
namespace Go.Proofs.Ythcgeekibomhiaa
set_option linter.unusedVariables false
set_option linter.unusedSimpArgs false
open Go.RowKit X D Go.Proofs.YthcgeekibomhiaaW.PrintWords
theorem CplxMuls (a b c d : Int) (ha : U a) (hb : U b) (hc : U c) (hd : U d) : l17_Muls.f a b c d = some true := by
  have p1 := qMul_U b d 0
  have p2 := qMul_U b c 0
  have f1 := mul_Fl b d 0
  have f2 := fma_Fl a c (pN (qMul b d 0).1) 0
  have f3 := mul_Fl b c 0
  have f4 := fma_Fl a d (qMul b c 0).1 0
  obtain ⟨e1, k1⟩ := por_fl f1 f2
  obtain ⟨e2, k2⟩ := por_fl k1 f3
  obtain ⟨e3, k3⟩ := por_fl k2 f4
  unfold l17_Muls.f l17_pair.f ref17_Mul.f
  simp only [Option.bind_some, cmul_spec ha hb hc hd, ref06_Mul.eq 0 hb hd, ref06_Mul.eq 0 hb hc, rneg_eq p1, ref06_Fma.eq 0 ha hc (U_N _ p1), ref06_Fma.eq 0 ha hd p2, csure, e1, e2, e3]
  rw [is_eq (by unfold cMul; rfl) (by unfold cMul; rfl) (by unfold cMul por; rfl) (by unfold cMul por; exact k3)]
  rfl
end Go.Proofs.Ythcgeekibomhiaa
