import Derived.Test.YthcgeekibomhiaaKT9
namespace Go.Proofs.Ythcgeekibomhiaa
set_option linter.unusedVariables false
set_option linter.unusedSimpArgs false
open Go.RowKit X D Go.Proofs.YthcgeekibomhiaaW.PrintWords
def near1 (v a : Int) : Prop := v = a ∨ (pA v = 0 ∧ pA a = 0)
theorem S_ne {a : Int} (ha : U a) (hf : pC a < 3) (h : pA a ≠ 0) : (pS a).toNat ≠ 0 := by
  have h1 := pA_EF a
  have h2 := pS_bd a
  rcases (pat_parts ha hf).1 with ⟨g1, _, _, g2⟩ | ⟨g1, _, g2⟩
  · have : 0 ≤ pF a := by unfold pF; omega
    omega
  · omega
theorem S_zero {a : Int} (ha : U a) (h : pA a = 0) : (pS a).toNat = 0 := by
  have e := pA_sg ha
  rw [h, Int.zero_add] at e
  rw [e]
  cases pM a <;> decide
theorem zw (b : Bool) : pC (sg b) = 0 ∧ U (sg b) ∧ pM (sg b) = b ∧ (pS (sg b)).toNat = 0 ∧ pA (sg b) = 0 := by
  refine ⟨by cases b <;> decide, U_sg b, pM_sg b, by cases b <;> decide, by cases b <;> decide⟩
theorem round_none (mi : Bool) (x : Int) (m : Int) : rRound mi x 0 m = (sg mi, 0) := by unfold rRound; rw [if_pos rfl]
theorem mul_one {a : Int} (m : Int) (ha : U a) (h : pC a < 3) : qMul a 4607182418800017408 m = (a, 0) := by
  obtain ⟨o1, o2, o3, o4⟩ := one_parts
  have hm : qMi a 4607182418800017408 = pM a := by unfold qMi; rw [o4]; cases pM a <;> rfl
  have nb : ¬ bad a 4607182418800017408 = true := fun h => by have := (bad_iff a 4607182418800017408).1 h; omega
  unfold qMul
  rw [hm, if_neg (by omega), if_neg nb, o1, if_neg (by omega)]
  have := round_exact ha h 52 m
  rw [o2, o3, show (4503599627370496 : Int).toNat = 2 ^ 52 from rfl, show pX a + -52 = pX a - ((52 : Nat) : Int) by omega]
  exact this
theorem nil_parts : pC 0 = 0 ∧ (pS 0).toNat = 0 := by decide
theorem mul_nil {a : Int} (h : pC a < 3) : ∃ s, qMul a 0 0 = (sg s, 0) := by
  obtain ⟨o1, o2⟩ := nil_parts
  have nb : ¬ bad a 0 = true := fun h => by have := (bad_iff a 0).1 h; omega
  refine ⟨qMi a 0, ?_⟩
  unfold qMul
  rw [if_neg (by omega), if_neg nb, if_neg (by omega), o2, Nat.mul_zero, round_none]
theorem fma_x1 {a : Int} (ha : U a) (h : pC a < 3) (s : Bool) : ∃ v, qFma a 4607182418800017408 (sg s) 0 = (v, 0) ∧ near1 v a := by
  obtain ⟨o1, o2, o3, o4⟩ := one_parts
  obtain ⟨z1, z2, z3, z4, z5⟩ := zw s
  have hm : qMi a 4607182418800017408 = pM a := by unfold qMi; rw [o4]; cases pM a <;> rfl
  have nb : ¬ bad a 4607182418800017408 = true := fun h => by have := (bad_iff a 4607182418800017408).1 h; omega
  have n1 : ¬ (3 < pC a ∨ 3 < pC 4607182418800017408 ∨ 3 < pC (sg s)) := by omega
  have n2 : ¬ (pC a = 3 ∨ pC 4607182418800017408 = 3) := by omega
  have n3 : ¬ pC (sg s) = 3 := by omega
  unfold qFma qSumR sSum
  rw [if_neg nb, if_neg n1, if_neg n2, if_neg n3, hm, z3, z4]
  by_cases g : pA a = 0
  · rw [S_zero ha g, Nat.zero_mul, if_pos rfl, if_pos rfl, round_none]
    exact ⟨_, rfl, .inr ⟨(zw _).2.2.2.2, g⟩⟩
  · have hs := S_ne ha h g
    have hs2 : ¬ (pS a).toNat * (pS 4607182418800017408).toNat = 0 := by
      rw [o3]; exact Nat.mul_ne_zero hs (by decide)
    rw [if_neg hs2, if_pos rfl]
    have := round_exact ha h 52 0
    refine ⟨a, ?_, .inl rfl⟩
    dsimp only
    rw [o2, o3, show (4503599627370496 : Int).toNat = 2 ^ 52 from rfl, show pX a + -52 = pX a - ((52 : Nat) : Int) by omega]
    exact this
theorem fma_x0 {a c : Int} (h : pC a < 3) (hc : U c) (hf : pC c < 3) : ∃ v, qFma a 0 c 0 = (v, 0) ∧ near1 v c := by
  obtain ⟨o1, o2⟩ := nil_parts
  have nb : ¬ bad a 0 = true := fun h => by have := (bad_iff a 0).1 h; omega
  have n1 : ¬ (3 < pC a ∨ 3 < pC 0 ∨ 3 < pC c) := by omega
  have n2 : ¬ (pC a = 3 ∨ pC 0 = 3) := by omega
  have n3 : ¬ pC c = 3 := by omega
  unfold qFma qSumR sSum
  rw [if_neg nb, if_neg n1, if_neg n2, if_neg n3, o2, Nat.mul_zero, if_pos rfl]
  by_cases g : pA c = 0
  · rw [S_zero hc g, if_pos rfl, round_none]
    exact ⟨_, rfl, .inr ⟨(zw _).2.2.2.2, g⟩⟩
  · rw [if_neg (S_ne hc hf g)]
    have := round_exact hc hf 0 0
    rw [Nat.pow_zero, Nat.mul_one, show pX c - ((0 : Nat) : Int) = pX c by omega] at this
    exact ⟨c, this, .inl rfl⟩
theorem N_sg (s : Bool) : pN (sg s) = sg (!s) := by cases s <;> decide
theorem por0 : por 0 0 = 0 := by decide +kernel
theorem cones_1 {a b : Int} (ha : U a) (hb : U b) (fa : pC a < 3) (fb : pC b < 3) : ∃ v w, cMul a b 4607182418800017408 0 = (v, w, 0) ∧ near1 v a ∧ near1 w b := by
  obtain ⟨s, e⟩ := mul_nil fb
  obtain ⟨v, e2, n2⟩ := fma_x1 ha fa (!s)
  obtain ⟨w, e3, n3⟩ := fma_x0 fa hb fb
  unfold cMul
  rw [e]
  dsimp only
  rw [N_sg, e2, mul_one 0 hb fb]
  dsimp only
  rw [e3]
  dsimp only
  rw [por0, por0, por0]
  exact ⟨v, w, rfl, n2, n3⟩
theorem cones_i {a b : Int} (ha : U a) (hb : U b) (fa : pC a < 3) (fb : pC b < 3) : ∃ v w, cMul a b 0 4607182418800017408 = (v, w, 0) ∧ near1 v (pN b) ∧ near1 w a := by
  obtain ⟨s, e⟩ := mul_nil fb
  obtain ⟨v, e2, n2⟩ := fma_x1 ha fa s
  obtain ⟨w, e3, n3⟩ := fma_x0 (c := pN b) fa (U_N b hb) (by rw [pC_N]; exact fb)
  unfold cMul
  rw [e, mul_one 0 hb fb]
  dsimp only
  rw [e2, e3]
  dsimp only
  rw [por0, por0, por0]
  exact ⟨w, v, rfl, n3, n2⟩
theorem sub_self {a : Int} (ha : U a) (fa : pC a < 3) : sums_Sub.f a a 0 = some (0, 0) := by
  unfold sums_Sub.f
  rw [pat_IsNaN.eq a (inU_of ha), Option.bind_some, decide_eq_false (by omega), if_neg (by decide), pat_Neg.eq a (inU_of ha), Option.bind_some, add_spec 0 ha (U_N a ha), Option.bind_some]
  have n1 : ¬ (3 < pC a ∨ 3 < pC a) := by omega
  have n2 : ¬ (pC a = 3 ∧ pC a = 3 ∧ a ≠ pN a) := by omega
  have n3 : ¬ pC a = 3 := by omega
  have nm : ¬ pM a = !pM a := by cases pM a <;> decide
  unfold qAdd qSumR sSum
  rw [pC_N, pX_N, pS_N, pM_N ha, if_neg n1, if_neg n2, if_neg n3, if_neg n3]
  by_cases z : (pS a).toNat = 0
  · rw [if_pos z, if_pos z, if_neg nm, round_none]; rfl
  · rw [if_neg z, if_neg z, if_pos (Int.le_refl _), if_neg nm, Int.sub_self, Int.toNat_zero, Nat.pow_zero, Nat.mul_one, if_pos rfl, round_none]; rfl
theorem pA_nil {v : Int} (hv : U v) (h : pA v = 0) : v = 0 ∨ v = 9223372036854775808 := by
  have e := pA_sg hv
  rw [h] at e
  revert e
  cases pM v <;> simp [sg] <;> omega
theorem nil_or {v a : Int} (hv : U v) (ha : U a) (h1 : pA v = 0) (h2 : pA a = 0) : bits .andNot .u64 (bits .or .u64 v a) 9223372036854775808 = 0 := by
  rcases pA_nil hv h1 with rfl | rfl <;> rcases pA_nil ha h2 with rfl | rfl <;> decide +kernel
theorem near_eq {v w a b : Int} (hv : U v) (hw : U w) (ha : U a) (hb : U b) (h1 : near1 v a) (h2 : near1 w b) : l17_near.f v w a b = some true := by
  have j : l17_near.j0 v w a b = some true := by
    unfold l17_near.j0
    rcases h2 with h | ⟨g1, g2⟩
    · rw [if_pos h]
    · split
      · rfl
      · rw [decide_eq_true (nil_or hw hb g1 g2)]
  unfold l17_near.f
  rcases h1 with h | ⟨g1, g2⟩
  · rw [if_pos h, j]
  · split
    · exact j
    · rw [if_pos (nil_or hv ha g1 g2), j]
theorem CplxOnes (a b : Int) (ha : U a) (hb : U b) : l17_Ones.f a b = some true := by
  have i1 := and_Sign ha
  have i2 := and_Sign hb
  unfold l17_Ones.f l17_pair.f
  rw [csure, i1, i2, show List.getD [pA a, pA b] 0 0 = pA a from rfl, show wrap64 1 = 1 by decide +kernel, show List.getD [pA a, pA b] (Int.toNat 1) 0 = pA b from rfl]
  by_cases f1 : pA a ≥ 9218868437227405312
  · rw [if_pos f1]; rfl
  · by_cases f2 : pA b ≥ 9218868437227405312
    · rw [if_neg f1, if_pos f2]; rfl
    · have fa : pC a < 3 := (fin_iff a ha).1 (by omega)
      have fb : pC b < 3 := (fin_iff b hb).1 (by omega)
      have u1 : U 4607182418800017408 := by unfold U; omega
      have u0 : U 0 := by unfold U; omega
      obtain ⟨v, w, e1, n1, n2⟩ := cones_1 ha hb fa fb
      obtain ⟨v', w', e2, n3, n4⟩ := cones_i ha hb fa fb
      have uv : U v := by have := qFma_U a 4607182418800017408 (c := pN (qMul b 0 0).1) 0 (U_N _ (qMul_U b 0 0)); have e := congrArg (fun x => x.1) e1; unfold cMul at e; dsimp only at e; rw [e] at this; exact this
      have uw : U w := by have := qFma_U a 0 (c := (qMul b 4607182418800017408 0).1) 0 (qMul_U _ _ 0); have e := congrArg (fun x => x.2.1) e1; unfold cMul at e; dsimp only at e; rw [e] at this; exact this
      have uv' : U v' := by have := qFma_U a 0 (c := pN (qMul b 4607182418800017408 0).1) 0 (U_N _ (qMul_U b _ 0)); have e := congrArg (fun x => x.1) e2; unfold cMul at e; dsimp only at e; rw [e] at this; exact this
      have uw' : U w' := by have := qFma_U a 4607182418800017408 (c := (qMul b 0 0).1) 0 (qMul_U _ _ 0); have e := congrArg (fun x => x.2.1) e2; unfold cMul at e; dsimp only at e; rw [e] at this; exact this
      have es : cplx_Sub.f a b a b = some (0, 0, 0) := by
        unfold cplx_Sub.f cplx_bothSub.f
        rw [sub_self ha fa, sub_self hb fb]
        rfl
      rw [if_neg f1, if_neg f2]
      simp only [Option.bind_some, cmul_spec ha hb u1 u0, cmul_spec ha hb u0 u1, e1, e2, es, turn_eq ha hb, Bool.false_eq_true, if_false, if_true, near_eq uv uw ha hb n1 n2, near_eq uv' uw' (U_N b hb) ha n3 n4, and_self]
end Go.Proofs.Ythcgeekibomhiaa
