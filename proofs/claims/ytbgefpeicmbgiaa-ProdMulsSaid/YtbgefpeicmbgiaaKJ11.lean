import Derived.Test.YtbgefpeicmbgiaaKJ4
import Derived.Test.YtbgefpeicmbgiaaKJ6
import Derived.Test.YtbgefpeicmbgiaaKJXprodFma
section
namespace Go.Proofs.Ytbgefpeicmbgiaa.X
open Go.RowKit Go.Proofs.YtbgefpeicmbgiaaW.PrintWords Go.Proofs.YtbgefpeicmbgiaaW.PrintLast Go.Proofs.YtbgefpeicmbgiaaW.PrintMore
attribute [local go_sem] max2_int min2_int max_two min_two max_three min_three max_four min_four   
set_option linter.unusedVariables false
set_option linter.unusedSimpArgs false
def tillerlaw06_sure.f (k : Nat)  : Option (Bool) := (prod_Fma.f k 4607182418800017409 4607182418800017406 13830554455654793216 0).bind fun q1 => (if q1.1 = 13362180094408261632 then (some (q1.2 == 0)) else (some false))
theorem tillerlaw06_sure.mono : ∀ k, LeO (tillerlaw06_sure.f k ) (tillerlaw06_sure.f (k + 1) ) := by
 intro  k
 unfold tillerlaw06_sure.f
 repeat' first
  | (with_reducible exact prod_Fma.mono _ _ _ _ _)
  | (with_reducible exact LeO.refl _)
  | (with_reducible exact LeO.none _)
  | (with_reducible refine LeO.ite ?_ ?_)
  | (with_reducible refine LeO.bind ?_ (fun _ => ?_))
  | exact prod_Fma.mono _ _ _ _ _
  | exact LeO.none _
  | refine LeO.ite ?_ ?_
  | refine LeO.bind ?_ (fun _ => ?_)
set_option maxHeartbeats 8000000 in
set_option maxRecDepth 100000 in
theorem tillerlaw06_sure.calls (k : Nat)  (r : Bool) (w : World) (h : tillerlaw06_sure.f k  = some r) :
 Calls Try.prog 25 #[] w fun e w' => e = .returned (.bool r) ∧ Below w.heap.size w w' := by
 have HB := Aside0.mk (Below.refl w.heap.size w); have H : ((prod_Fma.f k 4607182418800017409 4607182418800017406 13830554455654793216 0).bind fun q1 => (if q1.1 = 13362180094408261632 then (some (q1.2 == 0)) else (some false))) = some r := h; clear h; replace H := Option.bind_eq_some_iff.mp H; obtain ⟨⟨q0, q2⟩, A10, H⟩ := H; replace H : (if q0 = 13362180094408261632 then (some (q2 == 0)) else (some false)) = some r := H; have A1 := Aside0.mk A10; clear A10
 by_cases c2 : q0 = 13362180094408261632
 · rw [if_pos c2] at H
   have q3 : (q0 == 13362180094408261632) = true := beq_iff_eq.mpr c2; have q4 : (q0 != 13362180094408261632) = false := bne_eq_false_iff_eq.mpr c2; clear c2; obtain rfl := Option.some.inj H
   go_enter Try.func25, Try.ntmps25
   go_wp2_with (first | ((with_reducible refine gate_callee (f := 23) rfl ?_); refine goesL_ (some 4) rfl rfl Try.func23 (by kernel_rfl) rfl #[.int .u64 4607182418800017409, .int .u64 4607182418800017406, .int .u64 13830554455654793216, .int .i64 0] rfl LMq ?_; (with_reducible refine (prod_Fma.calls k 4607182418800017409 4607182418800017406 13830554455654793216 0 q0 q2 _ A1.out).mono ?_); rintro e w3 ⟨rfl, hb⟩; refine ⟨_, rfl, ?_⟩; replace HB := Aside0.mk (below_step (kH HB) hb); (try clear hb); (try clear hb2); (try clear hk); (try clear hi)))
   go_ret
   exact ⟨by first | rfl | (simp [errW_none, errW_some] <;> rfl) | (simp [*, errW_none, errW_some] <;> rfl), kH HB⟩
 rw [if_neg c2] at H
 have q3 : (q0 == 13362180094408261632) = false := beq_eq_false_iff_ne.mpr c2; have q4 : (q0 != 13362180094408261632) = true := bne_iff_ne.mpr c2; obtain rfl := Option.some.inj H
 go_enter Try.func25, Try.ntmps25
 go_wp2_with (first | ((with_reducible refine gate_callee (f := 23) rfl ?_); refine goesL_ (some 4) rfl rfl Try.func23 (by kernel_rfl) rfl #[.int .u64 4607182418800017409, .int .u64 4607182418800017406, .int .u64 13830554455654793216, .int .i64 0] rfl LMq ?_; (with_reducible refine (prod_Fma.calls k 4607182418800017409 4607182418800017406 13830554455654793216 0 q0 q2 _ A1.out).mono ?_); rintro e w4 ⟨rfl, hb⟩; refine ⟨_, rfl, ?_⟩; replace HB := Aside0.mk (below_step (kH HB) hb); (try clear hb); (try clear hb2); (try clear hk); (try clear hi)))
 go_ret
 exact ⟨by first | rfl | (simp [errW_none, errW_some] <;> rfl) | (simp [*, errW_none, errW_some] <;> rfl), kH HB⟩
end Go.Proofs.Ytbgefpeicmbgiaa.X
end
section
namespace Go.Proofs.Ytbgefpeicmbgiaa
set_option linter.unusedVariables false
set_option linter.unusedSimpArgs false
open Go.RowKit X Go.Proofs.YtbgefpeicmbgiaaW.PrintWords
def bad (a b : Int) : Bool := decide (pC a = 0 ∧ pC b = 3 ∨ pC a = 3 ∧ pC b = 0)
def qMul (a b m : Int) : Int × Int :=
  if 3 < pC a ∨ 3 < pC b then qNone a b else if bad a b = true then (9221120237041090560, 1) else if pC a = 3 ∨ pC b = 3 then (9218868437227405312 + sg (qMi a b), 0) else rRound (qMi a b) (pX a + pX b) ((pS a).toNat * (pS b).toNat) m
theorem nothing_eq {a b : Int} (ha : U a) (hb : U b) : prod_nothing.f a b = some (bad a b) := by
  have z1 := zero_iff (a := a)
  have z2 := zero_iff (a := b)
  have i1 := inf_iff (a := a)
  have i2 := inf_iff (a := b)
  unfold prod_nothing.f bad
  rw [pat_Abs.eq a (inU_of ha), Option.bind_some, pat_Abs.eq b (inU_of hb), Option.bind_some]
  by_cases h0 : pA a = 0
  · have c0 := z1.1 h0
    rw [if_pos h0]
    by_cases h1 : pA b = 9218868437227405312
    · rw [if_pos h1, decide_eq_true (.inl ⟨c0, i2.1 h1⟩)]
    · have : pC b ≠ 3 := fun h => h1 (i2.2 h)
      rw [if_neg h1, if_neg (by omega), decide_eq_false (by omega)]
  · have c0 : pC a ≠ 0 := fun h => h0 (z1.2 h)
    rw [if_neg h0]
    by_cases h1 : pA a = 9218868437227405312
    · have c3 := i1.1 h1
      rw [if_pos h1]
      congr 1
      rw [Bool.eq_iff_iff]
      simp only [beq_iff_eq, decide_eq_true_eq]
      rw [z2]
      omega
    · have : pC a ≠ 3 := fun h => h1 (i1.2 h)
      rw [if_neg h1, decide_eq_false (by omega)]
theorem psign_eq {a b : Int} (ha : U a) (hb : U b) : prod_sign.f a b = some (sg (qMi a b)) := by
  have hx := bits_xor_U a b ha hb
  unfold prod_sign.f qMi
  rw [band_sg _ hx.1, hx.2]
theorem pexact_eq {a b : Int} (ha : U a) (hb : U b) : prod_exact.f a b = some (qMi a b, pX a + pX b, l0 ((pS a).toNat * (pS b).toNat), l1 ((pS a).toNat * (pS b).toNat), l2 ((pS a).toNat * (pS b).toNat), l3 ((pS a).toNat * (pS b).toNat), false) := by
  have sa := pS_bd a
  have sb := pS_bd b
  have xa := pX_bd a
  have xb := pX_bd b
  have ew : wrap64 (pX a + pX b) = pX a + pX b := by unfold wrap64; omega
  unfold prod_exact.f
  rw [pat_Take.eq a (inU_of ha), Option.bind_some, pat_Take.eq b (inU_of hb), Option.bind_some]
  dsimp only
  rw [wide_Of.eq (pS a) (inU_of (U_pS a)), Option.bind_some, wide_Of.eq (pS b) (inU_of (U_pS b)), Option.bind_some]
  dsimp only
  rw [wide_Mul.eq (pS_T a) (pS_T b) (by omega) (by omega), Option.bind_some, ew]
  rfl
theorem prod_lt (a b : Int) : (pS a).toNat * (pS b).toNat < 2 ^ 106 := by
  have sa := pS_bd a
  have sb := pS_bd b
  have h1 : (pS a).toNat < 2 ^ 53 := by rw [show (2 : Nat) ^ 53 = 9007199254740992 from rfl]; omega
  have h2 : (pS b).toNat < 2 ^ 53 := by rw [show (2 : Nat) ^ 53 = 9007199254740992 from rfl]; omega
  have := Nat.mul_lt_mul'' h1 h2
  rw [← Nat.pow_add] at this
  exact this
theorem loud_eq {a b : Int} (ha : U a) (hb : U b) (k : Nat) : prod_loud.f (k + 3) [a, b] = some (qNone a b).2 := by
  have r0 : rd [a, b] 0 = a := rfl
  have r1 : rd [a, b] 1 = b := rfl
  have ll : (([a, b] : List Int).length : Int) = 2 := rfl
  have w0 : wrap64 (0 + 1) = 1 := by unfold wrap64; omega
  have w1 : wrap64 (1 + 1) = 2 := by unfold wrap64; omega
  unfold prod_loud.f qNone
  by_cases h : pC a = 5
  · simp only [prod_loud.l0]
    rw [ll, if_pos (by decide), if_pos (by decide), if_pos (by decide), r0, pat_Class.eq a (inU_of ha), Option.bind_some, if_pos h, if_pos (.inl h)]
  · simp only [prod_loud.l0]
    rw [ll, if_pos (by decide), if_pos (by decide), if_pos (by decide), r0, pat_Class.eq a (inU_of ha), Option.bind_some, if_neg h, w0, if_pos (by decide), if_pos (by decide), if_pos (by decide), r1, pat_Class.eq b (inU_of hb), Option.bind_some]
    by_cases g : pC b = 5
    · rw [if_pos g, if_pos (.inr g)]
    · rw [if_neg g, w1, if_neg (by decide), if_neg (fun z => z.elim h g)]
theorem mul_spec (k : Nat) {a b : Int} (m : Int) (ha : U a) (hb : U b) : prod_Mul.f (k + 5) a b m = some (qMul a b m) := by
  have ca := pC_bd a
  have cb := pC_bd b
  have nanj : 3 < pC a ∨ 3 < pC b → prod_Mul.j0 (k + 5) a b m true = some (qMul a b m) := fun h => by
    simp only [prod_Mul.j0]
    rw [if_pos trivial, loud_eq ha hb (k + 1)]
    unfold qMul
    rw [if_pos h]
    rfl
  unfold prod_Mul.f
  rw [pat_IsNaN.eq a (inU_of ha), Option.bind_some]
  by_cases n1 : 3 < pC a
  · rw [decide_eq_true n1, if_pos rfl]
    exact nanj (.inl n1)
  · rw [decide_eq_false n1, if_neg (by decide), pat_IsNaN.eq b (inU_of hb), Option.bind_some]
    by_cases n2 : 3 < pC b
    · rw [decide_eq_true n2]
      exact nanj (.inr n2)
    · rw [decide_eq_false n2]
      unfold qMul
      rw [if_neg (fun h => h.elim n1 n2)]
      simp only [prod_Mul.j0]
      rw [if_neg (by decide), nothing_eq ha hb, Option.bind_some]
      by_cases hbad : bad a b = true
      · rw [if_pos hbad, if_pos hbad]
      · rw [if_neg hbad, if_neg hbad, pat_Finite.eq a (inU_of ha), Option.bind_some]
        have infj : pC a = 3 ∨ pC b = 3 → prod_Mul.j1 (k + 4) a b m true = some (9218868437227405312 + sg (qMi a b), 0) := fun h => by
          simp only [prod_Mul.j1]
          rw [if_pos trivial, psign_eq ha hb, Option.bind_some, bor_inf]
        by_cases i1 : pC a = 3
        · rw [decide_eq_false (by omega), if_neg (by decide), if_pos (.inl i1)]
          exact infj (.inl i1)
        · rw [decide_eq_true (by omega), if_pos rfl, pat_Finite.eq b (inU_of hb), Option.bind_some]
          by_cases i2 : pC b = 3
          · rw [decide_eq_false (by omega), if_pos (.inr i2)]
            exact infj (.inr i2)
          · rw [decide_eq_true (by omega), if_neg (by omega)]
            have hxa := pX_bd a
            have hxb := pX_bd b
            have hl := prod_lt a b
            have h254 : (pS a).toNat * (pS b).toNat < 2 ^ 254 := Nat.lt_trans hl (by decide)
            have hT : (pS a).toNat * (pS b).toNat < T256 := by rw [T256_eq]; exact Nat.lt_trans hl (by decide)
            have eR := rnd_Round.eq hT (qMi a b) (pX a + pX b) false m h254 (by omega) (by omega)
            simp only [prod_Mul.j1]
            rw [if_neg (by decide), pexact_eq ha hb, Option.bind_some]
            dsimp only
            rw [eR]
            rfl
theorem sure06 (k : Nat) : tillerlaw06_sure.f (k + 12) = some true := by
  have h : tillerlaw06_sure.f 12 = some true := by decide +kernel
  exact at_rounds (fun k => tillerlaw06_sure.mono k) (by omega) h
end Go.Proofs.Ytbgefpeicmbgiaa
end
