import Derived.Test.YtbgefpeicmbgiaaKP4
import Derived.Test.YtbgefpeicmbgiaaKPXsumsAdd
import Derived.Test.YtbgefpeicmbgiaaKP10
import Derived.Test.YtbgefpeicmbgiaaKPXprodFma
section
namespace Go.Proofs.Ytbgefpeicmbgiaa.X
open Go.RowKit Go.Proofs.YtbgefpeicmbgiaaW.PrintWords Go.Proofs.YtbgefpeicmbgiaaW.PrintLast Go.Proofs.YtbgefpeicmbgiaaW.PrintMore
attribute [local go_sem] max2_int min2_int max_two min_two max_three min_three max_four min_four   
set_option linter.unusedVariables false
set_option linter.unusedSimpArgs false
def tillerlaw06_sure.f (k : Nat)  : Option (Bool) := (prod_Fma.f k 4607182418800017409 4607182418800017406 13830554455654793216 0).bind fun q1 => (if q1.1 = 13362180094408261632 then (some (q1.2 == 0)) else (some false))
theorem tillerlaw06_sure.mono : ∀ k, LeO (tillerlaw06_sure.f k ) (tillerlaw06_sure.f (k + 1) ) := by
 intro  k
 unfold tillerlaw06_sure.f
 repeat' first
  | (with_reducible exact prod_Fma.mono _ _ _ _ _)
  | (with_reducible exact LeO.refl _)
  | (with_reducible exact LeO.none _)
  | (with_reducible refine LeO.ite ?_ ?_)
  | (with_reducible refine LeO.bind ?_ (fun _ => ?_))
  | exact prod_Fma.mono _ _ _ _ _
  | exact LeO.none _
  | refine LeO.ite ?_ ?_
  | refine LeO.bind ?_ (fun _ => ?_)
set_option maxHeartbeats 8000000 in
set_option maxRecDepth 100000 in
theorem tillerlaw06_sure.calls (k : Nat)  (r : Bool) (w : World) (h : tillerlaw06_sure.f k  = some r) :
 Calls Try.prog 25 #[] w fun e w' => e = .returned (.bool r) ∧ Below w.heap.size w w' := by
 have HB := Aside0.mk (Below.refl w.heap.size w); have H : ((prod_Fma.f k 4607182418800017409 4607182418800017406 13830554455654793216 0).bind fun q1 => (if q1.1 = 13362180094408261632 then (some (q1.2 == 0)) else (some false))) = some r := h; clear h; replace H := Option.bind_eq_some_iff.mp H; obtain ⟨⟨q0, q2⟩, A10, H⟩ := H; replace H : (if q0 = 13362180094408261632 then (some (q2 == 0)) else (some false)) = some r := H; have A1 := Aside0.mk A10; clear A10
 by_cases c2 : q0 = 13362180094408261632
 · rw [if_pos c2] at H
   have q3 : (q0 == 13362180094408261632) = true := beq_iff_eq.mpr c2; have q4 : (q0 != 13362180094408261632) = false := bne_eq_false_iff_eq.mpr c2; clear c2; obtain rfl := Option.some.inj H
   go_enter Try.func25, Try.ntmps25
   go_wp2_with (first | ((with_reducible refine gate_callee (f := 23) rfl ?_); refine goesL_ (some 4) rfl rfl Try.func23 (by kernel_rfl) rfl #[.int .u64 4607182418800017409, .int .u64 4607182418800017406, .int .u64 13830554455654793216, .int .i64 0] rfl LMq ?_; (with_reducible refine (prod_Fma.calls k 4607182418800017409 4607182418800017406 13830554455654793216 0 q0 q2 _ A1.out).mono ?_); rintro e w3 ⟨rfl, hb⟩; refine ⟨_, rfl, ?_⟩; replace HB := Aside0.mk (below_step (kH HB) hb); (try clear hb); (try clear hb2); (try clear hk); (try clear hi)))
   go_ret
   exact ⟨by first | rfl | (simp [errW_none, errW_some] <;> rfl) | (simp [*, errW_none, errW_some] <;> rfl), kH HB⟩
 rw [if_neg c2] at H
 have q3 : (q0 == 13362180094408261632) = false := beq_eq_false_iff_ne.mpr c2; have q4 : (q0 != 13362180094408261632) = true := bne_iff_ne.mpr c2; obtain rfl := Option.some.inj H
 go_enter Try.func25, Try.ntmps25
 go_wp2_with (first | ((with_reducible refine gate_callee (f := 23) rfl ?_); refine goesL_ (some 4) rfl rfl Try.func23 (by kernel_rfl) rfl #[.int .u64 4607182418800017409, .int .u64 4607182418800017406, .int .u64 13830554455654793216, .int .i64 0] rfl LMq ?_; (with_reducible refine (prod_Fma.calls k 4607182418800017409 4607182418800017406 13830554455654793216 0 q0 q2 _ A1.out).mono ?_); rintro e w4 ⟨rfl, hb⟩; refine ⟨_, rfl, ?_⟩; replace HB := Aside0.mk (below_step (kH HB) hb); (try clear hb); (try clear hb2); (try clear hk); (try clear hi)))
 go_ret
 exact ⟨by first | rfl | (simp [errW_none, errW_some] <;> rfl) | (simp [*, errW_none, errW_some] <;> rfl), kH HB⟩
end Go.Proofs.Ytbgefpeicmbgiaa.X
end
section
namespace Go.Proofs.Ytbgefpeicmbgiaa
set_option linter.unusedVariables false
set_option linter.unusedSimpArgs false
open Go.RowKit X Go.Proofs.YtbgefpeicmbgiaaW.PrintWords
def bad (a b : Int) : Bool := decide (pC a = 0 ∧ pC b = 3 ∨ pC a = 3 ∧ pC b = 0)
theorem bad_iff (a b : Int) : bad a b = true ↔ pC a = 0 ∧ pC b = 3 ∨ pC a = 3 ∧ pC b = 0 := by unfold bad; exact decide_eq_true_iff
def qMul (a b m : Int) : Int × Int :=
  if 3 < pC a ∨ 3 < pC b then qNone a b else if bad a b = true then (9221120237041090560, 1) else if pC a = 3 ∨ pC b = 3 then (9218868437227405312 + sg (qMi a b), 0) else rRound (qMi a b) (pX a + pX b) ((pS a).toNat * (pS b).toNat) m
theorem nothing_eq {a b : Int} (ha : U a) (hb : U b) : prod_nothing.f a b = some (bad a b) := by
  have z1 := zero_iff (a := a)
  have z2 := zero_iff (a := b)
  have i1 := inf_iff (a := a)
  have i2 := inf_iff (a := b)
  unfold prod_nothing.f bad
  rw [pat_Abs.eq a (inU_of ha), Option.bind_some, pat_Abs.eq b (inU_of hb), Option.bind_some]
  by_cases h0 : pA a = 0
  · have c0 := z1.1 h0
    rw [if_pos h0]
    by_cases h1 : pA b = 9218868437227405312
    · rw [if_pos h1, decide_eq_true (.inl ⟨c0, i2.1 h1⟩)]
    · have : pC b ≠ 3 := fun h => h1 (i2.2 h)
      rw [if_neg h1, if_neg (by omega), decide_eq_false (by omega)]
  · have c0 : pC a ≠ 0 := fun h => h0 (z1.2 h)
    rw [if_neg h0]
    by_cases h1 : pA a = 9218868437227405312
    · have c3 := i1.1 h1
      rw [if_pos h1]
      congr 1
      rw [Bool.eq_iff_iff]
      simp only [beq_iff_eq, decide_eq_true_eq]
      rw [z2]
      omega
    · have : pC a ≠ 3 := fun h => h1 (i1.2 h)
      rw [if_neg h1, decide_eq_false (by omega)]
theorem psign_eq {a b : Int} (ha : U a) (hb : U b) : prod_sign.f a b = some (sg (qMi a b)) := by
  have hx := bits_xor_U a b ha hb
  unfold prod_sign.f qMi
  rw [band_sg _ hx.1, hx.2]
theorem pexact_eq {a b : Int} (ha : U a) (hb : U b) : prod_exact.f a b = some (qMi a b, pX a + pX b, l0 ((pS a).toNat * (pS b).toNat), l1 ((pS a).toNat * (pS b).toNat), l2 ((pS a).toNat * (pS b).toNat), l3 ((pS a).toNat * (pS b).toNat), false) := by
  have sa := pS_bd a
  have sb := pS_bd b
  have xa := pX_bd a
  have xb := pX_bd b
  have ew : wrap64 (pX a + pX b) = pX a + pX b := by unfold wrap64; omega
  unfold prod_exact.f
  rw [pat_Take.eq a (inU_of ha), Option.bind_some, pat_Take.eq b (inU_of hb), Option.bind_some]
  dsimp only
  rw [wide_Of.eq (pS a) (inU_of (U_pS a)), Option.bind_some, wide_Of.eq (pS b) (inU_of (U_pS b)), Option.bind_some]
  dsimp only
  rw [wide_Mul.eq (pS_T a) (pS_T b) (by omega) (by omega), Option.bind_some, ew]
  rfl
theorem prod_lt (a b : Int) : (pS a).toNat * (pS b).toNat < 2 ^ 106 := by
  have sa := pS_bd a
  have sb := pS_bd b
  have h1 : (pS a).toNat < 2 ^ 53 := by rw [show (2 : Nat) ^ 53 = 9007199254740992 from rfl]; omega
  have h2 : (pS b).toNat < 2 ^ 53 := by rw [show (2 : Nat) ^ 53 = 9007199254740992 from rfl]; omega
  have := Nat.mul_lt_mul'' h1 h2
  rw [← Nat.pow_add] at this
  exact this
theorem loud_eq {a b : Int} (ha : U a) (hb : U b) (k : Nat) : prod_loud.f (k + 3) [a, b] = some (qNone a b).2 := by
  have r0 : rd [a, b] 0 = a := rfl
  have r1 : rd [a, b] 1 = b := rfl
  have ll : (([a, b] : List Int).length : Int) = 2 := rfl
  have w0 : wrap64 (0 + 1) = 1 := by unfold wrap64; omega
  have w1 : wrap64 (1 + 1) = 2 := by unfold wrap64; omega
  unfold prod_loud.f qNone
  by_cases h : pC a = 5
  · simp only [prod_loud.l0]
    rw [ll, if_pos (by decide), if_pos (by decide), if_pos (by decide), r0, pat_Class.eq a (inU_of ha), Option.bind_some, if_pos h, if_pos (.inl h)]
  · simp only [prod_loud.l0]
    rw [ll, if_pos (by decide), if_pos (by decide), if_pos (by decide), r0, pat_Class.eq a (inU_of ha), Option.bind_some, if_neg h, w0, if_pos (by decide), if_pos (by decide), if_pos (by decide), r1, pat_Class.eq b (inU_of hb), Option.bind_some]
    by_cases g : pC b = 5
    · rw [if_pos g, if_pos (.inr g)]
    · rw [if_neg g, w1, if_neg (by decide), if_neg (fun z => z.elim h g)]
theorem mul_spec (k : Nat) {a b : Int} (m : Int) (ha : U a) (hb : U b) : prod_Mul.f (k + 5) a b m = some (qMul a b m) := by
  have ca := pC_bd a
  have cb := pC_bd b
  have nanj : 3 < pC a ∨ 3 < pC b → prod_Mul.j0 (k + 5) a b m true = some (qMul a b m) := fun h => by
    simp only [prod_Mul.j0]
    rw [if_pos trivial, loud_eq ha hb (k + 1)]
    unfold qMul
    rw [if_pos h]
    rfl
  unfold prod_Mul.f
  rw [pat_IsNaN.eq a (inU_of ha), Option.bind_some]
  by_cases n1 : 3 < pC a
  · rw [decide_eq_true n1, if_pos rfl]
    exact nanj (.inl n1)
  · rw [decide_eq_false n1, if_neg (by decide), pat_IsNaN.eq b (inU_of hb), Option.bind_some]
    by_cases n2 : 3 < pC b
    · rw [decide_eq_true n2]
      exact nanj (.inr n2)
    · rw [decide_eq_false n2]
      unfold qMul
      rw [if_neg (fun h => h.elim n1 n2)]
      simp only [prod_Mul.j0]
      rw [if_neg (by decide), nothing_eq ha hb, Option.bind_some]
      by_cases hbad : bad a b = true
      · rw [if_pos hbad, if_pos hbad]
      · rw [if_neg hbad, if_neg hbad, pat_Finite.eq a (inU_of ha), Option.bind_some]
        have infj : pC a = 3 ∨ pC b = 3 → prod_Mul.j1 (k + 4) a b m true = some (9218868437227405312 + sg (qMi a b), 0) := fun h => by
          simp only [prod_Mul.j1]
          rw [if_pos trivial, psign_eq ha hb, Option.bind_some, bor_inf]
        by_cases i1 : pC a = 3
        · rw [decide_eq_false (by omega), if_neg (by decide), if_pos (.inl i1)]
          exact infj (.inl i1)
        · rw [decide_eq_true (by omega), if_pos rfl, pat_Finite.eq b (inU_of hb), Option.bind_some]
          by_cases i2 : pC b = 3
          · rw [decide_eq_false (by omega), if_pos (.inr i2)]
            exact infj (.inr i2)
          · rw [decide_eq_true (by omega), if_neg (by omega)]
            have hxa := pX_bd a
            have hxb := pX_bd b
            have hl := prod_lt a b
            have h254 : (pS a).toNat * (pS b).toNat < 2 ^ 254 := Nat.lt_trans hl (by decide)
            have hT : (pS a).toNat * (pS b).toNat < T256 := by rw [T256_eq]; exact Nat.lt_trans hl (by decide)
            have eR := rnd_Round.eq hT (qMi a b) (pX a + pX b) false m h254 (by omega) (by omega)
            simp only [prod_Mul.j1]
            rw [if_neg (by decide), pexact_eq ha hb, Option.bind_some]
            dsimp only
            rw [eR]
            rfl
theorem sure06 (k : Nat) : tillerlaw06_sure.f (k + 12) = some true := by
  have h : tillerlaw06_sure.f 12 = some true := by decide +kernel
  exact at_rounds (fun k => tillerlaw06_sure.mono k) (by omega) h
end Go.Proofs.Ytbgefpeicmbgiaa
end
section
namespace Go.Proofs.Ytbgefpeicmbgiaa
set_option linter.unusedVariables false
set_option linter.unusedSimpArgs false
open Go.RowKit X Go.Proofs.YtbgefpeicmbgiaaW.PrintWords
def qSumR (mx : Bool) (ex : Int) (sx : Nat) (my : Bool) (ey : Int) (sy : Nat) (m : Int) : Int × Int := rRound (sSum mx ex sx my ey sy m).1 (sSum mx ex sx my ey sy m).2.1 (sSum mx ex sx my ey sy m).2.2 m
def qAdd (a b m : Int) : Int × Int := if 3 < pC a ∨ 3 < pC b then qNone a b else if pC a = 3 ∧ pC b = 3 ∧ a ≠ b then (9221120237041090560, 1) else if pC a = 3 then (a, 0) else if pC b = 3 then (b, 0) else qSumR (pM a) (pX a) (pS a).toNat (pM b) (pX b) (pS b).toNat m
def qFma (a b c m : Int) : Int × Int :=
  if bad a b = true then (9221120237041090560, 1)
  else if 3 < pC a ∨ 3 < pC b ∨ 3 < pC c then (9221120237041090560, if pC a = 5 ∨ pC b = 5 ∨ pC c = 5 then 1 else 0)
  else if pC a = 3 ∨ pC b = 3 then (if pC c = 3 ∧ c ≠ 9218868437227405312 + sg (qMi a b) then (9221120237041090560, 1) else (9218868437227405312 + sg (qMi a b), 0))
  else if pC c = 3 then (c, 0)
  else qSumR (qMi a b) (pX a + pX b) ((pS a).toNat * (pS b).toNat) (pM c) (pX c) (pS c).toNat m
theorem pS_128 (a : Int) : (pS a).toNat < 2 ^ 128 := by
  have := pS_bd a
  exact Nat.lt_trans (show (pS a).toNat < 2 ^ 53 by rw [show (2 : Nat) ^ 53 = 9007199254740992 from rfl]; omega) (by decide)
theorem round_out {mi : Bool} {e : Int} {s : Nat} {o : Bool} {t : Bool × Int × Nat} (h : NumOut mi e s o t) (m : Int) : rnd_Round.f mi e (l0 s) (l1 s) (l2 s) (l3 s) o m = some (rRound t.1 t.2.1 t.2.2 m) := by
  obtain ⟨h1, h2, h3, h4⟩ := h
  rw [rnd_Round.eq (lt_T h1) mi e o m h1 h2 h3, ← h4 m]
  rfl
theorem snone_eq {a b : Int} (ha : U a) (hb : U b) (k : Nat) : sums_none.f (k + 3) [a, b] = some (qNone a b) := by
  have r0 : rd [a, b] 0 = a := rfl
  have r1 : rd [a, b] 1 = b := rfl
  have ll : (([a, b] : List Int).length : Int) = 2 := rfl
  have w0 : wrap64 (0 + 1) = 1 := by unfold wrap64; omega
  have w1 : wrap64 (1 + 1) = 2 := by unfold wrap64; omega
  unfold sums_none.f qNone
  by_cases h : pC a = 5
  · simp only [sums_none.l0]
    rw [ll, if_pos (by decide), if_pos (by decide), if_pos (by decide), r0, pat_Class.eq a (inU_of ha), Option.bind_some, if_pos h, if_pos (.inl h)]
  · simp only [sums_none.l0]
    rw [ll, if_pos (by decide), if_pos (by decide), if_pos (by decide), r0, pat_Class.eq a (inU_of ha), Option.bind_some, if_neg h, w0, if_pos (by decide), if_pos (by decide), if_pos (by decide), r1, pat_Class.eq b (inU_of hb), Option.bind_some]
    by_cases g : pC b = 5
    · rw [if_pos g, if_pos (.inr g)]
    · rw [if_neg g, w1, if_neg (by decide), if_neg (fun z => z.elim h g)]
theorem loud3_eq {a b c : Int} (ha : U a) (hb : U b) (hc : U c) (k : Nat) : prod_loud.f (k + 4) [a, b, c] = some (if pC a = 5 ∨ pC b = 5 ∨ pC c = 5 then 1 else 0) := by
  have r0 : rd [a, b, c] 0 = a := rfl
  have r1 : rd [a, b, c] 1 = b := rfl
  have r2 : rd [a, b, c] 2 = c := rfl
  have ll : (([a, b, c] : List Int).length : Int) = 3 := rfl
  have w0 : wrap64 (0 + 1) = 1 := by unfold wrap64; omega
  have w1 : wrap64 (1 + 1) = 2 := by unfold wrap64; omega
  have w2 : wrap64 (2 + 1) = 3 := by unfold wrap64; omega
  unfold prod_loud.f
  by_cases h : pC a = 5
  · simp only [prod_loud.l0]
    rw [ll, if_pos (by decide), if_pos (by decide), if_pos (by decide), r0, pat_Class.eq a (inU_of ha), Option.bind_some, if_pos h, if_pos (.inl h)]
  · by_cases g : pC b = 5
    · simp only [prod_loud.l0]
      rw [ll, if_pos (by decide), if_pos (by decide), if_pos (by decide), r0, pat_Class.eq a (inU_of ha), Option.bind_some, if_neg h, w0, if_pos (by decide), if_pos (by decide), if_pos (by decide), r1, pat_Class.eq b (inU_of hb), Option.bind_some, if_pos g, if_pos (.inr (.inl g))]
    · simp only [prod_loud.l0]
      rw [ll, if_pos (by decide), if_pos (by decide), if_pos (by decide), r0, pat_Class.eq a (inU_of ha), Option.bind_some, if_neg h, w0, if_pos (by decide), if_pos (by decide), if_pos (by decide), r1, pat_Class.eq b (inU_of hb), Option.bind_some, if_neg g, w1, if_pos (by decide), if_pos (by decide), if_pos (by decide), r2, pat_Class.eq c (inU_of hc), Option.bind_some]
      by_cases z : pC c = 5
      · rw [if_pos z, if_pos (.inr (.inr z))]
      · rw [if_neg z, w2, if_neg (by decide), if_neg (by rintro (q | q | q) <;> contradiction)]
theorem add_spec (k : Nat) {a b : Int} (m : Int) (ha : U a) (hb : U b) : sums_Add.f (k + 6) a b m = some (qAdd a b m) := by
  have ca := pC_bd a
  have cb := pC_bd b
  have nanj : 3 < pC a ∨ 3 < pC b → sums_Add.j0 (k + 6) a b m true = some (qAdd a b m) := fun h => by
    simp only [sums_Add.j0]
    rw [if_pos trivial, snone_eq ha hb (k + 2)]
    unfold qAdd
    rw [if_pos h]
    rfl
  unfold sums_Add.f
  rw [pat_IsNaN.eq a (inU_of ha), Option.bind_some]
  by_cases n1 : 3 < pC a
  · rw [decide_eq_true n1, if_pos rfl]
    exact nanj (.inl n1)
  · rw [decide_eq_false n1, if_neg (by decide), pat_IsNaN.eq b (inU_of hb), Option.bind_some]
    by_cases n2 : 3 < pC b
    · rw [decide_eq_true n2]
      exact nanj (.inr n2)
    · rw [decide_eq_false n2]
      unfold qAdd
      rw [if_neg (fun h => h.elim n1 n2)]
      simp only [sums_Add.j0]
      rw [if_neg (by decide), pat_Class.eq a (inU_of ha), Option.bind_some]
      by_cases i1 : pC a = 3
      · rw [if_pos i1, pat_Class.eq b (inU_of hb), Option.bind_some]
        by_cases i2 : pC b = 3
        · rw [if_pos i2]
          by_cases e : a = b
          · rw [if_neg (fun h => h.2.2 e), if_pos i1, show (a != b) = false by simp [e]]
            simp only [sums_Add.j1]
            rw [if_neg (by decide), pat_Class.eq a (inU_of ha), Option.bind_some, if_pos i1]
          · rw [if_pos ⟨i1, i2, e⟩, show (a != b) = true by simp [e]]
            simp only [sums_Add.j1]
            rw [if_pos trivial]
        · rw [if_neg i2, if_neg (fun h => i2 h.2.1), if_pos i1]
          simp only [sums_Add.j1]
          rw [if_neg (by decide), pat_Class.eq a (inU_of ha), Option.bind_some, if_pos i1]
      · rw [if_neg i1, if_neg (fun h => i1 h.1), if_neg i1]
        simp only [sums_Add.j1]
        rw [if_neg (by decide), pat_Class.eq a (inU_of ha), Option.bind_some, if_neg i1, pat_Class.eq b (inU_of hb), Option.bind_some]
        by_cases i2 : pC b = 3
        · rw [if_pos i2, if_pos i2]
        · have xa := pX_bd a
          have xb := pX_bd b
          obtain ⟨mi, e, s, o, hN, hE⟩ := join_eq (k + 1) (mx := pM a) (my := pM b) (ex := pX a) (ey := pX b) (sx := (pS a).toNat) (sy := (pS b).toNat) m (pS_128 a) (pS_128 b) (by omega) (by omega) (by omega) (by omega)
          rw [if_neg i2, if_neg i2, rnd_Of.eq a (inU_of ha), if_pos (by omega), Option.bind_some, rnd_Of.eq b (inU_of hb), if_pos (by omega), Option.bind_some]
          dsimp only
          rw [if_pos (by rfl), if_pos (by rfl)]
          simp only [sums_Add.j2]
          rw [if_neg (by decide), hE, Option.bind_some]
          dsimp only
          rw [round_out hN]
          rfl
theorem right_eq {mi : Bool} {e : Int} {s : Nat} (hs : s < 2 ^ 128) (h0 : -5000 ≤ e) (h1 : e ≤ 5000) : sums_right.f mi e (l0 s) (l1 s) (l2 s) (l3 s) false = some true := by
  have hT : s < T256 := by rw [T256_eq]; exact Nat.lt_trans hs (by decide)
  have hb : blen s ≤ 128 := blen_le_iff.2 hs
  unfold sums_right.f
  rw [wide_Len.eq hT, Option.bind_some, if_pos (by omega), if_neg (by decide), if_pos (by omega), decide_eq_true (by omega)]
theorem inf_words (b : Bool) : pC (9218868437227405312 + sg b) = 3 ∧ U (9218868437227405312 + sg b) := by
  refine ⟨?_, sgU (by omega) (by omega) b⟩
  rw [(C_same (sgAA 9218868437227405312 b)).1]
  decide
theorem fma_spec (k : Nat) {a b c : Int} (m : Int) (ha : U a) (hb : U b) (hc : U c) : prod_Fma.f (k + 8) a b c m = some (qFma a b c m) := by
  have ca := pC_bd a
  have cb := pC_bd b
  have cc := pC_bd c
  unfold prod_Fma.f qFma
  rw [psign_eq ha hb, Option.bind_some, nothing_eq ha hb, Option.bind_some]
  by_cases hbad : bad a b = true
  · rw [if_pos hbad, if_pos hbad]
  · rw [if_neg hbad, if_neg hbad, bor_inf]
    have nanj : 3 < pC a ∨ 3 < pC b ∨ 3 < pC c → prod_Fma.j0 (k + 8) a b c m (9218868437227405312 + sg (qMi a b)) true = some (9221120237041090560, if pC a = 5 ∨ pC b = 5 ∨ pC c = 5 then 1 else 0) := fun h => by
      simp only [prod_Fma.j0]
      rw [if_pos trivial, loud3_eq ha hb hc (k + 3)]
      rfl
    rw [pat_IsNaN.eq a (inU_of ha), Option.bind_some]
    by_cases n1 : 3 < pC a
    · rw [decide_eq_true n1, if_pos rfl, if_pos (.inl n1)]
      exact nanj (.inl n1)
    · rw [decide_eq_false n1, if_neg (by decide), pat_IsNaN.eq b (inU_of hb), Option.bind_some]
      by_cases n2 : 3 < pC b
      · rw [decide_eq_true n2, if_pos rfl, if_pos (.inr (.inl n2))]
        exact nanj (.inr (.inl n2))
      · rw [decide_eq_false n2, if_neg (by decide), pat_IsNaN.eq c (inU_of hc), Option.bind_some]
        by_cases n3 : 3 < pC c
        · rw [decide_eq_true n3, if_pos (.inr (.inr n3))]
          exact nanj (.inr (.inr n3))
        · rw [decide_eq_false n3, if_neg (by omega)]
          simp only [prod_Fma.j0]
          rw [if_neg (by decide), pat_Finite.eq a (inU_of ha), Option.bind_some]
          obtain ⟨ic, iu⟩ := inf_words (qMi a b)
          have infj : pC a = 3 ∨ pC b = 3 → prod_Fma.j1 (k + 7) a b c m (9218868437227405312 + sg (qMi a b)) true = some (if pC c = 3 ∧ c ≠ 9218868437227405312 + sg (qMi a b) then (9221120237041090560, 1) else (9218868437227405312 + sg (qMi a b), 0)) := fun h => by
            simp only [prod_Fma.j1]
            rw [if_pos trivial, add_spec k m iu hc, Option.bind_some]
            unfold qAdd
            rw [ic, if_neg (by omega)]
            by_cases g : pC c = 3 ∧ c ≠ 9218868437227405312 + sg (qMi a b)
            · rw [if_pos ⟨rfl, g.1, fun z => g.2 z.symm⟩, if_pos g]
            · rw [if_neg (fun z => g ⟨z.2.1, fun y => z.2.2 y.symm⟩), if_neg g, if_pos rfl]
          by_cases i1 : pC a = 3
          · rw [decide_eq_false (by omega), if_neg (by decide), if_pos (.inl i1)]
            exact infj (.inl i1)
          · rw [decide_eq_true (by omega), if_pos rfl, pat_Finite.eq b (inU_of hb), Option.bind_some]
            by_cases i2 : pC b = 3
            · rw [decide_eq_false (by omega), if_pos (.inr i2)]
              exact infj (.inr i2)
            · rw [decide_eq_true (by omega), if_neg (by omega)]
              simp only [prod_Fma.j1]
              rw [if_neg (by decide), pat_Finite.eq c (inU_of hc), Option.bind_some]
              by_cases i3 : pC c = 3
              · rw [decide_eq_false (by omega), if_neg (by decide), if_pos i3]
              · have xa := pX_bd a
                have xb := pX_bd b
                have xc := pX_bd c
                have hl : (pS a).toNat * (pS b).toNat < 2 ^ 128 := Nat.lt_trans (prod_lt a b) (by decide)
                obtain ⟨mi, e, s, o, hN, hE⟩ := join_eq (k + 4) (mx := qMi a b) (my := pM c) (ex := pX a + pX b) (ey := pX c) (sx := (pS a).toNat * (pS b).toNat) (sy := (pS c).toNat) m hl (pS_128 c) (by omega) (by omega) (by omega) (by omega)
                rw [decide_eq_true (by omega), if_pos rfl, if_neg i3, rnd_Of.eq c (inU_of hc), if_pos (by omega), Option.bind_some]
                dsimp only
                rw [if_pos (by rfl), pexact_eq ha hb, Option.bind_some]
                dsimp only
                unfold sums_Exact.f
                rw [right_eq hl (by omega) (by omega), Option.bind_some, if_pos rfl, right_eq (pS_128 c) (by omega) (by omega), Option.bind_some, if_pos rfl, hE, Option.bind_some, Option.bind_some]
                dsimp only
                rw [if_pos (by rfl), round_out hN]
                rfl
end Go.Proofs.Ytbgefpeicmbgiaa
end
