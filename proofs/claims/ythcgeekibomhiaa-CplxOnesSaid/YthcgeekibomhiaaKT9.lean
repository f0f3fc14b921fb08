import Derived.Test.YthcgeekibomhiaaKT4
import Derived.Test.YthcgeekibomhiaaKTDCplx
section
namespace Go.Proofs.Ythcgeekibomhiaa
set_option linter.unusedVariables false
set_option linter.unusedSimpArgs false
open Go.RowKit X D Go.Proofs.YthcgeekibomhiaaW.PrintWords
def bad (a b : Int) : Bool := decide (pC a = 0 ∧ pC b = 3 ∨ pC a = 3 ∧ pC b = 0)
theorem bad_iff (a b : Int) : bad a b = true ↔ pC a = 0 ∧ pC b = 3 ∨ pC a = 3 ∧ pC b = 0 := by unfold bad; exact decide_eq_true_iff
def qMul (a b m : Int) : Int × Int :=
  if 3 < pC a ∨ 3 < pC b then qNone a b else if bad a b = true then (9221120237041090560, 1) else if pC a = 3 ∨ pC b = 3 then (9218868437227405312 + sg (qMi a b), 0) else rRound (qMi a b) (pX a + pX b) ((pS a).toNat * (pS b).toNat) m
theorem nothing_eq {a b : Int} (ha : U a) (hb : U b) : prod_nothing.f a b = some (bad a b) := by
  have z1 := zero_iff (a := a)
  have z2 := zero_iff (a := b)
  have i1 := inf_iff (a := a)
  have i2 := inf_iff (a := b)
  unfold prod_nothing.f bad
  rw [pat_Abs.eq a (inU_of ha), Option.bind_some, pat_Abs.eq b (inU_of hb), Option.bind_some]
  by_cases h0 : pA a = 0
  · have c0 := z1.1 h0
    rw [if_pos h0]
    by_cases h1 : pA b = 9218868437227405312
    · rw [if_pos h1, decide_eq_true (.inl ⟨c0, i2.1 h1⟩)]
    · have : pC b ≠ 3 := fun h => h1 (i2.2 h)
      rw [if_neg h1, if_neg (by omega), decide_eq_false (by omega)]
  · have c0 : pC a ≠ 0 := fun h => h0 (z1.2 h)
    rw [if_neg h0]
    by_cases h1 : pA a = 9218868437227405312
    · have c3 := i1.1 h1
      rw [if_pos h1]
      congr 1
      rw [Bool.eq_iff_iff]
      simp only [decide_eq_true_eq]
      rw [z2]
      omega
    · have : pC a ≠ 3 := fun h => h1 (i1.2 h)
      rw [if_neg h1, decide_eq_false (by omega)]
theorem psign_eq {a b : Int} (ha : U a) (hb : U b) : prod_sign.f a b = some (sg (qMi a b)) := by
  have hx := bits_xor_U a b ha hb
  unfold prod_sign.f qMi
  rw [band_sg _ hx.1, hx.2]
theorem pexact_eq {a b : Int} (ha : U a) (hb : U b) : prod_exact.f a b = some (qMi a b, pX a + pX b, l0 ((pS a).toNat * (pS b).toNat), l1 ((pS a).toNat * (pS b).toNat), l2 ((pS a).toNat * (pS b).toNat), l3 ((pS a).toNat * (pS b).toNat), false) := by
  have sa := pS_bd a
  have sb := pS_bd b
  have xa := pX_bd a
  have xb := pX_bd b
  have ew : wrap64 (pX a + pX b) = pX a + pX b := by unfold wrap64; omega
  unfold prod_exact.f
  rw [pat_Take.eq a (inU_of ha), Option.bind_some, pat_Take.eq b (inU_of hb), Option.bind_some]
  dsimp only
  rw [wide_Of.eq (pS a) (inU_of (U_pS a)), Option.bind_some, wide_Of.eq (pS b) (inU_of (U_pS b)), Option.bind_some]
  dsimp only
  rw [wide_Mul.eq (pS_T a) (pS_T b) (by omega) (by omega), Option.bind_some, ew]
  rfl
theorem prod_lt (a b : Int) : (pS a).toNat * (pS b).toNat < 2 ^ 106 := by
  have sa := pS_bd a
  have sb := pS_bd b
  have h1 : (pS a).toNat < 2 ^ 53 := by rw [show (2 : Nat) ^ 53 = 9007199254740992 from rfl]; omega
  have h2 : (pS b).toNat < 2 ^ 53 := by rw [show (2 : Nat) ^ 53 = 9007199254740992 from rfl]; omega
  have := Nat.mul_lt_mul'' h1 h2
  rw [← Nat.pow_add] at this
  exact this
theorem loud_eq {a b : Int} (ha : U a) (hb : U b) : prod_loud2.f a b = some (qNone a b).2 := by
  unfold prod_loud2.f qNone
  rw [pat_Class.eq a (inU_of ha), Option.bind_some]
  by_cases h : pC a = 5
  · rw [if_pos h, if_pos (.inl h)]
  · rw [if_neg h, pat_Class.eq b (inU_of hb), Option.bind_some]
    by_cases g : pC b = 5
    · rw [if_pos g, if_pos (.inr g)]
    · rw [if_neg g, if_neg (fun z => z.elim h g)]
theorem mul_spec {a b : Int} (m : Int) (ha : U a) (hb : U b) : prod_Mul.f a b m = some (qMul a b m) := by
  have ca := pC_bd a
  have cb := pC_bd b
  have nanj : 3 < pC a ∨ 3 < pC b → prod_Mul.j1 a b = some (qMul a b m) := fun h => by
    unfold prod_Mul.j1 qMul
    rw [loud_eq ha hb, if_pos h]
    rfl
  have infj : pC a = 3 ∨ pC b = 3 → prod_Mul.j0 a b = some (9218868437227405312 + sg (qMi a b), 0) := fun h => by
    unfold prod_Mul.j0
    rw [psign_eq ha hb, Option.bind_some, bor_inf]
  unfold prod_Mul.f
  rw [pat_IsNaN.eq a (inU_of ha), Option.bind_some]
  by_cases n1 : 3 < pC a
  · rw [decide_eq_true n1, if_pos rfl]
    exact nanj (.inl n1)
  · rw [decide_eq_false n1, if_neg (by decide), pat_IsNaN.eq b (inU_of hb), Option.bind_some]
    by_cases n2 : 3 < pC b
    · rw [decide_eq_true n2, if_pos rfl]
      exact nanj (.inr n2)
    · rw [decide_eq_false n2, if_neg (by decide)]
      unfold qMul
      rw [if_neg (fun h => h.elim n1 n2), nothing_eq ha hb, Option.bind_some]
      by_cases hbad : bad a b = true
      · rw [if_pos hbad, if_pos hbad]
      · rw [if_neg hbad, if_neg hbad, pat_Finite.eq a (inU_of ha), Option.bind_some]
        by_cases i1 : pC a = 3
        · rw [decide_eq_false (by omega), if_neg (by decide), if_pos (.inl i1)]
          exact infj (.inl i1)
        · rw [decide_eq_true (by omega), if_pos rfl, pat_Finite.eq b (inU_of hb), Option.bind_some]
          by_cases i2 : pC b = 3
          · rw [decide_eq_false (by omega), if_neg (by decide), if_pos (.inr i2)]
            exact infj (.inr i2)
          · rw [decide_eq_true (by omega), if_pos rfl, if_neg (by omega)]
            have hxa := pX_bd a
            have hxb := pX_bd b
            have hl := prod_lt a b
            have h254 : (pS a).toNat * (pS b).toNat < 2 ^ 254 := Nat.lt_trans hl (by decide)
            have hT : (pS a).toNat * (pS b).toNat < T256 := by rw [T256_eq]; exact Nat.lt_trans hl (by decide)
            have eR := rnd_Round.eq hT (qMi a b) (pX a + pX b) false m h254 (by omega) (by omega)
            rw [pexact_eq ha hb, Option.bind_some]
            dsimp only
            rw [eR]
            rfl
theorem nil_w {r : Nat} (h : r < T256) : (l0 r = 0 ∧ l1 r = 0 ∧ l2 r = 0 ∧ l3 r = 0) ↔ r = 0 := l_eq_zero h
def NumOut (mi : Bool) (e : Int) (s : Nat) (o : Bool) (t : Bool × Int × Nat) : Prop := s < 2 ^ 254 ∧ -131072 ≤ e ∧ e ≤ 131072 ∧ ∀ m, rNum mi e s o m = rRound t.1 t.2.1 t.2.2 m
theorem numOut_self {mi : Bool} {e : Int} {s : Nat} (hs : s < 2 ^ 254) (h0 : -131072 ≤ e) (h1 : e ≤ 131072) : NumOut mi e s false (mi, e, s) := ⟨hs, h0, h1, fun _ => rfl⟩
theorem lt_T {s : Nat} (h : s < 2 ^ 254) : s < T256 := by rw [T256_eq]; exact Nat.lt_trans h (by decide)
def dSum (mx : Bool) (A : Nat) (my : Bool) (e : Int) (sy : Nat) (m : Int) : Bool × Int × Nat :=
  if mx = my then (my, e, A + sy) else if A = sy then (decide (m = 4), e, 0) else if sy < A then (mx, e, A - sy) else (my, e, sy - A)
theorem aligned_eq {mx my : Bool} {ex ey : Int} {sx sy A : Nat} (m : Int) (hA : sx * 2 ^ (ex - ey).toNat = A) (hA2 : A < 2 ^ 250) (hx : sx < T256) (hy : sy < 2 ^ 128) (h0 : -5000 ≤ ex) (h1 : ex ≤ 5000) (g0 : -5000 ≤ ey) (g1 : ey ≤ 5000) :
    ∃ mi e s, NumOut mi e s false (dSum mx A my ey sy m) ∧ sums_aligned.f mx ex (l0 sx) (l1 sx) (l2 sx) (l3 sx) false my ey (l0 sy) (l1 sy) (l2 sy) (l3 sy) false m = some (mi, e, l0 s, l1 s, l2 s, l3 s, false) := by
  have hyT : sy < T256 := by rw [T256_eq]; exact Nat.lt_trans hy (by decide)
  have hAT : A < T256 := by rw [T256_eq]; exact Nat.lt_trans hA2 (by decide)
  have hsum : A + sy < 2 ^ 254 := by
    have h250 : (2 : Nat) ^ 250 + 2 ^ 128 ≤ 2 ^ 254 := by decide
    omega
  have eS := wide_Shl.eq hx (ex - ey)
  rw [hA, Nat.mod_eq_of_lt hAT] at eS
  have ew : wrap64 (ex - ey) = ex - ey := by unfold wrap64; omega
  unfold sums_aligned.f dSum
  rw [ew, eS]
  simp only [Option.bind_some]
  by_cases c : mx = my
  · have eA := wide_Add.eq hAT hyT
    rw [Nat.mod_eq_of_lt (lt_T hsum)] at eA
    have c1 : (mx == my) = true := by rw [c]; simp
    rw [if_pos c1, eA, if_pos c]
    exact ⟨_, _, A + sy, numOut_self hsum (by omega) (by omega), rfl⟩
  · have eC := wide_Cmp.eq hAT hyT
    have c1 : ¬ (mx == my) = true := by simpa using c
    rw [if_neg c1, eC, if_neg c]
    simp only [Option.bind_some]
    by_cases z : A = sy
    · have : cmpI A sy = 0 := by unfold cmpI; rw [z]; simp
      rw [if_pos z, this, if_pos rfl]
      unfold sums_nought.f
      rw [if_neg (by decide)]
      refine ⟨decide (m = 4), 0, 0, ⟨by decide, by omega, by omega, fun m' => ?_⟩, ?_⟩
      · unfold rNum rRound
        rw [if_pos (by rfl), if_pos rfl]
      · simp only [Option.bind_some]
        obtain ⟨n0, n1, n2, n3⟩ := l_nil
        rw [n0, n1, n2, n3]
    · by_cases g : sy < A
      · have : cmpI A sy = 1 := by unfold cmpI; rw [if_neg (by omega), if_pos (by omega)]
        have eB := wide_Sub.eq hAT hyT
        have es : (A + T256 - sy) % T256 = A - sy := by
          rw [show A + T256 - sy = A - sy + T256 by omega, Nat.add_mod_right]
          exact Nat.mod_eq_of_lt (by omega)
        rw [es] at eB
        rw [if_neg z, if_pos g, this, if_neg (show ¬ (1 : Int) = 0 by decide), if_pos rfl, eB]
        have hl : A - sy < 2 ^ 254 := by omega
        exact ⟨_, _, A - sy, numOut_self hl (by omega) (by omega), rfl⟩
      · have : cmpI A sy = -1 := by unfold cmpI; rw [if_pos (by omega)]
        have eB := wide_Sub.eq hyT hAT
        have es : (sy + T256 - A) % T256 = sy - A := by
          rw [show sy + T256 - A = sy - A + T256 by omega, Nat.add_mod_right]
          exact Nat.mod_eq_of_lt (by omega)
        rw [es] at eB
        rw [if_neg z, if_neg g, this, if_neg (show ¬ (-1 : Int) = 0 by decide), if_neg (show ¬ (-1 : Int) = 1 by decide), eB]
        have hl : sy - A < 2 ^ 254 := by omega
        exact ⟨_, _, sy - A, numOut_self hl (by omega) (by omega), rfl⟩
theorem beside_eq {mx my : Bool} {ex ey : Int} {sx sy sh by_ : Nat} (m : Int) (hb : blen sx + by_ = 250) (hsh : ex - (by_ : Int) - ey = (sh : Int)) (hx0 : sx ≠ 0) (hx : sx < T256) (hy : sy < 2 ^ 128) (h0 : -5000 ≤ ex) (h1 : ex ≤ 5000) (g0 : -5000 ≤ ey) (g1 : ey ≤ 5000) :
    ∃ mi e s o, NumOut mi e s o (dSum mx (sx * 2 ^ (ex - ey).toNat) my ey sy m) ∧ sums_beside.f mx ex (l0 sx) (l1 sx) (l2 sx) (l3 sx) false my ey (l0 sy) (l1 sy) (l2 sy) (l3 sy) false = some (mi, e, l0 s, l1 s, l2 s, l3 s, o) := by
  have hyT : sy < T256 := by rw [T256_eq]; exact Nat.lt_trans hy (by decide)
  obtain ⟨S, hS⟩ : ∃ S, sx * 2 ^ by_ = S := ⟨_, rfl⟩
  have hbS : blen S = 250 := by rw [← hS, blen_mul_pow hx0, hb]
  have hS1 : S < 2 ^ 250 := blen_le_iff.1 (by omega)
  have hS2 : 2 ^ 249 ≤ S := by
    have := blen_le (n := S) (by intro z; rw [z, blen_zero] at hbS; omega)
    rw [hbS] at this
    exact this
  have hA : sx * 2 ^ (ex - ey).toNat = S * 2 ^ sh := by
    rw [← hS, Nat.mul_assoc, ← Nat.pow_add]
    congr 2
    omega
  have hST : S < T256 := by rw [T256_eq]; exact Nat.lt_trans hS1 (by decide)
  obtain ⟨q, hq⟩ : ∃ q, sy / 2 ^ sh = q := ⟨_, rfl⟩
  have hq2 : q < 2 ^ 128 := by rw [← hq]; exact Nat.lt_of_le_of_lt (Nat.div_le_self _ _) hy
  have hqT : q < T256 := by rw [T256_eq]; exact Nat.lt_trans hq2 (by decide)
  have k1 : (2 : Nat) ^ 250 + 2 ^ 128 ≤ 2 ^ 254 := by decide
  have k2 : (2 : Nat) ^ 54 + 2 ^ 128 + 1 ≤ 2 ^ 249 := by decide
  have eL := wide_Len.eq hx
  have w1 : wrap64 (250 - (blen sx : Int)) = (by_ : Int) := by unfold wrap64; omega
  have w2 : wrap64 (ex - (by_ : Int)) = ex - by_ := by unfold wrap64; omega
  have w3 : wrap64 (ex - (by_ : Int) - ey) = (sh : Int) := by unfold wrap64; omega
  have eR := wide_Shr.eq hyT (sh : Int)
  have eS := wide_Shl.eq hx (by_ : Int)
  rw [show ((sh : Int)).toNat = sh from rfl, hq] at eR
  rw [show ((by_ : Int)).toNat = by_ from rfl, hS, Nat.mod_eq_of_lt hST] at eS
  have he0 : -131072 ≤ ex - (by_ : Int) ∧ ex - (by_ : Int) ≤ 131072 := by omega
  have hee : ey + (sh : Int) = ex - by_ := by omega
  rw [hA]
  unfold sums_beside.f dSum
  rw [eL]
  simp only [Option.bind_some]
  rw [w1, w2, w3, eR]
  simp only [Option.bind_some]
  rw [eS]
  simp only [Option.bind_some]
  by_cases c : mx = my
  · have hl : S + q < 2 ^ 254 := by omega
    have eA := wide_Add.eq hST hqT
    rw [Nat.mod_eq_of_lt (lt_T hl)] at eA
    obtain ⟨b1, b2⟩ := beside_add (S := S) (y := sy) (sh := sh)
    rw [hq] at b1
    have c1 : (mx == my) = true := by rw [c]; simp
    rw [if_pos c1, eA, if_pos c]
    refine ⟨mx, _, S + q, _, ⟨hl, he0.1, he0.2, fun m' => ?_⟩, rfl⟩
    have h := rNum_cut my ey (S * 2 ^ sh + sy) sh m' (by rw [b1]; omega)
    rw [b1, b2, hee] at h
    rw [c]
    exact h
  · have hlt : q < S := by omega
    obtain ⟨b1, b2⟩ := beside_sub (S := S) (y := sy) (sh := sh) (by rw [hq]; exact hlt)
    rw [hq] at b1
    have hAy : sy < S * 2 ^ sh := by
      have h3 := Nat.lt_of_lt_of_le (Nat.lt_of_lt_of_le hy (show 2 ^ 128 ≤ S by omega)) (Nat.le_mul_of_pos_right S (Nat.two_pow_pos sh))
      exact h3
    have eB := wide_Sub.eq hST hqT
    have es : (S + T256 - q) % T256 = S - q := by
      rw [show S + T256 - q = S - q + T256 by omega, Nat.add_mod_right]
      exact Nat.mod_eq_of_lt (by omega)
    rw [es] at eB
    have c1 : ¬ (mx == my) = true := by simpa using c
    rw [if_neg c1, eB, if_neg c, if_neg (by omega), if_pos hAy]
    simp only [Option.bind_some]
    have key : ∀ m', rNum mx (ex - by_) (S - q - (if sy % 2 ^ sh ≠ 0 then 1 else 0)) (decide (sy % 2 ^ sh ≠ 0)) m' = rRound mx ey (S * 2 ^ sh - sy) m' := fun m' => by
      have h := rNum_cut mx ey (S * 2 ^ sh - sy) sh m' (by rw [b1]; split <;> omega)
      have e : decide ((S * 2 ^ sh - sy) % 2 ^ sh ≠ 0) = decide (sy % 2 ^ sh ≠ 0) := by rw [Bool.eq_iff_iff, decide_eq_true_iff, decide_eq_true_iff]; exact b2
      rw [b1, e, hee] at h
      exact h
    by_cases z : sy % 2 ^ sh = 0
    · rw [decide_eq_false (by omega), if_neg (by decide)]
      rw [decide_eq_false (by omega), if_neg (by omega), Nat.sub_zero] at key
      have hl : S - q < 2 ^ 254 := by omega
      exact ⟨mx, _, S - q, _, ⟨hl, he0.1, he0.2, key⟩, rfl⟩
    · rw [decide_eq_true z, if_pos rfl]
      rw [decide_eq_true z, if_pos z] at key
      have hl : S - q - 1 < 2 ^ 254 := by omega
      have hqS : S - q < T256 := by omega
      have eO := wide_Of.eq 1 (by decide)
      have eD := wide_Sub.eq hqS (show Int.toNat 1 < T256 by decide)
      have es2 : (S - q + T256 - Int.toNat 1) % T256 = S - q - 1 := by
        rw [show Int.toNat 1 = 1 from rfl, show S - q + T256 - 1 = S - q - 1 + T256 by omega, Nat.add_mod_right]
        exact Nat.mod_eq_of_lt (by omega)
      rw [es2] at eD
      rw [eO]
      simp only [Option.bind_some]
      rw [eD]
      simp only [Option.bind_some]
      exact ⟨mx, _, S - q - 1, _, ⟨hl, he0.1, he0.2, key⟩, rfl⟩
theorem join_tail {mx my : Bool} {ex ey : Int} {sx sy : Nat} (m : Int) (hle : ey ≤ ex) (hx0 : sx ≠ 0) (hx : sx < 2 ^ 128) (hy : sy < 2 ^ 128) (h0 : -5000 ≤ ex) (h1 : ex ≤ 5000) (g0 : -5000 ≤ ey) (g1 : ey ≤ 5000) :
    ∃ mi e s o, NumOut mi e s o (dSum mx (sx * 2 ^ (ex - ey).toNat) my ey sy m) ∧ (Option.bind (wide_Len.f (l0 sx) (l1 sx) (l2 sx) (l3 sx)) fun q => if wrap64 (wrap64 (q + ex) - ey) < 250 then Option.bind (sums_aligned.f mx ex (l0 sx) (l1 sx) (l2 sx) (l3 sx) false my ey (l0 sy) (l1 sy) (l2 sy) (l3 sy) false m) fun q => some (q.1, q.2.1, q.2.2.1, q.2.2.2.1, q.2.2.2.2.1, q.2.2.2.2.2.1, q.2.2.2.2.2.2) else Option.bind (sums_beside.f mx ex (l0 sx) (l1 sx) (l2 sx) (l3 sx) false my ey (l0 sy) (l1 sy) (l2 sy) (l3 sy) false) fun q => some (q.1, q.2.1, q.2.2.1, q.2.2.2.1, q.2.2.2.2.1, q.2.2.2.2.2.1, q.2.2.2.2.2.2)) = some (mi, e, l0 s, l1 s, l2 s, l3 s, o) := by
  have hxT : sx < T256 := by rw [T256_eq]; exact Nat.lt_trans hx (by decide)
  have hb : blen sx ≤ 128 := blen_le_iff.2 hx
  have eL := wide_Len.eq hxT
  have ew : wrap64 (wrap64 ((blen sx : Int) + ex) - ey) = (blen sx : Int) + ex - ey := by unfold wrap64; omega
  rw [eL, Option.bind_some, ew]
  by_cases c : (blen sx : Int) + ex - ey < 250
  · have hA2 : sx * 2 ^ (ex - ey).toNat < 2 ^ 250 := by
      refine Nat.lt_of_lt_of_le (Nat.mul_lt_mul_of_pos_right (blen_lt sx) (Nat.two_pow_pos _)) ?_
      rw [← Nat.pow_add]
      exact Nat.pow_le_pow_right (by omega) (by omega)
    obtain ⟨mi, e, s, hN, hE⟩ := aligned_eq (mx := mx) (my := my) (sx := sx) (sy := sy) m rfl hA2 hxT hy h0 h1 g0 g1
    rw [if_pos c, hE]
    exact ⟨mi, e, s, false, hN, rfl⟩
  · obtain ⟨b, hbb⟩ : ∃ b, blen sx + b = 250 := ⟨250 - blen sx, by omega⟩
    obtain ⟨sh, hsh⟩ : ∃ sh : Nat, ex - (b : Int) - ey = sh := ⟨(ex - (b : Int) - ey).toNat, by omega⟩
    obtain ⟨mi, e, s, o, hN, hE⟩ := beside_eq (mx := mx) (my := my) (sx := sx) (sy := sy) m hbb hsh hx0 hxT hy h0 h1 g0 g1
    rw [if_neg c, hE]
    exact ⟨mi, e, s, o, hN, rfl⟩
theorem join_eq {mx my : Bool} {ex ey : Int} {sx sy : Nat} (m : Int) (hx : sx < 2 ^ 128) (hy : sy < 2 ^ 128) (h0 : -5000 ≤ ex) (h1 : ex ≤ 5000) (g0 : -5000 ≤ ey) (g1 : ey ≤ 5000) :
    ∃ mi e s o, NumOut mi e s o (sSum mx ex sx my ey sy m) ∧ sums_join.f mx ex (l0 sx) (l1 sx) (l2 sx) (l3 sx) false my ey (l0 sy) (l1 sy) (l2 sy) (l3 sy) false m = some (mi, e, l0 s, l1 s, l2 s, l3 s, o) := by
  have hxT : sx < T256 := by rw [T256_eq]; exact Nat.lt_trans hx (by decide)
  have hyT : sy < T256 := by rw [T256_eq]; exact Nat.lt_trans hy (by decide)
  have nx := nil_w hxT
  have ny := nil_w hyT
  unfold sums_join.f
  by_cases zx : sx = 0
  · rw [if_pos (nx.2 zx)]
    by_cases zy : sy = 0
    · rw [if_pos (ny.2 zy)]
      unfold sums_nought.f sSum
      rw [if_pos zx, if_pos zy]
      have z0 : ∀ c : Bool, NumOut c 0 0 false (c, ex, 0) := fun c => ⟨by decide, by omega, by omega, fun m' => by unfold rNum rRound; rw [if_pos (by rfl), if_pos rfl]⟩
      obtain ⟨n0, n1, n2, n3⟩ := l_nil
      by_cases c : mx = my
      · have c1 : (mx == my) = true := by rw [c]; simp
        rw [if_pos c1, if_pos c]
        refine ⟨mx, 0, 0, false, z0 mx, ?_⟩
        rw [n0, n1, n2, n3]
        rfl
      · have c1 : ¬ (mx == my) = true := by simpa using c
        rw [if_neg c1, if_neg c]
        refine ⟨decide (m = 4), 0, 0, false, z0 _, ?_⟩
        rw [n0, n1, n2, n3]
        rfl
    · rw [if_neg (fun h => zy (ny.1 h))]
      unfold sums_join.j0 sSum
      rw [if_pos (nx.2 zx), if_pos zx, if_neg zy]
      exact ⟨_, _, sy, _, numOut_self (Nat.lt_trans hy (by decide)) (by omega) (by omega), rfl⟩
  · rw [if_neg (fun h => zx (nx.1 h))]
    unfold sums_join.j0
    rw [if_neg (fun h => zx (nx.1 h))]
    by_cases zy : sy = 0
    · rw [if_pos (ny.2 zy)]
      unfold sSum
      rw [if_neg zx, if_pos zy]
      exact ⟨_, _, sx, _, numOut_self (Nat.lt_trans hx (by decide)) (by omega) (by omega), rfl⟩
    · rw [if_neg (fun h => zy (ny.1 h))]
      unfold sSum
      rw [if_neg zx, if_neg zy]
      by_cases c : ex < ey
      · obtain ⟨mi, e, s, o, hN, hE⟩ := join_tail (mx := my) (my := mx) (ex := ey) (ey := ex) (sx := sy) (sy := sx) m (by omega) zy hy hx g0 g1 h0 h1
        have ed : dSum my (sy * 2 ^ (ey - ex).toNat) mx ex sx m = (if mx = my then (mx, ex, sy * 2 ^ (ey - ex).toNat + sx) else if sy * 2 ^ (ey - ex).toNat = sx then (decide (m = 4), ex, 0) else if sx < sy * 2 ^ (ey - ex).toNat then (my, ex, sy * 2 ^ (ey - ex).toNat - sx) else (mx, ex, sx - sy * 2 ^ (ey - ex).toNat)) := by
          unfold dSum
          by_cases g : mx = my
          · rw [if_pos g, if_pos g.symm]
          · rw [if_neg g, if_neg (fun h => g h.symm)]
        rw [if_pos c, if_neg (by omega), ← ed]
        exact ⟨mi, e, s, o, hN, hE⟩
      · obtain ⟨mi, e, s, o, hN, hE⟩ := join_tail (mx := mx) (my := my) (ex := ex) (ey := ey) (sx := sx) (sy := sy) m (by omega) zx hx hy h0 h1 g0 g1
        rw [if_neg c, if_pos (by omega)]
        exact ⟨mi, e, s, o, hN, hE⟩
def qSumR (mx : Bool) (ex : Int) (sx : Nat) (my : Bool) (ey : Int) (sy : Nat) (m : Int) : Int × Int := rRound (sSum mx ex sx my ey sy m).1 (sSum mx ex sx my ey sy m).2.1 (sSum mx ex sx my ey sy m).2.2 m
def qAdd (a b m : Int) : Int × Int := if 3 < pC a ∨ 3 < pC b then qNone a b else if pC a = 3 ∧ pC b = 3 ∧ a ≠ b then (9221120237041090560, 1) else if pC a = 3 then (a, 0) else if pC b = 3 then (b, 0) else qSumR (pM a) (pX a) (pS a).toNat (pM b) (pX b) (pS b).toNat m
def qFma (a b c m : Int) : Int × Int :=
  if bad a b = true then (9221120237041090560, 1)
  else if 3 < pC a ∨ 3 < pC b ∨ 3 < pC c then (9221120237041090560, if pC a = 5 ∨ pC b = 5 ∨ pC c = 5 then 1 else 0)
  else if pC a = 3 ∨ pC b = 3 then (if pC c = 3 ∧ c ≠ 9218868437227405312 + sg (qMi a b) then (9221120237041090560, 1) else (9218868437227405312 + sg (qMi a b), 0))
  else if pC c = 3 then (c, 0)
  else qSumR (qMi a b) (pX a + pX b) ((pS a).toNat * (pS b).toNat) (pM c) (pX c) (pS c).toNat m
theorem pS_128 (a : Int) : (pS a).toNat < 2 ^ 128 := by
  have := pS_bd a
  exact Nat.lt_trans (show (pS a).toNat < 2 ^ 53 by rw [show (2 : Nat) ^ 53 = 9007199254740992 from rfl]; omega) (by decide)
theorem round_out {mi : Bool} {e : Int} {s : Nat} {o : Bool} {t : Bool × Int × Nat} (h : NumOut mi e s o t) (m : Int) : rnd_Round.f mi e (l0 s) (l1 s) (l2 s) (l3 s) o m = some (rRound t.1 t.2.1 t.2.2 m) := by
  obtain ⟨h1, h2, h3, h4⟩ := h
  rw [rnd_Round.eq (lt_T h1) mi e o m h1 h2 h3, ← h4 m]
  rfl
theorem snone_eq {a b : Int} (ha : U a) (hb : U b) : sums_none.f a b = some (qNone a b) := by
  unfold sums_none.f qNone
  rw [pat_Class.eq a (inU_of ha), Option.bind_some]
  by_cases h : pC a = 5
  · rw [if_pos h, if_pos (.inl h)]
  · rw [if_neg h, pat_Class.eq b (inU_of hb), Option.bind_some]
    by_cases g : pC b = 5
    · rw [if_pos g, if_pos (.inr g)]
    · rw [if_neg g, if_neg (fun z => z.elim h g)]
theorem loud3_eq {a b c : Int} (ha : U a) (hb : U b) (hc : U c) : prod_loud3.f a b c = some (if pC a = 5 ∨ pC b = 5 ∨ pC c = 5 then 1 else 0) := by
  unfold prod_loud3.f
  rw [pat_Class.eq a (inU_of ha), Option.bind_some]
  by_cases h : pC a = 5
  · rw [if_pos h, if_pos (.inl h)]
  · rw [if_neg h, pat_Class.eq b (inU_of hb), Option.bind_some]
    by_cases g : pC b = 5
    · rw [if_pos g, if_pos (.inr (.inl g))]
    · rw [if_neg g, pat_Class.eq c (inU_of hc), Option.bind_some]
      by_cases z : pC c = 5
      · rw [if_pos z, if_pos (.inr (.inr z))]
      · rw [if_neg z, if_neg (by rintro (q | q | q) <;> contradiction)]
theorem add_spec {a b : Int} (m : Int) (ha : U a) (hb : U b) : sums_Add.f a b m = some (qAdd a b m) := by
  have ca := pC_bd a
  have cb := pC_bd b
  have nanj : 3 < pC a ∨ 3 < pC b → sums_Add.j1 a b = some (qAdd a b m) := fun h => by
    unfold sums_Add.j1 qAdd
    rw [snone_eq ha hb, if_pos h]
    rfl
  unfold sums_Add.f
  rw [pat_IsNaN.eq a (inU_of ha), Option.bind_some]
  by_cases n1 : 3 < pC a
  · rw [decide_eq_true n1, if_pos rfl]
    exact nanj (.inl n1)
  · rw [decide_eq_false n1, if_neg (by decide), pat_IsNaN.eq b (inU_of hb), Option.bind_some]
    by_cases n2 : 3 < pC b
    · rw [decide_eq_true n2, if_pos rfl]
      exact nanj (.inr n2)
    · have tail : ¬ (pC a = 3 ∧ pC b = 3 ∧ a ≠ b) → sums_Add.j0 a b m = some (qAdd a b m) := fun hq => by
        unfold sums_Add.j0 qAdd
        rw [if_neg (fun h => h.elim n1 n2), if_neg hq, pat_Class.eq a (inU_of ha), Option.bind_some]
        by_cases i1 : pC a = 3
        · rw [if_pos i1, if_pos i1]
        · rw [if_neg i1, if_neg i1, pat_Class.eq b (inU_of hb), Option.bind_some]
          by_cases i2 : pC b = 3
          · rw [if_pos i2, if_pos i2]
          · have xa := pX_bd a
            have xb := pX_bd b
            obtain ⟨mi, e, s, o, hN, hE⟩ := join_eq (mx := pM a) (my := pM b) (ex := pX a) (ey := pX b) (sx := (pS a).toNat) (sy := (pS b).toNat) m (pS_128 a) (pS_128 b) (by omega) (by omega) (by omega) (by omega)
            rw [if_neg i2, if_neg i2, rnd_Of.eq a (inU_of ha), if_pos (by omega), Option.bind_some, rnd_Of.eq b (inU_of hb), if_pos (by omega), Option.bind_some]
            dsimp only
            rw [if_neg (fun h => h rfl), if_neg (fun h => h rfl), hE, Option.bind_some]
            dsimp only
            rw [round_out hN]
            rfl
      rw [decide_eq_false n2, if_neg (by decide), pat_Class.eq a (inU_of ha), Option.bind_some]
      by_cases i1 : pC a = 3
      · rw [if_pos i1, pat_Class.eq b (inU_of hb), Option.bind_some]
        by_cases i2 : pC b = 3
        · rw [if_pos i2]
          by_cases e : a = b
          · rw [if_neg (fun h => h e)]
            exact tail (fun h => h.2.2 e)
          · rw [if_pos e]
            unfold qAdd
            rw [if_neg (fun h => h.elim n1 n2), if_pos ⟨i1, i2, e⟩]
        · rw [if_neg i2]
          exact tail (fun h => i2 h.2.1)
      · rw [if_neg i1]
        exact tail (fun h => i1 h.1)
theorem right_eq {mi : Bool} {e : Int} {s : Nat} (hs : s < 2 ^ 128) (h0 : -5000 ≤ e) (h1 : e ≤ 5000) : sums_right.f mi e (l0 s) (l1 s) (l2 s) (l3 s) false = some true := by
  have hT : s < T256 := by rw [T256_eq]; exact Nat.lt_trans hs (by decide)
  have hb : blen s ≤ 128 := blen_le_iff.2 hs
  unfold sums_right.f
  rw [wide_Len.eq hT, Option.bind_some, if_pos (by omega), if_pos (by decide), if_pos (by omega), decide_eq_true (by omega)]
theorem inf_words (b : Bool) : pC (9218868437227405312 + sg b) = 3 ∧ U (9218868437227405312 + sg b) := by
  refine ⟨?_, sgU (by omega) (by omega) b⟩
  rw [(C_same (sgAA 9218868437227405312 b)).1]
  decide
theorem fma_spec {a b c : Int} (m : Int) (ha : U a) (hb : U b) (hc : U c) : prod_Fma.f a b c m = some (qFma a b c m) := by
  have ca := pC_bd a
  have cb := pC_bd b
  have cc := pC_bd c
  have nanj : prod_Fma.j0 a b c = some (9221120237041090560, if pC a = 5 ∨ pC b = 5 ∨ pC c = 5 then 1 else 0) := by
    unfold prod_Fma.j0
    rw [loud3_eq ha hb hc]
    rfl
  unfold prod_Fma.f qFma
  rw [psign_eq ha hb, Option.bind_some, nothing_eq ha hb, Option.bind_some]
  by_cases hbad : bad a b = true
  · rw [if_pos hbad, if_pos hbad]
  · rw [if_neg hbad, if_neg hbad, bor_inf]
    rw [pat_IsNaN.eq a (inU_of ha), Option.bind_some]
    by_cases n1 : 3 < pC a
    · rw [decide_eq_true n1, if_pos rfl, if_pos (.inl n1)]
      exact nanj
    · rw [decide_eq_false n1, if_neg (by decide), pat_IsNaN.eq b (inU_of hb), Option.bind_some]
      by_cases n2 : 3 < pC b
      · rw [decide_eq_true n2, if_pos rfl, if_pos (.inr (.inl n2))]
        exact nanj
      · rw [decide_eq_false n2, if_neg (by decide), pat_IsNaN.eq c (inU_of hc), Option.bind_some]
        by_cases n3 : 3 < pC c
        · rw [decide_eq_true n3, if_pos rfl, if_pos (.inr (.inr n3))]
          exact nanj
        · rw [decide_eq_false n3, if_neg (by decide), if_neg (show ¬ (3 < pC a ∨ 3 < pC b ∨ 3 < pC c) by omega)]
          rw [pat_Finite.eq a (inU_of ha), Option.bind_some]
          obtain ⟨ic, iu⟩ := inf_words (qMi a b)
          have infj : pC a = 3 ∨ pC b = 3 → (Option.bind (sums_Add.f (9218868437227405312 + sg (qMi a b)) c m) fun q => some (q.1, q.2)) = some (if pC c = 3 ∧ c ≠ 9218868437227405312 + sg (qMi a b) then (9221120237041090560, 1) else (9218868437227405312 + sg (qMi a b), 0)) := fun h => by
            rw [add_spec m iu hc, Option.bind_some]
            unfold qAdd
            rw [ic, if_neg (by omega)]
            by_cases g : pC c = 3 ∧ c ≠ 9218868437227405312 + sg (qMi a b)
            · rw [if_pos ⟨rfl, g.1, fun z => g.2 z.symm⟩, if_pos g]
            · rw [if_neg (fun z => g ⟨z.2.1, fun y => z.2.2 y.symm⟩), if_neg g, if_pos rfl]
          by_cases i1 : pC a = 3
          · rw [decide_eq_false (by omega), if_neg (by decide), if_pos (.inl i1)]
            exact infj (.inl i1)
          · rw [decide_eq_true (by omega), if_pos rfl, pat_Finite.eq b (inU_of hb), Option.bind_some]
            by_cases i2 : pC b = 3
            · rw [decide_eq_false (by omega), if_neg (by decide), if_pos (.inr i2)]
              exact infj (.inr i2)
            · rw [decide_eq_true (by omega), if_pos rfl, if_neg (show ¬ (pC a = 3 ∨ pC b = 3) by omega)]
              rw [pat_Finite.eq c (inU_of hc), Option.bind_some]
              by_cases i3 : pC c = 3
              · rw [decide_eq_false (by omega), if_neg (by decide), if_pos i3]
              · have xa := pX_bd a
                have xb := pX_bd b
                have xc := pX_bd c
                have hl : (pS a).toNat * (pS b).toNat < 2 ^ 128 := Nat.lt_trans (prod_lt a b) (by decide)
                obtain ⟨mi, e, s, o, hN, hE⟩ := join_eq (mx := qMi a b) (my := pM c) (ex := pX a + pX b) (ey := pX c) (sx := (pS a).toNat * (pS b).toNat) (sy := (pS c).toNat) m hl (pS_128 c) (by omega) (by omega) (by omega) (by omega)
                rw [decide_eq_true (by omega), if_pos rfl, if_neg i3, rnd_Of.eq c (inU_of hc), if_pos (by omega), Option.bind_some]
                dsimp only
                rw [if_neg (fun h => h rfl), pexact_eq ha hb, Option.bind_some]
                dsimp only
                unfold sums_Exact.f
                rw [right_eq hl (by omega) (by omega), Option.bind_some, if_pos rfl, right_eq (pS_128 c) (by omega) (by omega), Option.bind_some, if_pos rfl, hE, Option.bind_some, Option.bind_some]
                dsimp only
                rw [if_neg (fun h => h rfl), round_out hN]
                rfl
end Go.Proofs.Ythcgeekibomhiaa
end
section
namespace Go.Proofs.Ythcgeekibomhiaa
set_option linter.unusedVariables false
set_option linter.unusedSimpArgs false
open Go.RowKit X D Go.Proofs.YthcgeekibomhiaaW.PrintWords
theorem round_U (mi : Bool) (x : Int) (s : Nat) (m : Int) : U (rRound mi x s m).1 := by
  obtain ⟨A, f, h0, h1, e, _⟩ := round_sw mi x s m
  rw [e]
  exact sgU h0 (by omega) _
theorem nan_U : U 9221120237041090560 := by unfold U; omega
theorem qNone_nan (a b : Int) : (qNone a b).1 = 9221120237041090560 := by unfold qNone; rfl
theorem qMul_U (a b m : Int) : U (qMul a b m).1 := by
  unfold qMul
  split
  · rw [qNone_nan]; exact nan_U
  · split
    · exact nan_U
    · split
      · exact sgU (by omega) (by omega) _
      · exact round_U _ _ _ _
theorem qFma_U (a b : Int) {c : Int} (m : Int) (hc : U c) : U (qFma a b c m).1 := by
  unfold qFma
  split
  · exact nan_U
  · split
    · exact nan_U
    · split
      · split
        · exact nan_U
        · exact sgU (by omega) (by omega) _
      · split
        · exact hc
        · exact round_U _ _ _ _
def por (a b : Int) : Int := bits .or .u8 a b
def cMul (a b c d : Int) : Int × Int × Int :=
  ((qFma a c (pN (qMul b d 0).1) 0).1, (qFma a d (qMul b c 0).1 0).1,
    por (por (por (qMul b d 0).2 (qFma a c (pN (qMul b d 0).1) 0).2) (qMul b c 0).2) (qFma a d (qMul b c 0).1 0).2)
theorem cmul_spec {a b c d : Int} (ha : U a) (hb : U b) (hc : U c) (hd : U d) : cplx_Mul.f a b c d = some (cMul a b c d) := by
  have h1 := qMul_U b d 0
  unfold cplx_Mul.f
  rw [mul_spec 0 hb hd, Option.bind_some, pat_Neg.eq _ (inU_of h1), Option.bind_some, fma_spec 0 ha hc (U_N _ h1), Option.bind_some, mul_spec 0 hb hc, Option.bind_some, fma_spec 0 ha hd (qMul_U b c 0), Option.bind_some]
  rfl
theorem turn_eq {a b : Int} (ha : U a) (hb : U b) (k : Bool) : cplx_Turn.f a b k = some (if k = true then (b, pN a) else (pN b, a)) := by
  unfold cplx_Turn.f
  rw [pat_Neg.eq a (inU_of ha), pat_Neg.eq b (inU_of hb)]
  cases k <;> rfl
theorem conj_eq {a b : Int} (hb : U b) : cplx_Conj.f a b = some (a, pN b) := by
  unfold cplx_Conj.f
  rw [pat_Neg.eq b (inU_of hb)]
  rfl
theorem rneg_eq {a : Int} (ha : U a) : ref03_Neg.f a = some (pN a) := by
  unfold ref03_Neg.f pN
  unfold U at ha
  split
  · rw [if_neg (by omega)]; congr 1; omega
  · rw [if_pos (by omega)]; congr 1; omega
theorem rturn_eq {a b : Int} (ha : U a) (hb : U b) (k : Bool) : ref17_Turn.f a b k = some (if k = true then (b, pN a) else (pN b, a)) := by
  unfold ref17_Turn.f
  rw [rneg_eq ha, rneg_eq hb]
  cases k <;> rfl
theorem rconj_eq {a b : Int} (hb : U b) : ref17_Conj.f a b = some (a, pN b) := by
  unfold ref17_Conj.f
  rw [rneg_eq hb]
  rfl
theorem NN {a : Int} (ha : U a) : pN (pN a) = a := by unfold pN U at *; split <;> split <;> omega
theorem csure : l17_sure.f = some true := by
  unfold l17_sure.f
  have h1 : U 4607182418800017408 := by unfold U; omega
  rw [cmul_spec h1 h1 h1 h1]
  decide +kernel
theorem sSum_N (mx : Bool) (ex : Int) (sx : Nat) (my : Bool) (ey : Int) (sy : Nat) :
    (sSum (!mx) ex sx (!my) ey sy 0).2 = (sSum mx ex sx my ey sy 0).2 ∧ ((sSum mx ex sx my ey sy 0).2.2 ≠ 0 → (sSum (!mx) ex sx (!my) ey sy 0).1 = !(sSum mx ex sx my ey sy 0).1) := by
  by_cases h : mx = my
  · have h' : (!mx) = (!my) := by rw [h]
    unfold sSum
    simp only [if_pos h, if_pos h']
    split
    · split
      · exact ⟨rfl, fun h => absurd rfl h⟩
      · exact ⟨rfl, fun _ => rfl⟩
    · split
      · exact ⟨rfl, fun _ => rfl⟩
      · split <;> exact ⟨rfl, fun _ => rfl⟩
  · have h' : ¬ (!mx) = (!my) := by revert h; cases mx <;> cases my <;> simp
    unfold sSum
    simp only [if_neg h, if_neg h']
    split
    · split
      · exact ⟨rfl, fun h => absurd rfl h⟩
      · exact ⟨rfl, fun _ => rfl⟩
    · split
      · exact ⟨rfl, fun _ => rfl⟩
      · split
        · split
          · exact ⟨rfl, fun h => absurd rfl h⟩
          · split <;> exact ⟨rfl, fun _ => rfl⟩
        · split
          · exact ⟨rfl, fun h => absurd rfl h⟩
          · split <;> exact ⟨rfl, fun _ => rfl⟩
theorem sumR_N (mx : Bool) (ex : Int) (sx : Nat) (my : Bool) (ey : Int) (sy : Nat) :
    ∃ A f s s', 0 ≤ A ∧ A ≤ 9218868437227405312 ∧ qSumR mx ex sx my ey sy 0 = (A + sg s, f) ∧ qSumR (!mx) ex sx (!my) ey sy 0 = (A + sg s', f) ∧ (A ≠ 0 → s' = !s) := by
  obtain ⟨h1, h2⟩ := sSum_N mx ex sx my ey sy
  unfold qSumR
  rw [h1]
  generalize sSum mx ex sx my ey sy 0 = t at *
  generalize (sSum (!mx) ex sx (!my) ey sy 0).1 = b at *
  obtain ⟨ti, te, ts⟩ := t
  dsimp only at *
  by_cases z : ts = 0
  · subst z
    refine ⟨0, 0, ti, b, by omega, by omega, ?_, ?_, fun h => absurd rfl h⟩
    · unfold rRound; rw [if_pos rfl, Int.zero_add]
    · unfold rRound; rw [if_pos rfl, Int.zero_add]
  · obtain ⟨A, f, k0, k1, k2, k3⟩ := round_sw ti te ts 0
    rw [h2 z]
    exact ⟨A, f, ti, !ti, k0, k1, k2, k3, fun _ => rfl⟩
theorem bad_N (a b : Int) : bad a (pN b) = bad a b := by unfold bad; rw [pC_N]
theorem qMi_Nr (a : Int) {b : Int} (hb : U b) : qMi a (pN b) = !qMi a b := by unfold qMi; rw [pM_N hb]; cases pM a <;> cases pM b <;> rfl
theorem qMi_Nl {a : Int} (ha : U a) (b : Int) : qMi (pN a) b = !qMi a b := by unfold qMi; rw [pM_N ha]; cases pM a <;> cases pM b <;> rfl
theorem fma_nan {a b c : Int} (hc : 3 < pC c) : ∃ f, qFma a b c 0 = (9221120237041090560, f) ∧ qFma a (pN b) c 0 = (9221120237041090560, f) := by
  unfold qFma
  rw [bad_N, pC_N]
  split
  · exact ⟨_, rfl, rfl⟩
  · have h : 3 < pC a ∨ 3 < pC b ∨ 3 < pC c := .inr (.inr hc)
    rw [if_pos h, if_pos h]
    exact ⟨_, rfl, rfl⟩
theorem inf_sg {c : Int} (hc : U c) (h : pC c = 3) : c = 9218868437227405312 + sg (pM c) := by
  have h1 := infA_iff.2 h
  have h2 := pA_sg hc
  rw [h1] at h2; exact h2
theorem sg_inj {A : Int} {a b : Bool} (h : A + sg a = A + sg b) : a = b := by cases a <;> cases b <;> simp only [sg] at h <;> first | rfl | (exfalso; simp at h; omega)
theorem fma_N {a b c : Int} (hb : U b) (hc : U c) :
    (∃ f, qFma a b c 0 = (9221120237041090560, f) ∧ qFma a (pN b) (pN c) 0 = (9221120237041090560, f)) ∨
    (∃ A f s s', 0 ≤ A ∧ A ≤ 9218868437227405312 ∧ qFma a b c 0 = (A + sg s, f) ∧ qFma a (pN b) (pN c) 0 = (A + sg s', f) ∧ (A ≠ 0 → s' = !s)) := by
  unfold qFma
  rw [bad_N, pC_N, pC_N, qMi_Nr a hb, pX_N, pX_N, pS_N, pS_N, pM_N hc]
  split
  · exact .inl ⟨_, rfl, rfl⟩
  · split
    · exact .inl ⟨_, rfl, rfl⟩
    · split
      · by_cases i : pC c = 3
        · have e1 := inf_sg hc i
          have e2 : pN c = 9218868437227405312 + sg (!pM c) := by
            have := pN_sg (A := 9218868437227405312) (by omega) (by omega) (pM c)
            rw [← e1] at this; exact this
          by_cases q : pM c = qMi a b
          · rw [if_neg (fun h => h.2 (by rw [← q]; exact e1)), if_neg (fun h => h.2 (by rw [e2, q]))]
            exact .inr ⟨_, _, _, _, by omega, by omega, rfl, rfl, fun _ => rfl⟩
          · rw [if_pos ⟨i, fun h => q (sg_inj (A := 9218868437227405312) (by rw [← e1]; exact h))⟩, if_pos ⟨i, fun h => q (by have := sg_inj (A := 9218868437227405312) (e2.symm.trans h); revert this; cases pM c <;> cases qMi a b <;> simp)⟩]
            exact .inl ⟨_, rfl, rfl⟩
        · rw [if_neg (fun h => i h.1), if_neg (fun h => i h.1)]
          exact .inr ⟨_, _, _, _, by omega, by omega, rfl, rfl, fun _ => rfl⟩
      · split
        · rename_i i
          have e1 := inf_sg hc i
          have e2 : pN c = 9218868437227405312 + sg (!pM c) := by
            have := pN_sg (A := 9218868437227405312) (by omega) (by omega) (pM c)
            rw [← e1] at this; exact this
          exact .inr ⟨9218868437227405312, 0, pM c, !pM c, by omega, by omega, by rw [← e1], by rw [e2], fun _ => rfl⟩
        · exact .inr (sumR_N _ _ _ _ _ _)
theorem qMul_NN {a b : Int} (m : Int) (ha : U a) (hb : U b) : qMul (pN a) (pN b) m = qMul a b m := by
  have hb2 : bad (pN a) (pN b) = bad a b := by unfold bad; rw [pC_N, pC_N]
  unfold qMul qNone
  rw [hb2, pC_N, pC_N, pX_N, pX_N, pS_N, pS_N, qMi_Nl ha, qMi_Nr a hb, Bool.not_not]
theorem qMul_N {a : Int} (b : Int) (ha : U a) :
    (∃ f, qMul a b 0 = (9221120237041090560, f) ∧ qMul (pN a) b 0 = (9221120237041090560, f)) ∨
    (qMul (pN a) b 0 = (pN (qMul a b 0).1, (qMul a b 0).2)) := by
  have hb2 : bad (pN a) b = bad a b := by unfold bad; rw [pC_N]
  unfold qMul qNone
  rw [hb2, pC_N, pX_N, pS_N, qMi_Nl ha]
  split
  · exact .inl ⟨_, rfl, rfl⟩
  · split
    · exact .inl ⟨_, rfl, rfl⟩
    · right
      split
      · rw [pN_sg (by omega) (by omega)]
      · obtain ⟨A, f, k0, k1, k2, k3⟩ := round_sw (qMi a b) (pX a + pX b) ((pS a).toNat * (pS b).toNat) 0
        rw [k2]
        have k3' : rRound (!qMi a b) (pX a + pX b) ((pS a).toNat * (pS b).toNat) 0 = (A + sg (!qMi a b), f) := k3
        rw [k3', pN_sg k0 (by omega)]
theorem cmul_conj {a b c d : Int} (hb : U b) (hd : U d) :
    (cMul a (pN b) c (pN d)).1 = (cMul a b c d).1 ∧ (cMul a (pN b) c (pN d)).2.2 = (cMul a b c d).2.2 ∧
    ((cMul a b c d).2.1 = 9221120237041090560 ∨ pA (cMul a b c d).2.1 = 0 ∨ (cMul a (pN b) c (pN d)).2.1 = pN (cMul a b c d).2.1) := by
  have key : (qMul (pN b) c 0).2 = (qMul b c 0).2 ∧ (qFma a (pN d) (qMul (pN b) c 0).1 0).2 = (qFma a d (qMul b c 0).1 0).2 ∧
      ((qFma a d (qMul b c 0).1 0).1 = 9221120237041090560 ∨ pA (qFma a d (qMul b c 0).1 0).1 = 0 ∨ (qFma a (pN d) (qMul (pN b) c 0).1 0).1 = pN (qFma a d (qMul b c 0).1 0).1) := by
    rcases qMul_N c hb with ⟨f, e1, e2⟩ | e
    · rw [e1, e2]
      obtain ⟨g, k1, k2⟩ := fma_nan (a := a) (b := d) (c := 9221120237041090560) (by decide)
      dsimp only
      rw [k1, k2]
      exact ⟨rfl, rfl, .inl rfl⟩
    · rw [e]
      refine ⟨rfl, ?_⟩
      dsimp only
      rcases fma_N (a := a) hd (qMul_U b c 0) with ⟨f, k1, k2⟩ | ⟨A, f, s, s', h0, h1, k1, k2, k3⟩
      · rw [k1, k2]; exact ⟨rfl, .inl rfl⟩
      · rw [k1, k2]
        refine ⟨rfl, ?_⟩
        by_cases z : A = 0
        · subst z; exact .inr (.inl (sgAA 0 s))
        · rw [k3 z]
          exact .inr (.inr (pN_sg h0 (by omega) s).symm)
  unfold cMul
  rw [qMul_NN 0 hb hd, key.1, key.2.1]
  exact ⟨rfl, rfl, key.2.2⟩
theorem and_Sign {a : Int} (ha : U a) : bits .andNot .u64 a 9223372036854775808 = pA a := by
  exact bandnot_M a ha
theorem CplxTurns (a b c d : Int) (ha : U a) (hb : U b) (hc : U c) (hd : U d) : l17_Turns.f a b c d = some true := by
  have hm := qMul_U b c 0
  have u2 : U (cMul a b c d).2.1 := qFma_U a d 0 hm
  have u1 : U (cMul a b c d).1 := qFma_U a c 0 (U_N _ (qMul_U b d 0))
  obtain ⟨h1, h2, h3⟩ := cmul_conj (a := a) (c := c) hb hd
  unfold l17_Turns.f l17_pair.f
  simp only [Option.bind_some, turn_eq ha hb, turn_eq (U_N b hb) ha, rturn_eq ha hb, conj_eq hb, conj_eq hd, rconj_eq hb, if_true, Bool.false_eq_true, if_false, NN hb, and_self, not_true_eq_false,
    cmul_spec ha hb hc hd, cmul_spec ha (U_N b hb) hc (U_N d hd), conj_eq u2, h1, h2, csure, and_Sign u1, and_Sign u2]
  split
  · rfl
  · split
    · rfl
    · split
      · rfl
      · split
        · rfl
        · rename_i g1 g2 g3 g4
          rcases h3 with h | h | h
          · exact absurd h g2
          · exact absurd h g4
          · rw [h, if_pos ⟨trivial, rfl⟩]
end Go.Proofs.Ythcgeekibomhiaa
end
