import Derived.Test.YtfnkmedajchbgaaKN4
import Derived.Test.YtfnkmedajchbgaaKN6
import Derived.Test.YtfnkmedajchbgaaKNXnarrowTo
section
namespace Go.Proofs.Ytfnkmedajchbgaa.X
open Go.RowKit Go.Proofs.YtfnkmedajchbgaaW.PrintWords Go.Proofs.YtfnkmedajchbgaaW.PrintLast Go.Proofs.YtfnkmedajchbgaaW.PrintMore
attribute [local go_sem] max2_int min2_int max_two min_two max_three min_three max_four min_four   
set_option linter.unusedVariables false
set_option linter.unusedSimpArgs false
def tillerlaw12_sure.f (k : Nat)  : Option (Bool) := (narrow_To.f k 4599676419421066581 0).bind fun q4 => ((narrow_From.f k 1065353216).bind fun q3 => (if q4.1 = 1051372203 then (if q4.2 = 16 then (if q3.1 = 4607182418800017408 then (some (q3.2 == 0)) else (some false)) else (some false)) else (some false)))
theorem tillerlaw12_sure.mono : ∀ k, LeO (tillerlaw12_sure.f k ) (tillerlaw12_sure.f (k + 1) ) := by
 intro  k
 unfold tillerlaw12_sure.f
 repeat' first
  | (with_reducible exact narrow_From.mono _ _)
  | (with_reducible exact narrow_To.mono _ _ _)
  | (with_reducible exact LeO.refl _)
  | (with_reducible exact LeO.none _)
  | (with_reducible refine LeO.ite ?_ ?_)
  | (with_reducible refine LeO.bind ?_ (fun _ => ?_))
  | exact narrow_From.mono _ _
  | exact narrow_To.mono _ _ _
  | exact LeO.none _
  | refine LeO.ite ?_ ?_
  | refine LeO.bind ?_ (fun _ => ?_)
set_option maxHeartbeats 8000000 in
set_option maxRecDepth 100000 in
theorem tillerlaw12_sure.calls (k : Nat)  (r : Bool) (w : World) (h : tillerlaw12_sure.f k  = some r) :
 Calls Try.prog 14 #[] w fun e w' => e = .returned (.bool r) ∧ Below w.heap.size w w' := by
 have HB := Aside0.mk (Below.refl w.heap.size w); have H : ((narrow_To.f k 4599676419421066581 0).bind fun q4 => ((narrow_From.f k 1065353216).bind fun q3 => (if q4.1 = 1051372203 then (if q4.2 = 16 then (if q3.1 = 4607182418800017408 then (some (q3.2 == 0)) else (some false)) else (some false)) else (some false)))) = some r := h; clear h; replace H := Option.bind_eq_some_iff.mp H; obtain ⟨⟨q0, q1⟩, A10, H⟩ := H; replace H : ((narrow_From.f k 1065353216).bind fun q3 => (if q0 = 1051372203 then (if q1 = 16 then (if q3.1 = 4607182418800017408 then (some (q3.2 == 0)) else (some false)) else (some false)) else (some false))) = some r := H; have A1 := Aside0.mk A10; clear A10; replace H := Option.bind_eq_some_iff.mp H; obtain ⟨⟨q2, q5⟩, A20, H⟩ := H; replace H : (if q0 = 1051372203 then (if q1 = 16 then (if q2 = 4607182418800017408 then (some (q5 == 0)) else (some false)) else (some false)) else (some false)) = some r := H; have A2 := Aside0.mk A20; clear A20
 by_cases c3 : q0 = 1051372203
 · rw [if_pos c3] at H
   have q6 : (q0 == 1051372203) = true := beq_iff_eq.mpr c3; have q7 : (q0 != 1051372203) = false := bne_eq_false_iff_eq.mpr c3; clear c3
   by_cases c4 : q1 = 16
   · rw [if_pos c4] at H
     have q8 : (q1 == 16) = true := beq_iff_eq.mpr c4; have q9 : (q1 != 16) = false := bne_eq_false_iff_eq.mpr c4; clear c4
     by_cases c5 : q2 = 4607182418800017408
     · rw [if_pos c5] at H
       have qa : (q2 == 4607182418800017408) = true := beq_iff_eq.mpr c5; have qb : (q2 != 4607182418800017408) = false := bne_eq_false_iff_eq.mpr c5; clear c5; obtain rfl := Option.some.inj H
       go_enter Try.func14, Try.ntmps14
       go_wp2_with (first | ((with_reducible refine gate_callee (f := 12) rfl ?_); refine goesL_ (some 6) rfl rfl Try.func12 (by kernel_rfl) rfl #[.int .u64 4599676419421066581, .int .i64 0] rfl LMq ?_; (with_reducible refine (narrow_To.calls k 4599676419421066581 0 q0 q1 _ A1.out).mono ?_); rintro e w6 ⟨rfl, hb⟩; refine ⟨_, rfl, ?_⟩; replace HB := Aside0.mk (below_step (kH HB) hb); (try clear hb); (try clear hb2); (try clear hk); (try clear hi)) | ((with_reducible refine gate_callee (f := 15) rfl ?_); refine goesL_ (some 10) rfl rfl Try.func15 (by kernel_rfl) rfl #[.int .u32 1065353216] rfl LMq ?_; (with_reducible refine (narrow_From.calls k 1065353216 q2 q5 _ A2.out).mono ?_); rintro e w7 ⟨rfl, hb⟩; refine ⟨_, rfl, ?_⟩; replace HB := Aside0.mk (below_step (kH HB) hb); (try clear hb); (try clear hb2); (try clear hk); (try clear hi)))
       go_ret
       exact ⟨by first | rfl | (simp [errW_none, errW_some] <;> rfl) | (simp [*, errW_none, errW_some] <;> rfl), kH HB⟩
     rw [if_neg c5] at H
     have qa : (q2 == 4607182418800017408) = false := beq_eq_false_iff_ne.mpr c5; have qb : (q2 != 4607182418800017408) = true := bne_iff_ne.mpr c5; obtain rfl := Option.some.inj H
     go_enter Try.func14, Try.ntmps14
     go_wp2_with (first | ((with_reducible refine gate_callee (f := 12) rfl ?_); refine goesL_ (some 6) rfl rfl Try.func12 (by kernel_rfl) rfl #[.int .u64 4599676419421066581, .int .i64 0] rfl LMq ?_; (with_reducible refine (narrow_To.calls k 4599676419421066581 0 q0 q1 _ A1.out).mono ?_); rintro e w8 ⟨rfl, hb⟩; refine ⟨_, rfl, ?_⟩; replace HB := Aside0.mk (below_step (kH HB) hb); (try clear hb); (try clear hb2); (try clear hk); (try clear hi)) | ((with_reducible refine gate_callee (f := 15) rfl ?_); refine goesL_ (some 10) rfl rfl Try.func15 (by kernel_rfl) rfl #[.int .u32 1065353216] rfl LMq ?_; (with_reducible refine (narrow_From.calls k 1065353216 q2 q5 _ A2.out).mono ?_); rintro e w9 ⟨rfl, hb⟩; refine ⟨_, rfl, ?_⟩; replace HB := Aside0.mk (below_step (kH HB) hb); (try clear hb); (try clear hb2); (try clear hk); (try clear hi)))
     go_ret
     exact ⟨by first | rfl | (simp [errW_none, errW_some] <;> rfl) | (simp [*, errW_none, errW_some] <;> rfl), kH HB⟩
   rw [if_neg c4] at H
   have q8 : (q1 == 16) = false := beq_eq_false_iff_ne.mpr c4; have q9 : (q1 != 16) = true := bne_iff_ne.mpr c4; obtain rfl := Option.some.inj H
   go_enter Try.func14, Try.ntmps14
   go_wp2_with (first | ((with_reducible refine gate_callee (f := 12) rfl ?_); refine goesL_ (some 6) rfl rfl Try.func12 (by kernel_rfl) rfl #[.int .u64 4599676419421066581, .int .i64 0] rfl LMq ?_; (with_reducible refine (narrow_To.calls k 4599676419421066581 0 q0 q1 _ A1.out).mono ?_); rintro e w10 ⟨rfl, hb⟩; refine ⟨_, rfl, ?_⟩; replace HB := Aside0.mk (below_step (kH HB) hb); (try clear hb); (try clear hb2); (try clear hk); (try clear hi)) | ((with_reducible refine gate_callee (f := 15) rfl ?_); refine goesL_ (some 10) rfl rfl Try.func15 (by kernel_rfl) rfl #[.int .u32 1065353216] rfl LMq ?_; (with_reducible refine (narrow_From.calls k 1065353216 q2 q5 _ A2.out).mono ?_); rintro e w11 ⟨rfl, hb⟩; refine ⟨_, rfl, ?_⟩; replace HB := Aside0.mk (below_step (kH HB) hb); (try clear hb); (try clear hb2); (try clear hk); (try clear hi)))
   go_ret
   exact ⟨by first | rfl | (simp [errW_none, errW_some] <;> rfl) | (simp [*, errW_none, errW_some] <;> rfl), kH HB⟩
 rw [if_neg c3] at H
 have q6 : (q0 == 1051372203) = false := beq_eq_false_iff_ne.mpr c3; have q7 : (q0 != 1051372203) = true := bne_iff_ne.mpr c3; obtain rfl := Option.some.inj H
 go_enter Try.func14, Try.ntmps14
 go_wp2_with (first | ((with_reducible refine gate_callee (f := 12) rfl ?_); refine goesL_ (some 6) rfl rfl Try.func12 (by kernel_rfl) rfl #[.int .u64 4599676419421066581, .int .i64 0] rfl LMq ?_; (with_reducible refine (narrow_To.calls k 4599676419421066581 0 q0 q1 _ A1.out).mono ?_); rintro e w12 ⟨rfl, hb⟩; refine ⟨_, rfl, ?_⟩; replace HB := Aside0.mk (below_step (kH HB) hb); (try clear hb); (try clear hb2); (try clear hk); (try clear hi)) | ((with_reducible refine gate_callee (f := 15) rfl ?_); refine goesL_ (some 10) rfl rfl Try.func15 (by kernel_rfl) rfl #[.int .u32 1065353216] rfl LMq ?_; (with_reducible refine (narrow_From.calls k 1065353216 q2 q5 _ A2.out).mono ?_); rintro e w13 ⟨rfl, hb⟩; refine ⟨_, rfl, ?_⟩; replace HB := Aside0.mk (below_step (kH HB) hb); (try clear hb); (try clear hb2); (try clear hk); (try clear hi)))
 go_ret
 exact ⟨by first | rfl | (simp [errW_none, errW_some] <;> rfl) | (simp [*, errW_none, errW_some] <;> rfl), kH HB⟩
end Go.Proofs.Ytfnkmedajchbgaa.X
end
section
namespace Go.Proofs.Ytfnkmedajchbgaa
set_option linter.unusedVariables false
set_option linter.unusedSimpArgs false
open Go.RowKit X
theorem tQ_shift (mi : Bool) (x : Int) (s : Nat) (n m : Int) : tQ mi (x - n) s 0 m = tQ mi x s n m ∧ rOdd s (x - n) 0 = rOdd s x n := by
  have e1 : (0 - (x - n)).toNat = (n - x).toNat := by congr 1; omega
  have e2 : (0 - (x - n) - 1).toNat = (n - x - 1).toNat := by congr 1; omega
  have e3 : (x - n - 0).toNat = (x - n).toNat := by congr 1; omega
  unfold tQ tU rOdd cutH cutR
  rw [e1, e2, e3]
  by_cases c : n ≤ x
  · have h : 0 ≤ x - n := by omega
    simp only [if_pos c, if_pos h]
    exact ⟨trivial, trivial⟩
  · have h : ¬ 0 ≤ x - n := by omega
    simp only [if_neg c, if_neg h]
    exact ⟨trivial, trivial⟩
theorem narrow_to_spec (k : Nat) (mi : Bool) {x n : Int} {s : Nat} (m : Int) (hs : s < 2 ^ 53) (h0 : -1100 ≤ x) (h1 : x ≤ 1100) (h2 : -1300 ≤ n) (h3 : n ≤ 1300) (hq : tQ mi x s n m ≤ 16777216) :
    narrow_to.f (k + 4) mi x (l0 s) (l1 s) (l2 s) (l3 s) false n m = some ((tQ mi x s n m : Int), rOdd s x n) := by
  obtain ⟨t1, t2⟩ := tQ_shift mi x s n m
  have hT : s < T256 := by rw [T256_eq]; exact Nat.lt_trans hs (by decide)
  have hqT : tQ mi x s n m < T256 := by rw [T256_eq]; exact Nat.lt_of_le_of_lt hq (by decide)
  have ew : wrap64 (x - n) = x - n := by unfold wrap64; omega
  unfold narrow_to.f
  rw [ew]
  by_cases c : n ≤ x
  · rw [whole_pos (k + 3) mi (x - n) _ _ _ _ m (by omega)]
    simp only [Option.bind_some]
    have e : tQ mi x s n m = s * 2 ^ (x - n).toNat := by unfold tQ; rw [if_pos c]
    rw [wide_Shl.eq hT (x - n)]
    simp only [Option.bind_some]
    rw [← e, Nat.mod_eq_of_lt hqT, l0_small (by omega)]
    obtain ⟨c1, c2⟩ := cut_fit (s := s) c
    unfold rOdd
    rw [c1, c2]
    rfl
  · rw [whole_neg k mi m (Nat.lt_trans hs (by decide)) (by omega) (by omega)]
    simp only [Option.bind_some]
    rw [t1, t2, wide_Shl.eq hqT 0]
    simp only [Option.bind_some]
    rw [show (0 : Int).toNat = 0 from rfl, Nat.pow_zero, Nat.mul_one, Nat.mod_eq_of_lt hqT, l0_small (by omega)]
theorem w32 (n : Int) (h0 : 0 ≤ n) (h1 : n < 2 ^ 32) : IntKind.u32.wrap n = n := by rw [IntKind.wrap_u32]; omega
theorem or_31 (q : Int) (h0 : 0 ≤ q) (h1 : q < 2147483648) : bits .or .u32 q 2147483648 = q + 2147483648 := by
  obtain ⟨a, rfl⟩ := Int.eq_ofNat_of_zero_le h0
  have h := (bits_nat .u32 32 (by decide) w32 a 2147483648 (by omega) (by decide)).2
  have j := bits_join .u32 32 (by decide) w32 31 2147483648 (a : Int) (by decide) (by decide) (by decide) h0 (by omega) (by omega)
  have h2 := (bits_nat .u32 32 (by decide) w32 2147483648 a (by decide) (by omega)).2
  rw [Nat.or_comm, ← h2] at h
  exact h.trans (j.trans (Int.add_comm _ _))
theorem nsigned_eq {q : Int} (h0 : 0 ≤ q) (h1 : q < 2147483648) (b : Bool) : narrow_signed.f q b = some (q + sg2 b) := by
  unfold narrow_signed.f sg2
  cases b
  · rw [if_neg (by decide), if_neg (by decide), Int.add_zero]
  · rw [if_pos rfl, or_31 q h0 h1]; rfl
theorem nover_eq (mi : Bool) (m : Int) : narrow_over.f mi m = some (nOver mi m + sg2 mi) := by
  have e1 := nsigned_eq (q := 2139095039) (by omega) (by omega) mi
  have e2 := nsigned_eq (q := 2139095040) (by omega) (by omega) mi
  unfold narrow_over.f nOver
  rw [show (2139095040 - 1 : Int) = 2139095039 from rfl]
  simp only [e1, e2, Option.bind_some]
  by_cases h2 : m = 2
  · subst h2; simp
  · by_cases h3 : m = 3
    · subst h3; cases mi <;> simp
    · by_cases h4 : m = 4
      · subst h4; cases mi <;> simp
      · simp [h2, h3, h4]
def fin24 (mi : Bool) (n q m f : Int) : Int × Int := if 2139095040 ≤ q + (n + 149) * 8388608 then (nOver mi m + sg2 mi, 20) else (q + (n + 149) * 8388608 + sg2 mi, f)
theorem nround_fin (mi : Bool) (x : Int) (s : Nat) (m : Int) : nRound mi x s m = fin24 mi (nN x s) (tQ mi x s (nN x s) m : Int) m (nFlag mi x s m) := rfl
theorem nto_j1 (k : Nat) (mi : Bool) {n q : Int} (m f : Int) (hn : -149 ≤ n) (hn2 : n ≤ 2000) (hq0 : 0 ≤ q) (hq : q < 16777216) (h23 : q < 8388608 → n = -149) :
    narrow_To.j1 (k + 1) m mi n q f = some (fin24 mi n q m f) := by
  have e : IntKind.u64.wrap (q + (IntKind.u64.wrap ((IntKind.u64.wrap (wrap64 (n - (-149)))) * 8388608))) = q + (n + 149) * 8388608 := by
    simp only [IntKind.wrap_u64, wrap64]; omega
  unfold fin24
  simp only [narrow_To.j1]
  by_cases c : n > 104
  · rw [if_pos c, if_pos (by omega), nover_eq, Option.bind_some]
  · have hP : ¬ 2139095040 ≤ q + (n + 149) * 8388608 := by omega
    rw [if_neg c, if_neg hP, e]
    by_cases c2 : q ≥ 8388608
    · rw [if_pos c2, Int.emod_eq_of_lt (by omega) (by omega), nsigned_eq (by omega) (by omega), Option.bind_some]
    · have := h23 (by omega)
      subst this
      rw [if_neg c2, Int.emod_eq_of_lt (by omega) (by omega), nsigned_eq (by omega) (by omega), Option.bind_some]
      congr 3
      omega
theorem nto_j0 (k : Nat) (mi : Bool) {n q : Int} (m f : Int) (hn : -149 ≤ n) (hn2 : n ≤ 1900) (hq0 : 0 ≤ q) (hq : q ≤ 16777216) (h23 : q < 8388608 → n = -149) :
    narrow_To.j0 (k + 2) m mi n q f = some (fin24 mi n q m f) := by
  simp only [narrow_To.j0]
  by_cases c : q = 16777216
  · subst c
    rw [if_pos rfl, show wrap64 (n + 1) = n + 1 by unfold wrap64; omega, show (16777216 : Int) / 2 = 8388608 from rfl, nto_j1 k mi m f (by omega) (by omega) (by omega) (by omega) (by omega)]
    unfold fin24
    rw [show (8388608 : Int) + (n + 1 + 149) * 8388608 = 16777216 + (n + 149) * 8388608 by omega]
  · rw [if_neg c]
    exact nto_j1 k mi m f hn (by omega) hq0 (by omega) h23
theorem nto_j3 (k : Nat) (mi : Bool) {n q : Int} (m f : Int) (hn : -149 ≤ n) (hn2 : n ≤ 2000) (hq0 : 0 ≤ q) (hq : q < 16777216) (h23 : q < 8388608 → n = -149) :
    narrow_To.j3 (k + 1) m mi n q f = some (fin24 mi n q m f) := by
  rw [← nto_j1 k mi m f hn hn2 hq0 hq h23]
  simp only [narrow_To.j1, narrow_To.j3]
theorem nto_j2 (k : Nat) (mi : Bool) {n q : Int} (m f : Int) (hn : -149 ≤ n) (hn2 : n ≤ 1900) (hq0 : 0 ≤ q) (hq : q ≤ 16777216) (h23 : q < 8388608 → n = -149) :
    narrow_To.j2 (k + 2) m mi n q f = some (fin24 mi n q m f) := by
  simp only [narrow_To.j2]
  by_cases c : q = 16777216
  · subst c
    rw [if_pos rfl, show wrap64 (n + 1) = n + 1 by unfold wrap64; omega, show (16777216 : Int) / 2 = 8388608 from rfl, nto_j3 k mi m f (by omega) (by omega) (by omega) (by omega) (by omega)]
    unfold fin24
    rw [show (8388608 : Int) + (n + 1 + 149) * 8388608 = 16777216 + (n + 149) * 8388608 by omega]
  · rw [if_neg c]
    exact nto_j3 k mi m f hn (by omega) hq0 (by omega) h23
theorem nto_spec (k : Nat) {p : Int} (m : Int) (hp : U p) : narrow_To.f (k + 5) p m = some (nTo p m) := by
  have hc := pC_bd p
  have eM := band_M p hp
  have eN := rnd_Of.eq p (inU_of hp)
  unfold narrow_To.f nTo
  rw [eN, eM]
  by_cases c5 : 3 < pC p
  · rw [if_neg (by omega), if_pos c5, Option.bind_some, pat_Class.eq p (inU_of hp), Option.bind_some, pat_IsNaN.eq p (inU_of hp), decide_eq_true c5]
    unfold qNone
    by_cases c : pC p = 5
    · rw [if_pos c, if_pos (.inl c)]
    · rw [if_neg c, Option.bind_some, if_pos rfl, if_neg (by omega)]
  · rw [if_neg c5]
    by_cases c3 : pC p = 3
    · rw [if_neg (by omega), if_pos c3, Option.bind_some, pat_Class.eq p (inU_of hp), Option.bind_some, if_neg (by omega), pat_IsNaN.eq p (inU_of hp), decide_eq_false c5, Option.bind_some, if_neg (by decide), if_neg (by decide), nsigned_eq (by omega) (by omega), Option.bind_some]
    · rw [if_pos (by omega), if_neg c3, Option.bind_some, pat_Class.eq p (inU_of hp), Option.bind_some, if_neg (by omega), pat_IsNaN.eq p (inU_of hp), decide_eq_false c5, Option.bind_some, if_neg (by decide), if_pos (by rfl), pat_Abs.eq p (inU_of hp), Option.bind_some]
      by_cases c0 : pC p = 0
      · rw [if_pos (zero_iff.2 c0), if_pos c0, nsigned_eq (by omega) (by omega), Option.bind_some, Int.zero_add]
      · rw [if_neg (fun h => c0 (zero_iff.1 h)), if_neg c0]
        have hs0 := pS_pos p c0 c3
        have hsb := pS_bd p
        have hx := pX_bd p
        have hs53 : (pS p).toNat < 2 ^ 53 := by rw [show (2 : Nat) ^ 53 = 9007199254740992 from rfl]; omega
        have hL := wide_Len.eq (pS_T p)
        have hs : (pS p).toNat ≠ 0 := by omega
        generalize (pS p).toNat = s at *
        generalize pX p = x at *
        generalize pM p = mi at *
        have hb : blen s ≤ 53 := blen_le_iff.2 hs53
        have et : wrap64 (wrap64 (x + (blen s : Int)) - 24) = nTop x s := by unfold nTop wrap64; omega
        have et2 : wrap64 (x + (blen s : Int)) = nTop x s + 24 := by unfold nTop wrap64; omega
        have ht : -1300 ≤ nTop x s ∧ nTop x s ≤ 1300 := by unfold nTop; omega
        have hfree := nFree mi x m hs
        have sF := narrow_to_spec (k + 1) mi (n := nTop x s) m hs53 (by omega) (by omega) (by omega) (by omega) hfree.2
        have hT := nTiny_iff mi x m hs
        rw [hL]
        simp only [Option.bind_some]
        rw [et, et2, nround_fin]
        by_cases c : nTop x s < -149
        · have hN : nN x s = -149 := by unfold nN; rw [if_pos c]
          have hq := nQ_le mi x s m
          rw [hN] at hq
          have sN := narrow_to_spec (k + 1) mi (n := -149) m hs53 (by omega) (by omega) (by omega) (by omega) hq
          have J := fun f => nto_j0 (k + 3) mi (n := -149) (q := (tQ mi x s (-149) m : Int)) m f (by omega) (by omega) (by omega) (by omega) (fun _ => rfl)
          unfold nFlag
          rw [hN, if_pos c, sN, or_16_8]
          simp only [Option.bind_some]
          cases ho : rOdd s x (-149)
          · rw [if_neg (by decide), if_neg (by decide)]
            exact J 0
          · rw [if_pos rfl, if_pos rfl, sF]
            simp only [Option.bind_some]
            by_cases h1 : nTop x s + 24 ≤ -126
            · rw [if_pos h1]
              by_cases h2 : (tQ mi x s (nTop x s) m : Int) < 16777216
              · rw [if_pos h2, if_pos (hT.2 ⟨h1, .inl (by omega)⟩)]
                exact J 24
              · rw [if_neg h2]
                by_cases h3 : nTop x s + 24 < -126
                · rw [if_pos h3, if_pos (hT.2 ⟨h1, .inr h3⟩)]
                  exact J 24
                · rw [if_neg h3, if_neg (fun h => by have := (hT.1 h).2; omega)]
                  exact J 16
            · rw [if_neg h1, if_neg (fun h => h1 (hT.1 h).1)]
              exact J 16
        · have hN : nN x s = nTop x s := by unfold nN; rw [if_neg c]
          have J := fun f => nto_j2 (k + 3) mi (n := nTop x s) (q := (tQ mi x s (nTop x s) m : Int)) m f (by omega) (by omega) (by omega) (by omega) (fun h => by omega)
          unfold nFlag
          rw [hN, if_neg c, sF, or_16_8]
          simp only [Option.bind_some]
          cases ho : rOdd s x (nTop x s)
          · rw [if_neg (by decide), if_neg (by decide)]
            exact J 0
          · rw [if_pos rfl, if_pos rfl]
            by_cases h1 : nTop x s + 24 ≤ -126
            · rw [if_pos h1]
              by_cases h2 : (tQ mi x s (nTop x s) m : Int) < 16777216
              · rw [if_pos h2, if_pos (hT.2 ⟨h1, .inl (by omega)⟩)]
                exact J 24
              · rw [if_neg h2]
                by_cases h3 : nTop x s + 24 < -126
                · rw [if_pos h3, if_pos (hT.2 ⟨h1, .inr h3⟩)]
                  exact J 24
                · rw [if_neg h3, if_neg (fun h => by have := (hT.1 h).2; omega)]
                  exact J 16
            · rw [if_neg h1, if_neg (fun h => h1 (hT.1 h).1)]
              exact J 16
end Go.Proofs.Ytfnkmedajchbgaa
end
section
namespace Go.Proofs.Ytfnkmedajchbgaa
set_option linter.unusedVariables false
set_option linter.unusedSimpArgs false
open Go.RowKit X
def U32 (q : Int) : Prop := 0 ≤ q ∧ q ≤ 4294967295
theorem U32_wf {a : Int} (h : (Lit.int .u32 a).wf = true) : U32 a := by
  unfold Lit.wf at h
  simp only [Bool.and_eq_true, decide_eq_true_eq] at h
  exact h
def fE (q : Int) : Int := q / 8388608 % 256
def fF (q : Int) : Int := q % 8388608
def fM (q : Int) : Bool := decide (2147483648 ≤ q)
theorem fE_bd (q : Int) : 0 ≤ fE q ∧ fE q ≤ 255 := by unfold fE; omega
theorem fF_bd (q : Int) : 0 ≤ fF q ∧ fF q < 8388608 := by unfold fF; omega
theorem f_parts {q : Int} (h : U32 q) : q = fE q * 8388608 + fF q + sg2 (fM q) := by
  unfold U32 at h
  unfold fE fF fM sg2
  by_cases c : 2147483648 ≤ q
  · rw [decide_eq_true c, if_pos rfl]; omega
  · rw [decide_eq_false c, if_neg (by decide)]; omega
def nFrom (q : Int) : Int × Int := if fE q = 255 then (if fF q = 0 then (9218868437227405312 + sg (fM q), 0) else (9221120237041090560, if fF q < 4194304 then 1 else 0)) else if fE q = 0 then rRound (fM q) (-149) (fF q).toNat 0 else rRound (fM q) (fE q - 150) (fF q + 8388608).toNat 0
theorem u32_E {q : Int} (h : U32 q) : wrap64 (bits .and .u32 (q / 8388608) 255) = fE q := by
  unfold U32 at h
  have := bits_mask .u32 32 (by decide) w32 8 (by decide) (q / 8388608) (by omega) (by omega)
  have e : bits .and .u32 (q / 8388608) 255 = fE q := this
  have b := fE_bd q
  rw [e]
  unfold wrap64
  omega
theorem u32_F {q : Int} (h : U32 q) : bits .and .u32 q 8388607 = fF q := by
  unfold U32 at h
  exact bits_mask .u32 32 (by decide) w32 23 (by decide) q (by omega) (by omega)
theorem u32_quiet (q : Int) : (bits .and .u32 (fF q) 4194304 == 0) = decide (fF q < 4194304) := by
  have hF := fF_bd q
  generalize fF q = f at *
  obtain ⟨a, rfl⟩ := Int.eq_ofNat_of_zero_le hF.1
  have h := (bits_nat .u32 32 (by decide) w32 a 4194304 (by omega) (by decide)).1
  have h2 : bits .and .u32 (a : Int) 4194304 = ((a &&& 4194304 : Nat) : Int) := h
  have h3 := and_bit a 22
  rw [show (2 : Nat) ^ 22 = 4194304 from rfl] at h3
  rw [h2, h3, Bool.eq_iff_iff]
  simp only [beq_iff_eq, decide_eq_true_eq]
  split <;> omega
theorem u32_hid (q : Int) : bits .or .u32 (fF q) 8388608 = fF q + 8388608 := by
  have hF := fF_bd q
  generalize fF q = f at *
  obtain ⟨a, rfl⟩ := Int.eq_ofNat_of_zero_le hF.1
  have h := (bits_nat .u32 32 (by decide) w32 a 8388608 (by omega) (by decide)).2
  have j := bits_join .u32 32 (by decide) w32 23 8388608 (a : Int) (by decide) (by decide) (by decide) (by omega) (by omega) (by omega)
  have h2 := (bits_nat .u32 32 (by decide) w32 8388608 a (by decide) (by omega)).2
  rw [Nat.or_comm, ← h2] at h
  exact h.trans (j.trans (Int.add_comm _ _))
theorem from_round (mi : Bool) (x s : Int) (h0 : 0 ≤ s) (h1 : s < 16777216) (hx : -149 ≤ x) (hx2 : x ≤ 200) :
    ((wide_Of.f s).bind fun bt350 => ((rnd_Round.f mi x bt350.1 bt350.2.1 bt350.2.2.1 bt350.2.2.2 false 0).bind fun bt354 => (some (bt354.1, bt354.2)))) = some (rRound mi x s.toNat 0) := by
  have hT : s.toNat < T256 := by rw [T256_eq]; exact Nat.lt_trans (show s.toNat < 2 ^ 24 by rw [show (2 : Nat) ^ 24 = 16777216 from rfl]; omega) (by decide)
  have h254 : s.toNat < 2 ^ 254 := Nat.lt_trans (show s.toNat < 2 ^ 24 by rw [show (2 : Nat) ^ 24 = 16777216 from rfl]; omega) (by decide)
  have eR := rnd_Round.eq hT mi x false 0 h254 (by omega) (by omega)
  rw [wide_Of.eq s (inU_of (by unfold U; omega))]
  simp only [Option.bind_some]
  rw [eR]
  rfl
theorem from_spec (k : Nat) {q : Int} (h : U32 q) : narrow_From.f (k + 2) q = some (nFrom q) := by
  have hE := fE_bd q
  have hF := fF_bd q
  have e1 := u32_E h
  have e2 := u32_F h
  have e3 : (q / 2147483648 == 1) = fM q := by
    unfold U32 at h
    unfold fM
    rw [Bool.eq_iff_iff]
    simp only [beq_iff_eq, decide_eq_true_eq]
    omega
  have e4 : IntKind.u64.wrap (IntKind.u64.wrap (q / 2147483648) * 9223372036854775808) = sg (fM q) := by
    unfold U32 at h
    unfold fM sg
    simp only [IntKind.wrap_u64, decide_eq_true_eq]
    split <;> omega
  have w1 : IntKind.u64.wrap (fF q) = fF q := by rw [IntKind.wrap_u64]; omega
  have w2 : IntKind.u64.wrap (fF q + 8388608) = fF q + 8388608 := by rw [IntKind.wrap_u64]; omega
  have r1 := from_round (fM q) (-149) (fF q) hF.1 (by omega) (by omega) (by omega)
  have tail : ¬ fE q = 255 → narrow_From.j1 (k + 1) (fF q) (fE q) (fM q) false = some (if fE q = 0 then rRound (fM q) (-149) (fF q).toNat 0 else rRound (fM q) (fE q - 150) (fF q + 8388608).toNat 0) := fun c => by
    simp only [narrow_From.j1]
    rw [if_neg (by decide), if_neg c]
    by_cases z : fE q > 0
    · have r2 := from_round (fM q) (fE q - 150) (fF q + 8388608) (by omega) (by omega) (by omega) (by omega)
      rw [if_pos z, if_neg (by omega), u32_hid, w2, show wrap64 (wrap64 (fE q - 1) + (-149)) = fE q - 150 by unfold wrap64; omega]
      exact r2
    · rw [if_neg z, if_pos (by omega), w1, show wrap64 (fE q + (-149)) = -149 by unfold wrap64; omega]
      exact r1
  unfold narrow_From.f nFrom
  rw [e1, e2, e3, e4]
  by_cases c : fE q = 255
  · rw [if_pos c, if_pos c]
    simp only [narrow_From.j0]
    by_cases z : fF q = 0
    · rw [beq_iff_eq.mpr z, if_pos rfl, if_pos z, bor_inf]
    · rw [beq_eq_false_iff_ne.mpr z, if_neg (by decide), if_pos c, if_neg z, u32_quiet]
      simp only [narrow_From.j1]
      by_cases g : fF q < 4194304
      · rw [decide_eq_true g, if_pos rfl, if_pos g]
      · rw [decide_eq_false g, if_neg (by decide), if_pos c, if_neg g]
  · rw [if_neg c, if_neg c]
    simp only [narrow_From.j0]
    rw [if_neg (by decide), if_neg c]
    exact tail c
theorem nFrom_fl (q : Int) : 0 ≤ (nFrom q).2 ∧ (nFrom q).2 ≤ 255 := by
  unfold nFrom
  split
  · split
    · dsimp only; omega
    · dsimp only; split <;> omega
  · split <;> exact round_fl _ _ _ _
theorem nTo_fl (p m : Int) : 0 ≤ (nTo p m).2 ∧ (nTo p m).2 ≤ 255 := by
  unfold nTo qNone nRound nFlag
  split
  · dsimp only; split <;> omega
  · split
    · dsimp only; omega
    · split
      · dsimp only; omega
      · split
        · dsimp only; omega
        · dsimp only; split
          · split <;> omega
          · omega
theorem sure12 (k : Nat) : tillerlaw12_sure.f (k + 5) = some true := by
  unfold tillerlaw12_sure.f
  rw [nto_spec k _ (by unfold U; omega), Option.bind_some, from_spec (k + 3) (by unfold U32; omega)]
  decide +kernel
end Go.Proofs.Ytfnkmedajchbgaa
end
