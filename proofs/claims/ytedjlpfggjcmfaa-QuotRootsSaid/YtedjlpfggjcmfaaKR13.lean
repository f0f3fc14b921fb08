import Derived.Test.YtedjlpfggjcmfaaKR4
import Derived.Test.YtedjlpfggjcmfaaKRXquotSqrt
import Derived.Test.YtedjlpfggjcmfaaKR7
import Derived.Test.YtedjlpfggjcmfaaKRXtillerref02Mul
import Derived.Test.YtedjlpfggjcmfaaKRXtillerref02Shr
import Derived.Test.YtedjlpfggjcmfaaKRXtillerref04Round
import Derived.Test.YtedjlpfggjcmfaaKRXtillerref07Sqrt
section
namespace Go.Proofs.Ytedjlpfggjcmfaa.X
open Go.RowKit Go.Proofs.YtedjlpfggjcmfaaW.PrintWords Go.Proofs.YtedjlpfggjcmfaaW.PrintLast Go.Proofs.YtedjlpfggjcmfaaW.PrintMore
attribute [local go_sem] max2_int min2_int max_two min_two max_three min_three max_four min_four   
set_option linter.unusedVariables false
set_option linter.unusedSimpArgs false
def tillerlaw07_QuotRoots.f (k : Nat) (a0 : Int) (a1 : Int) : Option (Bool) := (quot_Sqrt.f a0 a1).bind fun bt464 => ((r7_Sqrt.f k a0 a1).bind fun bt466 => (if bt464.1 = bt466.1 then (if (wrap64 (bt464.2)) = bt466.2 then ((tillerlaw07_sure.f k).bind fun t468 => (some t468)) else (some false)) else (some false)))
theorem tillerlaw07_QuotRoots.mono : ∀ a0 a1 k, LeO (tillerlaw07_QuotRoots.f k a0 a1) (tillerlaw07_QuotRoots.f (k + 1) a0 a1) := by
 intro a0 a1 k
 unfold tillerlaw07_QuotRoots.f
 repeat' first
  | (with_reducible exact tillerlaw07_sure.mono _)
  | (with_reducible exact r7_Sqrt.mono _ _ _)
  | (with_reducible exact LeO.refl _)
  | (with_reducible exact LeO.none _)
  | (with_reducible refine LeO.ite ?_ ?_)
  | (with_reducible refine LeO.bind ?_ (fun _ => ?_))
  | exact tillerlaw07_sure.mono _
  | exact r7_Sqrt.mono _ _ _
  | exact LeO.none _
  | refine LeO.ite ?_ ?_
  | refine LeO.bind ?_ (fun _ => ?_)
set_option maxHeartbeats 8000000 in
set_option maxRecDepth 100000 in
theorem tillerlaw07_QuotRoots.calls (k : Nat) (a0 : Int) (a1 : Int) (r : Bool) (w : World) (h : tillerlaw07_QuotRoots.f k a0 a1 = some r) :
 Calls Try.prog 4 #[.int .u64 a0, .int .i64 a1] w fun e w' => e = .returned (.bool r) ∧ Below w.heap.size w w' := by
 have HB := Aside0.mk (Below.refl w.heap.size w); have H : ((quot_Sqrt.f a0 a1).bind fun bt464 => ((r7_Sqrt.f k a0 a1).bind fun bt466 => (if bt464.1 = bt466.1 then (if (wrap64 (bt464.2)) = bt466.2 then ((tillerlaw07_sure.f k).bind fun t468 => (some t468)) else (some false)) else (some false)))) = some r := h; clear h; replace H := Option.bind_eq_some_iff.mp H; obtain ⟨⟨t464, t465⟩, A30, H⟩ := H; replace H : ((r7_Sqrt.f k a0 a1).bind fun bt466 => (if t464 = bt466.1 then (if (wrap64 (t465)) = bt466.2 then ((tillerlaw07_sure.f k).bind fun t468 => (some t468)) else (some false)) else (some false))) = some r := H; have A3 := Aside0.mk A30; clear A30; replace H := Option.bind_eq_some_iff.mp H; obtain ⟨⟨t466, t467⟩, A40, H⟩ := H; replace H : (if t464 = t466 then (if (wrap64 (t465)) = t467 then ((tillerlaw07_sure.f k).bind fun t468 => (some t468)) else (some false)) else (some false)) = some r := H; have A4 := Aside0.mk A40; clear A40
 by_cases c5 : t464 = t466
 · rw [if_pos c5] at H
   have c5b0 : (t464 == t466) = true := beq_iff_eq.mpr c5; have c5b1 : (t464 != t466) = false := bne_eq_false_iff_eq.mpr c5; clear c5
   by_cases c6 : (wrap64 (t465)) = t467
   · rw [if_pos c6] at H
     have c6b0 : ((wrap64 (t465)) == t467) = true := beq_iff_eq.mpr c6; have c6b1 : ((wrap64 (t465)) != t467) = false := bne_eq_false_iff_eq.mpr c6; clear c6; replace H := Option.bind_eq_some_iff.mp H; obtain ⟨t468, A70, H⟩ := H; replace H : (some t468) = some r := H; have A7 := Aside0.mk A70; clear A70; obtain rfl := Option.some.inj H
     go_enter Try.func4, Try.ntmps4
     go_wp2_with (first | ((with_reducible refine gate_callee (f := 11) rfl ?_); refine goesL_ (some 12) rfl rfl Try.func11 (by kernel_rfl) rfl #[.int .u64 a0, .int .i64 a1] rfl LMq ?_; (with_reducible refine (quot_Sqrt.calls a0 a1 t464 t465 _ A3.out).mono ?_); rintro e w8 ⟨rfl, hb⟩; refine ⟨_, rfl, ?_⟩; replace HB := Aside0.mk (below_step (kH HB) hb); (try clear hb); (try clear hb2); (try clear hk); (try clear hi)) | ((with_reducible refine gate_callee (f := 12) rfl ?_); refine goesL_ (some 18) rfl rfl Try.func12 (by kernel_rfl) rfl #[.int .u64 a0, .int .i64 a1] rfl LMq ?_; (with_reducible refine (r7_Sqrt.calls k a0 a1 t466 t467 _ A4.out).mono ?_); rintro e w9 ⟨rfl, hb⟩; refine ⟨_, rfl, ?_⟩; replace HB := Aside0.mk (below_step (kH HB) hb); (try clear hb); (try clear hb2); (try clear hk); (try clear hi)) | (go_at_call 10; (with_reducible refine (tillerlaw07_sure.calls k  t468 _ A7.out).mono ?_); rintro e w10 ⟨rfl, hb⟩; replace HB := Aside0.mk (below_step (kH HB) hb); (try clear hb); (try clear hb2); (try clear hk); (try clear hi)))
     go_ret
     exact ⟨by first | rfl | (simp [errW_none, errW_some] <;> rfl) | (simp [*, errW_none, errW_some] <;> rfl), kH HB⟩
   rw [if_neg c6] at H
   have c6b0 : ((wrap64 (t465)) == t467) = false := beq_eq_false_iff_ne.mpr c6; have c6b1 : ((wrap64 (t465)) != t467) = true := bne_iff_ne.mpr c6; obtain rfl := Option.some.inj H
   go_enter Try.func4, Try.ntmps4
   go_wp2_with (first | ((with_reducible refine gate_callee (f := 11) rfl ?_); refine goesL_ (some 12) rfl rfl Try.func11 (by kernel_rfl) rfl #[.int .u64 a0, .int .i64 a1] rfl LMq ?_; (with_reducible refine (quot_Sqrt.calls a0 a1 t464 t465 _ A3.out).mono ?_); rintro e w11 ⟨rfl, hb⟩; refine ⟨_, rfl, ?_⟩; replace HB := Aside0.mk (below_step (kH HB) hb); (try clear hb); (try clear hb2); (try clear hk); (try clear hi)) | ((with_reducible refine gate_callee (f := 12) rfl ?_); refine goesL_ (some 18) rfl rfl Try.func12 (by kernel_rfl) rfl #[.int .u64 a0, .int .i64 a1] rfl LMq ?_; (with_reducible refine (r7_Sqrt.calls k a0 a1 t466 t467 _ A4.out).mono ?_); rintro e w12 ⟨rfl, hb⟩; refine ⟨_, rfl, ?_⟩; replace HB := Aside0.mk (below_step (kH HB) hb); (try clear hb); (try clear hb2); (try clear hk); (try clear hi)))
   go_ret
   exact ⟨by first | rfl | (simp [errW_none, errW_some] <;> rfl) | (simp [*, errW_none, errW_some] <;> rfl), kH HB⟩
 rw [if_neg c5] at H
 have c5b0 : (t464 == t466) = false := beq_eq_false_iff_ne.mpr c5; have c5b1 : (t464 != t466) = true := bne_iff_ne.mpr c5; obtain rfl := Option.some.inj H
 go_enter Try.func4, Try.ntmps4
 go_wp2_with (first | ((with_reducible refine gate_callee (f := 11) rfl ?_); refine goesL_ (some 12) rfl rfl Try.func11 (by kernel_rfl) rfl #[.int .u64 a0, .int .i64 a1] rfl LMq ?_; (with_reducible refine (quot_Sqrt.calls a0 a1 t464 t465 _ A3.out).mono ?_); rintro e w13 ⟨rfl, hb⟩; refine ⟨_, rfl, ?_⟩; replace HB := Aside0.mk (below_step (kH HB) hb); (try clear hb); (try clear hb2); (try clear hk); (try clear hi)) | ((with_reducible refine gate_callee (f := 12) rfl ?_); refine goesL_ (some 18) rfl rfl Try.func12 (by kernel_rfl) rfl #[.int .u64 a0, .int .i64 a1] rfl LMq ?_; (with_reducible refine (r7_Sqrt.calls k a0 a1 t466 t467 _ A4.out).mono ?_); rintro e w14 ⟨rfl, hb⟩; refine ⟨_, rfl, ?_⟩; replace HB := Aside0.mk (below_step (kH HB) hb); (try clear hb); (try clear hb2); (try clear hk); (try clear hi)))
 go_ret
 exact ⟨by first | rfl | (simp [errW_none, errW_some] <;> rfl) | (simp [*, errW_none, errW_some] <;> rfl), kH HB⟩
def tillerlaw07_QuotRoots.Pure : Prop := ∀ (a0 : Int) (a1 : Int), (Lit.int .u64 a0).wf = true → (Lit.int .i64 a1).wf = true → ∃ k, tillerlaw07_QuotRoots.f k a0 a1 = some true
theorem tillerlaw07_QuotRoots.walk (P : tillerlaw07_QuotRoots.Pure) (a0 : Int) (a1 : Int) (w : World) (w0 : (Lit.int .u64 a0).wf = true) (w1 : (Lit.int .i64 a1).wf = true) :
 Calls Try.prog 4 #[.int .u64 a0, .int .i64 a1] w fun e w' => e = .returned (.bool true) ∧ Below w.heap.size w w' := by
 obtain ⟨k, h⟩ := P a0 a1 w0 w1; refine (tillerlaw07_QuotRoots.calls k a0 a1 true w h).mono ?_; rintro e w' ⟨rfl, hd⟩; exact ⟨rfl, hd⟩
end Go.Proofs.Ytedjlpfggjcmfaa.X
end
section
namespace Go.Proofs.Ytedjlpfggjcmfaa
set_option linter.unusedVariables false
set_option linter.unusedSimpArgs false
open Go.RowKit X Go.Proofs.YtedjlpfggjcmfaaW.PrintWords
theorem nok_zeros (m : Nat) : nok (List.replicate m 0) := fun d hd => by have := List.eq_of_mem_replicate hd; omega
theorem nv_zeros (m : Nat) : nv (List.replicate m 0) = 0 := by
  induction m with
  | zero => rfl
  | succ m ih => rw [List.replicate_succ]; show (0 : Int).toNat + 65536 * nv (List.replicate m 0) = 0; rw [ih]; rfl
theorem two_16 {r : Nat} (h : r < 16) : 2 ^ r ≤ 32768 ∧ 1 ≤ 2 ^ r := ⟨by have := Nat.pow_le_pow_right (n := 2) (by omega) (show r ≤ 15 by omega); omega, Nat.two_pow_pos r⟩
theorem tmod_16 (n : Nat) : Int.tmod (n : Int) 16 = ((n % 16 : Nat) : Int) := by rw [Int.tmod_eq_emod_of_nonneg (by omega)]; omega
theorem tdiv_16 {n : Nat} (h : n < 4000000000000000000) : wrap64 (Int.tdiv (n : Int) 16) = ((n / 16 : Nat) : Int) := by rw [Int.tdiv_eq_ediv_of_nonneg (by omega)]; unfold wrap64; omega
section
variable {x y B : Nat}
theorem shl_loop1 (hB : B ≤ 1000000) (hx : x < 65536 ^ B) (q p : Nat) (hq : q ≤ 1000000) (hp : p ≤ 32768) : ∀ (d i c : Nat) (out : List Int), i + d = B → nok out → out.length = q + i → c < 65536 →
    nv out + 65536 ^ (q + i) * (c + x / 65536 ^ i * p) = 65536 ^ q * (x * p) → Ev (fun k => r2_Shl.l1 k (ln x) out (p : Int) (c : Int) (i : Int)) (ln (65536 ^ q * (x * p))) := by
  have fin : ∀ (i c : Nat) (out : List Int), i ≤ B → nok out → out.length = q + i → c < 65536 → nv out + 65536 ^ (q + i) * (c + x / 65536 ^ i * p) = 65536 ^ q * (x * p) → ¬ 65536 ^ i ≤ x → Ev (fun k => r2_Shl.l1 k (ln x) out (p : Int) (c : Int) (i : Int)) (ln (65536 ^ q * (x * p))) := by
    intro i c out hi hok hlen hc hv h1
    rw [div_zero_of h1, Nat.zero_mul, Nat.add_zero] at hv
    refine Ev.step (f := fun k => (r2_trim.f k (out ++ [(c : Int)])).bind fun t => some t) (fun k => ?_) (trim_to (nok_append hok (nok_one (by omega) (by omega))) (by simp; omega) (by rw [nv_append, nv_one, hlen, Int.toNat_natCast]; exact hv))
    simp only [r2_Shl.l1]
    rw [if_neg (len_neg h1), if_pos (by omega)]
  intro d
  induction d with
  | zero =>
    intro i c out hi hok hlen hc hv
    exact fin i c out (by omega) hok hlen hc hv (by rw [show i = B by omega]; omega)
  | succ d ih =>
    intro i c out hi hok hlen hc hv
    by_cases h1 : 65536 ^ i ≤ x
    · have hx' := div_step x i
      generalize hX : x / 65536 ^ (i + 1) = X at *
      generalize hdx : x / 65536 ^ i % 65536 = dx at *
      have bx : dx < 65536 := by omega
      have bm : dx * p ≤ 65535 * 32768 := Nat.mul_le_mul (by omega) hp
      generalize hm : dx * p = m at *
      refine Ev.step (f := fun k => r2_Shl.l1 k (ln x) (out ++ [(((c + m) % 65536 : Nat) : Int)]) (p : Int) (((c + m) / 65536 : Nat) : Int) ((i + 1 : Nat) : Int)) (fun k => ?_) (ih _ _ _ (by omega) (nok_append hok (nok_one (by omega) (by omega))) (by simp [hlen]; omega) (by omega) ?_)
      · simp only [r2_Shl.l1]
        rw [if_pos (len_pos h1), if_pos (by omega), if_pos (by omega), w1 (by omega), rd_ln, hdx]
        have e : ((dx : Nat) : Int) * (p : Int) = (m : Int) := by rw [← hm]; push_cast; rfl
        have eD : ((c : Int) + (m : Int)) % 65536 = (((c + m) % 65536 : Nat) : Int) := by omega
        have eC : (((c : Int) + (m : Int)) % 4294967296) / 65536 = (((c + m) / 65536 : Nat) : Int) := by omega
        rw [e, eD, eC]
      · rw [nv_append, hlen, nv_one, Int.toNat_natCast, hX, ← hv, hx', ← Nat.add_assoc q i 1, Nat.add_assoc, pw_step]
        congr 2
        rw [Nat.add_mul, hm, Nat.mul_assoc]
        generalize X * p = Z
        omega
    · exact fin i c out (by omega) hok hlen hc hv h1
theorem shl_loop0 (hB : B ≤ 1000000) (hx : x < 65536 ^ B) (n : Nat) (hn : n ≤ 10000000) : ∀ (d j : Nat), j + d = n % 16 → Ev (fun k => r2_Shl.l0 k (ln x) (n : Int) (List.replicate (n / 16) 0) ((2 ^ j : Nat) : Int) (j : Int)) (ln (x * 2 ^ n)) := by
  intro d
  induction d with
  | zero =>
    intro j hj
    have h2 := two_16 (show n % 16 < 16 by omega)
    have := shl_loop1 hB hx (n / 16) (2 ^ (n % 16)) (by omega) h2.1 B 0 0 (List.replicate (n / 16) 0) (by omega) (nok_zeros _) (by simp) (by omega) (by rw [nv_zeros, Nat.pow_zero, Nat.div_one]; simp)
    rw [show 65536 ^ (n / 16) * (x * 2 ^ (n % 16)) = x * 2 ^ n by rw [← pow_16 n, Nat.mul_left_comm]] at this
    refine Ev.step (f := fun k => r2_Shl.l1 k (ln x) (List.replicate (n / 16) 0) ((2 ^ (n % 16) : Nat) : Int) ((0 : Nat) : Int) ((0 : Nat) : Int)) (fun k => ?_) this
    simp only [r2_Shl.l0]
    rw [tmod_16, if_neg (by omega), show j = n % 16 by omega]
    rfl
  | succ d ih =>
    intro j hj
    have h2 := two_16 (show j < 16 by omega)
    refine Ev.step (f := fun k => r2_Shl.l0 k (ln x) (n : Int) (List.replicate (n / 16) 0) ((2 ^ (j + 1) : Nat) : Int) ((j + 1 : Nat) : Int)) (fun k => ?_) (ih (j + 1) (by omega))
    simp only [r2_Shl.l0]
    rw [tmod_16, if_pos (by omega), w1 (by omega), Nat.pow_succ]
    congr 1
    omega
theorem shl_ev (hB : B ≤ 1000000) (hx : x < 65536 ^ B) (n : Nat) (hn : n ≤ 10000000) : Ev (fun k => r2_Shl.f k (ln x) (n : Int)) (ln (x * 2 ^ n)) := by
  by_cases h0 : x = 0
  · subst h0
    refine Ev.congr (f := fun _ => some _) (fun k => ?_) (Ev.now _)
    unfold r2_Shl.f
    rw [ln_zero, Nat.zero_mul, ln_zero]
    rfl
  · have h1 : 0 < (ln x).length := ln_lt_iff.2 (by rw [Nat.pow_zero]; omega)
    refine Ev.congr (f := fun k => r2_Shl.l0 k (ln x) (n : Int) (List.replicate (n / 16) 0) ((2 ^ 0 : Nat) : Int) ((0 : Nat) : Int)) (fun k => ?_) (shl_loop0 hB hx n hn (n % 16) 0 (by omega))
    unfold r2_Shl.f
    rw [if_neg (by omega), tdiv_16 (by omega), if_pos (by omega), Int.toNat_natCast, if_pos (by omega)]
    rfl
theorem shr_part {z r : Nat} (h : r < 16) : z / 2 ^ r % 65536 = z % 65536 / 2 ^ r + z / 65536 % 65536 % 2 ^ r * (65536 / 2 ^ r) := by
  have h5 : r = 0 ∨ r = 1 ∨ r = 2 ∨ r = 3 ∨ r = 4 ∨ r = 5 ∨ r = 6 ∨ r = 7 ∨ r = 8 ∨ r = 9 ∨ r = 10 ∨ r = 11 ∨ r = 12 ∨ r = 13 ∨ r = 14 ∨ r = 15 := by omega
  rcases h5 with rfl | rfl | rfl | rfl | rfl | rfl | rfl | rfl | rfl | rfl | rfl | rfl | rfl | rfl | rfl | rfl <;> simp <;> omega
theorem shr_loop2 (hB : B ≤ 1000000) (hx : x < 65536 ^ B) (n : Nat) (lost : Bool) : ∀ (d i : Nat) (out : List Int), i + d = B → n / 16 ≤ i → nok out → out.length = i - n / 16 →
    nv out + 65536 ^ (i - n / 16) * (x / 65536 ^ i / 2 ^ (n % 16)) = x / 2 ^ n → Ev (fun k => r2_Shr.l2 k (ln x) lost ((2 ^ (n % 16) : Nat) : Int) out (i : Int)) (ln (x / 2 ^ n), lost) := by
  have h2 := two_16 (show n % 16 < 16 by omega)
  have fin : ∀ (i : Nat) (out : List Int), i ≤ B → nok out → out.length = i - n / 16 → nv out + 65536 ^ (i - n / 16) * (x / 65536 ^ i / 2 ^ (n % 16)) = x / 2 ^ n → ¬ 65536 ^ i ≤ x → Ev (fun k => r2_Shr.l2 k (ln x) lost ((2 ^ (n % 16) : Nat) : Int) out (i : Int)) (ln (x / 2 ^ n), lost) := by
    intro i out hi hok hlen hv h1
    rw [div_zero_of h1, Nat.zero_div, Nat.mul_zero, Nat.add_zero] at hv
    have hT := trim_ev hok (by omega)
    rw [hv] at hT
    refine Ev.step (f := fun k => (r2_trim.f k out).bind fun t => some (t, lost)) (fun k => ?_) (Ev.bind hT (Ev.now _))
    simp only [r2_Shr.l2]
    rw [if_neg (len_neg h1)]
  intro d
  induction d with
  | zero =>
    intro i out hi hge hok hlen hv
    exact fin i out (by omega) hok hlen hv (by rw [show i = B by omega]; omega)
  | succ d ih =>
    intro i out hi hge hok hlen hv
    by_cases h1 : 65536 ^ i ≤ x
    · have hp := shr_part (z := x / 65536 ^ i) (r := n % 16) (by omega)
      have e1 : x / 65536 ^ i / 65536 = x / 65536 ^ (i + 1) := by rw [Nat.div_div_eq_div_mul, ← Nat.pow_succ]
      rw [e1] at hp
      have b1 : x / 65536 ^ i / 2 ^ (n % 16) % 65536 < 65536 := Nat.mod_lt _ (by decide)
      refine Ev.step (f := fun k => r2_Shr.l2 k (ln x) lost ((2 ^ (n % 16) : Nat) : Int) (out ++ [((x / 65536 ^ i / 2 ^ (n % 16) % 65536 : Nat) : Int)]) ((i + 1 : Nat) : Int)) (fun k => ?_) (ih _ _ (by omega) (by omega) (nok_append hok (nok_one (by omega) (by omega))) (by simp [hlen]; omega) ?_)
      · simp only [r2_Shr.l2]
        rw [if_pos (len_pos h1), if_pos (by omega), if_neg (by omega), w1 (by omega), at_ln]
        simp only [Option.bind_some]
        rw [if_pos (by omega), rd_ln]
        congr 2
        rw [hp]
        rw [hp] at b1
        have b4 : x / 65536 ^ (i + 1) % 65536 % 2 ^ (n % 16) * (65536 / 2 ^ (n % 16)) < 65537 := Nat.lt_succ_of_lt (Nat.lt_of_le_of_lt (Nat.le_add_left _ (x / 65536 ^ i % 65536 / 2 ^ (n % 16))) b1)
        have t1 : Int.tdiv ((x / 65536 ^ i % 65536 : Nat) : Int) ((2 ^ (n % 16) : Nat) : Int) = ((x / 65536 ^ i % 65536 / 2 ^ (n % 16) : Nat) : Int) := by rw [Int.tdiv_eq_ediv_of_nonneg (by omega)]; rfl
        have t2 : Int.tmod ((x / 65536 ^ (i + 1) % 65536 : Nat) : Int) ((2 ^ (n % 16) : Nat) : Int) = ((x / 65536 ^ (i + 1) % 65536 % 2 ^ (n % 16) : Nat) : Int) := by rw [Int.tmod_eq_emod_of_nonneg (by omega)]; rfl
        have t3 : Int.tdiv 65536 ((2 ^ (n % 16) : Nat) : Int) = ((65536 / 2 ^ (n % 16) : Nat) : Int) := by rw [Int.tdiv_eq_ediv_of_nonneg (by omega)]; rfl
        have wr : ∀ v : Nat, v < 65537 → IntKind.u32.wrap (v : Int) = (v : Int) := fun v hv => by rw [IntKind.wrap_u32]; omega
        have b2 : x / 65536 ^ i % 65536 / 2 ^ (n % 16) ≤ 65535 := Nat.le_trans (Nat.div_le_self _ _) (by omega)
        have b3 : 65536 / 2 ^ (n % 16) ≤ 65536 := Nat.div_le_self _ _
        rw [t1, t2, t3, wr _ (by omega), wr _ (by omega), ← Int.natCast_mul, wr _ b4, ← Int.natCast_add, wr _ (by clear t1 t2 t3; omega)]
      · rw [nv_append, hlen, nv_one, Int.toNat_natCast, show i + 1 - n / 16 = (i - n / 16) + 1 by omega, Nat.add_assoc, pw_step, ← hv]
        congr 2
        have e2 : x / 65536 ^ (i + 1) / 2 ^ (n % 16) = x / 65536 ^ i / 2 ^ (n % 16) / 65536 := by rw [← e1, Nat.div_div_eq_div_mul (x / 65536 ^ i) 65536, Nat.mul_comm 65536, ← Nat.div_div_eq_div_mul]
        rw [e2]
        omega
    · exact fin i out (by omega) hok hlen hv h1
theorem shr_loop1 (hB : B ≤ 1000000) (hx : x < 65536 ^ B) (n : Nat) (hn : n ≤ 10000000) (hin : 65536 ^ (n / 16) ≤ x) : ∀ (d j : Nat), j + d = n % 16 →
    Ev (fun k => r2_Shr.l1 k (ln x) (n : Int) (decide (x % 65536 ^ (n / 16) ≠ 0)) ((n / 16 : Nat) : Int) ((2 ^ j : Nat) : Int) (j : Int)) (ln (x / 2 ^ n), decide (x % 2 ^ n ≠ 0)) := by
  have hbd : n / 16 ≤ B := by
    have h1 := ln_lt_iff.2 hin
    have h2 := ln_length hx
    omega
  intro d
  induction d with
  | zero =>
    intro j hj
    have h2 := two_16 (show n % 16 < 16 by omega)
    have hl := shr_loop2 hB hx n (decide (x % 2 ^ n ≠ 0)) (B - n / 16) (n / 16) [] (by omega) (Nat.le_refl _) nok_nil (by simp) (by rw [Nat.sub_self, Nat.pow_zero, Nat.one_mul, Nat.div_div_eq_div_mul, pow_16]; simp [nv])
    have hd := rd_ln x (n / 16)
    have hm : x % 2 ^ n = x % 65536 ^ (n / 16) + 65536 ^ (n / 16) * (x / 65536 ^ (n / 16) % 2 ^ (n % 16)) := by rw [← pow_16 n, Nat.mod_mul]
    have hmm : x / 65536 ^ (n / 16) % 65536 % 2 ^ (n % 16) = x / 65536 ^ (n / 16) % 2 ^ (n % 16) := Nat.mod_mod_of_dvd _ (by rw [show (65536 : Nat) = 2 ^ 16 from rfl]; exact Nat.pow_dvd_pow 2 (by omega))
    have hpos := p16 (n / 16)
    refine Ev.step (f := fun k => r2_Shr.j3 k (ln x) (decide (x % 2 ^ n ≠ 0)) ((n / 16 : Nat) : Int) ((2 ^ (n % 16) : Nat) : Int)) (fun k => ?_) (Ev.step (fun k => by simp only [r2_Shr.j3]) hl)
    simp only [r2_Shr.l1]
    rw [tmod_16, if_neg (by omega), show j = n % 16 by omega]
    by_cases z : x % 65536 ^ (n / 16) = 0
    · rw [decide_eq_false (by omega), if_neg (by decide), if_pos (by omega), if_pos (len_pos hin), if_neg (by omega), hd]
      congr 1
      rw [Int.tmod_eq_emod_of_nonneg (by omega), Bool.eq_iff_iff, decide_eq_true_iff, bne_iff_ne, hm, z, Nat.zero_add, ← hmm]
      rw [show (((x / 65536 ^ (n / 16) % 65536 : Nat) : Int) % ((2 ^ (n % 16) : Nat) : Int)) = ((x / 65536 ^ (n / 16) % 65536 % 2 ^ (n % 16) : Nat) : Int) from rfl]
      generalize x / 65536 ^ (n / 16) % 65536 % 2 ^ (n % 16) = t at *
      constructor
      · intro h g
        rcases Nat.mul_eq_zero.1 g with g | g
        · omega
        · omega
      · intro h g
        have : t = 0 := by omega
        subst this
        exact h (Nat.mul_zero _)
    · rw [decide_eq_true z, if_pos rfl, decide_eq_true (by omega)]
  | succ d ih =>
    intro j hj
    have h2 := two_16 (show j < 16 by omega)
    refine Ev.step (f := fun k => r2_Shr.l1 k (ln x) (n : Int) (decide (x % 65536 ^ (n / 16) ≠ 0)) ((n / 16 : Nat) : Int) ((2 ^ (j + 1) : Nat) : Int) ((j + 1 : Nat) : Int)) (fun k => ?_) (ih (j + 1) (by omega))
    simp only [r2_Shr.l1]
    rw [tmod_16, if_pos (by omega), w1 (by omega), Nat.pow_succ]
    congr 1
    omega
theorem shr_loop0 (hB : B ≤ 1000000) (hx : x < 65536 ^ B) (n : Nat) (hn : n ≤ 10000000) : ∀ (d i : Nat), i + d = n / 16 →
    Ev (fun k => r2_Shr.l0 k (ln x) (n : Int) (decide (x % 65536 ^ i ≠ 0)) ((n / 16 : Nat) : Int) (i : Int)) (ln (x / 2 ^ n), decide (x % 2 ^ n ≠ 0)) := by
  have out : ∀ i, i ≤ n / 16 → ¬ 65536 ^ i ≤ x → Ev (fun k => r2_Shr.j1 k (ln x) (n : Int) (decide (x % 65536 ^ i ≠ 0)) ((n / 16 : Nat) : Int)) (ln (x / 2 ^ n), decide (x % 2 ^ n ≠ 0)) := by
    intro i hi h1
    have h2 : 65536 ^ i ≤ 65536 ^ (n / 16) := Nat.pow_le_pow_right (by omega) hi
    have h3 : 65536 ^ (n / 16) ≤ 2 ^ n := by rw [← pow_16 n]; exact Nat.le_mul_of_pos_right _ (Nat.two_pow_pos _)
    refine Ev.step (f := fun _ => some _) (fun k => ?_) (Ev.now _)
    simp only [r2_Shr.j1]
    have := len_neg (x := x) (i := n / 16) (by omega)
    rw [if_pos (by omega), Nat.mod_eq_of_lt (by omega), Nat.mod_eq_of_lt (by omega), Nat.div_eq_of_lt (by omega), ln_zero]
  intro d
  induction d with
  | zero =>
    intro i hi
    obtain rfl : i = n / 16 := by omega
    by_cases h1 : 65536 ^ (n / 16) ≤ x
    · refine Ev.step (f := fun k => r2_Shr.j1 k (ln x) (n : Int) (decide (x % 65536 ^ (n / 16) ≠ 0)) ((n / 16 : Nat) : Int)) (fun k => ?_) (Ev.step (f := fun k => r2_Shr.l1 k (ln x) (n : Int) (decide (x % 65536 ^ (n / 16) ≠ 0)) ((n / 16 : Nat) : Int) ((2 ^ 0 : Nat) : Int) ((0 : Nat) : Int)) (fun k => ?_) (shr_loop1 hB hx n hn h1 (n % 16) 0 (by omega)))
      · simp only [r2_Shr.l0]
        rw [if_neg (by omega)]
      · simp only [r2_Shr.j1]
        have := len_pos h1
        rw [if_neg (by omega)]
        rfl
    · refine Ev.step (fun k => ?_) (out _ (Nat.le_refl _) h1)
      simp only [r2_Shr.l0]
      rw [if_neg (by omega)]
  | succ d ih =>
    intro i hi
    by_cases h1 : 65536 ^ i ≤ x
    · have hm : x % 65536 ^ (i + 1) = x % 65536 ^ i + 65536 ^ i * (x / 65536 ^ i % 65536) := by rw [Nat.pow_succ, Nat.mod_mul]
      have hpos := p16 i
      refine Ev.step (f := fun k => r2_Shr.l0 k (ln x) (n : Int) (decide (x % 65536 ^ (i + 1) ≠ 0)) ((n / 16 : Nat) : Int) ((i + 1 : Nat) : Int)) (fun k => ?_) (ih (i + 1) (by omega))
      simp only [r2_Shr.l0]
      rw [if_pos (by omega), if_pos (len_pos h1), w1 (by omega), rd_ln]
      by_cases z : x % 65536 ^ i = 0
      · rw [decide_eq_false (by omega), if_neg (by decide), if_pos (by omega)]
        congr 1
        rw [Bool.eq_iff_iff, decide_eq_true_iff, bne_iff_ne, hm, z, Nat.zero_add]
        generalize x / 65536 ^ i % 65536 = t at *
        constructor
        · intro h g
          rcases Nat.mul_eq_zero.1 g with g | g
          · omega
          · omega
        · intro h g
          have : t = 0 := by omega
          subst this
          exact h (Nat.mul_zero _)
      · rw [decide_eq_true z, if_pos rfl, decide_eq_true (by omega)]
    · refine Ev.step (fun k => ?_) (out i (by omega) h1)
      simp only [r2_Shr.l0]
      rw [if_pos (by omega), if_neg (len_neg h1)]
theorem shr_ev (hB : B ≤ 1000000) (hx : x < 65536 ^ B) (n : Nat) (h0 : n ≠ 0) (hn : n ≤ 10000000) : Ev (fun k => r2_Shr.f k (ln x) (n : Int)) (ln (x / 2 ^ n), decide (x % 2 ^ n ≠ 0)) := by
  refine Ev.congr (f := fun k => r2_Shr.l0 k (ln x) (n : Int) (decide (x % 65536 ^ 0 ≠ 0)) ((n / 16 : Nat) : Int) ((0 : Nat) : Int)) (fun k => ?_) (shr_loop0 hB hx n hn (n / 16) 0 (by omega))
  unfold r2_Shr.f
  rw [if_neg (by omega), tdiv_16 (by omega), Nat.pow_zero, Nat.mod_one]
  rfl
end
end Go.Proofs.Ytedjlpfggjcmfaa
end
section
namespace Go.Proofs.Ytedjlpfggjcmfaa
set_option linter.unusedVariables false
set_option linter.unusedSimpArgs false
open Go.RowKit X Go.Proofs.YtedjlpfggjcmfaaW.PrintWords
theorem nv_set {l : List Int} (i : Nat) (hi : i < l.length) (d : Int) : nv (l.set i d) + 65536 ^ i * (l.getD i 0).toNat = nv l + 65536 ^ i * d.toNat := by
  induction l generalizing i with
  | nil => simp at hi
  | cons e l ih =>
    cases i with
    | zero => simp [nv]; omega
    | succ i =>
      have := ih i (by simpa using hi)
      show e.toNat + 65536 * nv (l.set i d) + 65536 ^ (i + 1) * (l.getD i 0).toNat = e.toNat + 65536 * nv l + 65536 ^ (i + 1) * d.toNat
      rw [Nat.pow_succ', Nat.mul_assoc, Nat.mul_assoc, Nat.add_assoc, ← Nat.mul_add, this, Nat.mul_add, Nat.add_assoc]
theorem nok_set {l : List Int} (h : nok l) (i : Nat) {d : Int} (h0 : 0 ≤ d) (h1 : d < 65536) : nok (l.set i d) := fun e he => by
  rcases List.mem_or_eq_of_mem_set he with g | g
  · exact h e g
  · subst g; exact ⟨h0, h1⟩
section
variable {x y B : Nat}
theorem wr64 (v : Nat) (hv : v < 18446744073709551616) : IntKind.u64.wrap (v : Int) = (v : Int) := by rw [IntKind.wrap_u64]; omega
theorem wr64m (v w : Nat) (hv : v * w < 18446744073709551616) : IntKind.u64.wrap ((v : Int) * (w : Int)) = ((v * w : Nat) : Int) := by rw [← Int.natCast_mul]; exact wr64 _ hv
theorem wr64a (v w : Nat) (hv : v + w < 18446744073709551616) : IntKind.u64.wrap ((v : Int) + (w : Int)) = ((v + w : Nat) : Int) := by rw [← Int.natCast_add]; exact wr64 _ hv
end
end Go.Proofs.Ytedjlpfggjcmfaa
end
section
namespace Go.Proofs.Ytedjlpfggjcmfaa
set_option linter.unusedVariables false
set_option linter.unusedSimpArgs false
open Go.RowKit X Go.Proofs.YtedjlpfggjcmfaaW.PrintWords
def tU (mi : Bool) (e : Int) (s : Nat) (n m : Int) : Bool := upB m mi (decide (s / 2 ^ (n - e).toNat % 2 = 1)) (cutH s e n) (cutR s e n)
def tQ (mi : Bool) (e : Int) (s : Nat) (n m : Int) : Nat := if n ≤ e then s * 2 ^ (e - n).toNat else s / 2 ^ (n - e).toNat + if tU mi e s n m = true then 1 else 0
theorem mod_two_pow (s k : Nat) : s % 2 ^ (k + 1) = s % 2 ^ k + 2 ^ k * (s / 2 ^ k % 2) := by rw [Nat.pow_succ, Nat.mod_mul]
theorem odd_of (s : Nat) {e n : Int} (h : e < n) : rOdd s e n = decide (s % 2 ^ (n - e).toNat ≠ 0) := by
  unfold rOdd cutH cutR
  rw [if_neg (by omega), if_neg (by omega)]
  obtain ⟨k, hk⟩ : ∃ k, (n - e).toNat = k + 1 := ⟨(n - e).toNat - 1, by omega⟩
  rw [hk, show (n - e - 1).toNat = k by omega, mod_two_pow]
  have hp := Nat.two_pow_pos k
  have h2 : s / 2 ^ k % 2 = 0 ∨ s / 2 ^ k % 2 = 1 := by omega
  rw [Bool.eq_iff_iff]
  simp only [Bool.or_eq_true, decide_eq_true_eq]
  rcases h2 with h2 | h2 <;> rw [h2] <;> omega
theorem one_B {B : Nat} (h : 1 ≤ B) : 1 < 65536 ^ B := by
  have := Nat.pow_le_pow_right (n := 65536) (by omega) h
  rw [Nat.pow_one] at this
  omega
section
variable {B : Nat}
theorem of_one : Ev (fun k => r2_Of.f k 1) (ln 1) := of_ev (n := 1) (by unfold U; omega)
theorem to_j3 (hB : B ≤ 1000000) {q : Nat} (hq : q < 65536 ^ B) (h1 : 1 ≤ B) (up : Bool) : Ev (fun k => r4_To.j3 k (ln q) up) (ln (q + if up = true then 1 else 0), true) := by
  cases up
  · refine Ev.step (f := fun _ => some _) (fun k => ?_) (Ev.now _)
    simp only [r4_To.j3]
    rw [if_neg (by decide), if_neg (by decide), Nat.add_zero]
  · refine Ev.step (f := fun k => (r2_Of.f k 1).bind fun t281 => ((r2_Add.f k (ln q) t281).bind fun t284 => (some (t284, true)))) (fun k => ?_) (Ev.bind of_one (Ev.bind (add_ev hB hq (one_B h1)) (Ev.now _)))
    simp only [r4_To.j3]
    first | rw [if_pos rfl] | rw [if_pos trivial]
theorem to_j2 (hB : B ≤ 1000000) {q : Nat} (hq : q < 65536 ^ B) (h1 : 1 ≤ B) (m : Int) (H J mi : Bool) (e : Int) (X : List Int) : Ev (fun k => r4_To.j2 k m (ln q) H J mi e X) (ln (q + if (if m = 1 then H else if m = 2 then false else if m = 3 then !mi else if m = 4 then mi else J) = true then 1 else 0), true) := by
  have h3 := to_j3 hB hq h1
  refine Ev.step (f := fun k => r4_To.j3 k (ln q) (if m = 1 then H else if m = 2 then false else if m = 3 then !mi else if m = 4 then mi else J)) (fun k => ?_) (h3 _)
  simp only [r4_To.j2]
  by_cases c1 : m = 1
  · rw [if_pos c1, if_pos c1]
  · rw [if_neg c1, if_neg c1]
    by_cases c2 : m = 2
    · rw [if_pos c2, if_pos c2]
    · rw [if_neg c2, if_neg c2]
      by_cases c3 : m = 3
      · rw [if_pos c3, if_pos c3]
      · rw [if_neg c3, if_neg c3]
        by_cases c4 : m = 4
        · rw [if_pos c4, if_pos c4]
        · rw [if_neg c4, if_neg c4]
theorem to_j1 (hB : B ≤ 1000000) {q : Nat} (hq : q < 65536 ^ B) (h1 : 1 ≤ B) (m : Int) (H just mi : Bool) (e : Int) (X : List Int) : Ev (fun k => r4_To.j1 k m (ln q) H just mi e X) (ln (q + if (if m = 1 then H else if m = 2 then false else if m = 3 then !mi else if m = 4 then mi else H && (!just || decide (q % 2 = 1))) = true then 1 else 0), true) := by
  refine Ev.step (f := fun k => r4_To.j2 k m (ln q) H (H && (!just || decide (q % 2 = 1))) mi e X) (fun k => ?_) (to_j2 hB hq h1 m H _ mi e X)
  simp only [r4_To.j1]
  cases H
  · rw [if_neg (by decide)]; rfl
  · first | rw [if_pos rfl] | rw [if_pos trivial]
    cases just
    · rw [if_neg (by decide)]; rfl
    · first | rw [if_pos rfl] | rw [if_pos trivial]
      by_cases h0 : q = 0
      · subst h0
        rw [ln_zero]
        rfl
      · have hl : 0 < (ln q).length := ln_lt_iff.2 (by rw [Nat.pow_zero]; omega)
        have hr := rd_ln q 0
        rw [Nat.pow_zero, Nat.div_one] at hr
        rw [if_pos (by omega), if_pos (by omega), show (0 : Int) = ((0 : Nat) : Int) from rfl, hr, Int.tmod_eq_emod_of_nonneg (by omega)]
        congr 1
        rw [Bool.eq_iff_iff]
        simp only [beq_iff_eq, Bool.true_and, Bool.not_true, Bool.false_or, decide_eq_true_eq]
        omega
theorem to_j0 (hB : B ≤ 1000000) {q r : Nat} (hq : q < 65536 ^ B) (hr : r < 65536 ^ B) (b : Nat) (hb : 2 ^ b < 65536 ^ B) (hbl : b ≤ 10000000) (m : Int) (H mi : Bool) (e : Int) (X : List Int) (h1 : 1 ≤ B) :
    Ev (fun k => r4_To.j0 k m ((b + 1 : Nat) : Int) (ln q) H (ln r) mi e X) (ln (q + if (if m = 1 then H else if m = 2 then false else if m = 3 then !mi else if m = 4 then mi else H && (!(H && decide (r = 2 ^ b)) || decide (q % 2 = 1))) = true then 1 else 0), true) := by
  cases H
  · have := to_j1 hB hq h1 m false false mi e X
    refine Ev.step (f := fun k => r4_To.j1 k m (ln q) false false mi e X) (fun k => ?_) this
    simp only [r4_To.j0]
    rw [if_neg (by decide)]
  · have hS := shl_ev hB (one_B h1) b hbl
    rw [Nat.one_mul] at hS
    have hC := cmp_ev hB hr hb
    have ej : (cmpI r (2 ^ b) == 0) = decide (r = 2 ^ b) := by
      rw [Bool.eq_iff_iff]
      simp only [beq_iff_eq, decide_eq_true_eq]
      unfold cmpI
      split
      · omega
      · split <;> omega
    have := to_j1 hB hq h1 m true (decide (r = 2 ^ b)) mi e X
    rw [← ej] at this
    refine Ev.step (f := fun k => (r2_Of.f k 1).bind fun t273 => ((r2_Shl.f k t273 (b : Int)).bind fun t276 => ((r2_Cmp.f k (ln r) t276).bind fun t279 => (r4_To.j1 k m (ln q) true (t279 == 0) mi e X)))) (fun k => ?_) (Ev.bind of_one (Ev.bind hS (Ev.bind hC ?_)))
    · simp only [r4_To.j0]
      first | rw [if_pos rfl, show wrap64 (((b + 1 : Nat) : Int) - 1) = (b : Int) by unfold wrap64; omega] | rw [if_pos trivial, show wrap64 (((b + 1 : Nat) : Int) - 1) = (b : Int) by unfold wrap64; omega]
    · rw [← ej]
      simp only [Bool.true_and] at this ⊢
      exact this
theorem upB_lost (m : Int) (mi od H R : Bool) (h : (H || R) = true) (hm : m = 0 ∨ m = 1 ∨ m = 2 ∨ m = 3 ∨ m = 4) : (if m = 1 then H else if m = 2 then false else if m = 3 then !mi else if m = 4 then mi else H && (!(H && !R) || od)) = upB m mi od H R := by
  unfold upB
  rcases hm with rfl | rfl | rfl | rfl | rfl <;> cases H <;> cases R <;> cases mi <;> cases od <;> simp at *
theorem to_ev (hB : B ≤ 1000000) (h1 : 1 ≤ B) {s : Nat} {e n m : Int} (mi : Bool) (hs : s < 65536 ^ B) (he : -2000000 ≤ e) (he2 : e ≤ 2000000) (hn : -2000000 ≤ n) (hn2 : n ≤ 2000000) (hm : m = 0 ∨ m = 1 ∨ m = 2 ∨ m = 3 ∨ m = 4) (hbig : 2 ^ (n - e).toNat < 65536 ^ B) :
    Ev (fun k => r4_To.f k mi e (ln s) n m) (ln (tQ mi e s n m), rOdd s e n) := by
  by_cases c : n ≤ e
  · have hS := shl_ev hB hs (e - n).toNat (by omega)
    have e1 : tQ mi e s n m = s * 2 ^ (e - n).toNat := by unfold tQ; rw [if_pos c]
    have e2 : rOdd s e n = false := by unfold rOdd cutH cutR; rw [if_pos c, if_pos c]; rfl
    rw [e1, e2]
    refine Ev.congr (f := fun k => (r2_Shl.f k (ln s) (((e - n).toNat : Nat) : Int)).bind fun t258 => some (t258, false)) (fun k => ?_) (Ev.bind hS (Ev.now _))
    unfold r4_To.f
    rw [if_pos (by omega), show wrap64 (e - n) = (((e - n).toNat : Nat) : Int) by unfold wrap64; omega]
  · obtain ⟨b, hb⟩ : ∃ b, (n - e).toNat = b + 1 := ⟨(n - e).toNat - 1, by omega⟩
    rw [hb] at hbig
    have hbb : 2 ^ b < 65536 ^ B := by rw [Nat.pow_succ] at hbig; omega
    have ew : wrap64 (n - e) = ((b + 1 : Nat) : Int) := by unfold wrap64; omega
    have ew2 : wrap64 (((b + 1 : Nat) : Int) - 1) = (b : Int) := by unfold wrap64; omega
    have hR := shr_ev hB hs (b + 1) (by omega) (by omega)
    have hq : s / 2 ^ (b + 1) < 65536 ^ B := Nat.lt_of_le_of_lt (Nat.div_le_self _ _) hs
    have hodd := odd_of s (show e < n by omega)
    rw [hb] at hodd
    have hH : cutH s e n = decide (s / 2 ^ b % 2 = 1) := by unfold cutH; rw [if_neg c, show (n - e - 1).toNat = b by omega]
    have hRr : cutR s e n = decide (s % 2 ^ b ≠ 0) := by unfold cutR; rw [if_neg c, show (n - e - 1).toNat = b by omega]
    rw [hodd]
    by_cases z : s % 2 ^ (b + 1) = 0
    · have e1 : tQ mi e s n m = s / 2 ^ (b + 1) := by
        have ho : rOdd s e n = false := by rw [odd_of s (by omega), hb]; exact decide_eq_false (by omega)
        unfold rOdd at ho
        unfold tQ tU
        rw [if_neg c, hb, (Bool.or_eq_false_iff.1 ho).1, (Bool.or_eq_false_iff.1 ho).2, upB_no]
        rfl
      rw [e1, decide_eq_false (by omega)]
      rw [decide_eq_false (by omega)] at hR
      refine Ev.congr (f := fun k => (r2_Shr.f k (ln s) ((b + 1 : Nat) : Int)).bind fun bt261 => (if bt261.2 = true then ((r2_Bit.f k (ln s) (b : Int)).bind fun t265 => ((r2_Len.f k (ln s)).bind fun t266 => (if ((b + 1 : Nat) : Int) ≤ t266 then ((r2_Shl.f k bt261.1 ((b + 1 : Nat) : Int)).bind fun t267 => ((r2_Sub.f k (ln s) t267).bind fun t270 => (r4_To.j0 k m ((b + 1 : Nat) : Int) bt261.1 (t265 == 1) t270 mi e (ln s)))) else (r4_To.j0 k m ((b + 1 : Nat) : Int) bt261.1 (t265 == 1) (ln s) mi e (ln s))))) else (some (bt261.1, false)))) (fun k => ?_) (Ev.bind hR ?_)
      · unfold r4_To.f
        rw [if_neg (by omega), ew, ew2]
      · exact Ev.congr (fun k => by rw [if_neg Bool.false_ne_true]) (Ev.now _)
    · rw [decide_eq_true z]
      rw [decide_eq_true z] at hR
      have hBit := bit_ev s b (by omega)
      have hLen := len_ev hB hs
      have eb : (((s / 2 ^ b % 2 : Nat) : Int) == 1) = cutH s e n := by rw [hH, Bool.eq_iff_iff]; simp only [beq_iff_eq, decide_eq_true_eq]; omega
      have hrest : s % 2 ^ (b + 1) < 65536 ^ B := Nat.lt_of_le_of_lt (Nat.mod_le _ _) hs
      have hj0 := to_j0 hB hq hrest b hbb (by omega) m (cutH s e n) mi e (ln s) h1
      have hlost : (cutH s e n || cutR s e n) = true := by have := odd_of s (show e < n by omega); unfold rOdd at this; rw [this, hb]; exact decide_eq_true z
      have ejust : (cutH s e n && decide (s % 2 ^ (b + 1) = 2 ^ b)) = (cutH s e n && !cutR s e n) := by
        rw [hH, hRr]
        have := mod_two_pow s b
        have hp := Nat.two_pow_pos b
        by_cases t : s / 2 ^ b % 2 = 1
        · rw [decide_eq_true t, Bool.true_and, Bool.true_and, this, t, Bool.eq_iff_iff]
          simp only [decide_eq_true_eq, Bool.not_eq_true', decide_eq_false_iff_not]
          omega
        · rw [decide_eq_false t]; rfl
      have eT : tQ mi e s n m = s / 2 ^ (b + 1) + if tU mi e s n m = true then 1 else 0 := by unfold tQ; rw [if_neg c, hb]
      have eU : tU mi e s n m = upB m mi (decide (s / 2 ^ (b + 1) % 2 = 1)) (cutH s e n) (cutR s e n) := by unfold tU; rw [hb]
      rw [ejust, upB_lost m mi (decide (s / 2 ^ (b + 1) % 2 = 1)) _ _ hlost hm, ← eU, ← eT] at hj0
      refine Ev.congr (f := fun k => (r2_Shr.f k (ln s) ((b + 1 : Nat) : Int)).bind fun bt261 => (if bt261.2 = true then ((r2_Bit.f k (ln s) (b : Int)).bind fun t265 => ((r2_Len.f k (ln s)).bind fun t266 => (if ((b + 1 : Nat) : Int) ≤ t266 then ((r2_Shl.f k bt261.1 ((b + 1 : Nat) : Int)).bind fun t267 => ((r2_Sub.f k (ln s) t267).bind fun t270 => (r4_To.j0 k m ((b + 1 : Nat) : Int) bt261.1 (t265 == 1) t270 mi e (ln s)))) else (r4_To.j0 k m ((b + 1 : Nat) : Int) bt261.1 (t265 == 1) (ln s) mi e (ln s))))) else (some (bt261.1, false)))) (fun k => ?_) (Ev.bind hR (Ev.congr (fun k => by first | rw [if_pos rfl] | rw [if_pos trivial]) (Ev.bind hBit (Ev.bind hLen ?_))))
      · unfold r4_To.f
        rw [if_neg (by omega), ew, ew2]
      · simp only [eb]
        by_cases hl : ((b + 1 : Nat) : Int) ≤ (blen s : Int)
        · have hS := shl_ev hB hq (b + 1) (by omega)
          have hm2 := Nat.div_add_mod s (2 ^ (b + 1))
          have hsub := sub_ev hB hs (y := s / 2 ^ (b + 1) * 2 ^ (b + 1)) (Nat.div_mul_le_self _ _)
          rw [show s - s / 2 ^ (b + 1) * 2 ^ (b + 1) = s % 2 ^ (b + 1) by rw [Nat.mul_comm]; omega] at hsub
          exact Ev.congr (fun k => by rw [if_pos hl]) (Ev.bind hS (Ev.bind hsub hj0))
        · have : s < 2 ^ (b + 1) := blen_le_iff.1 (by omega)
          rw [Nat.mod_eq_of_lt this] at hj0
          exact Ev.congr (fun k => by rw [if_neg hl]) hj0
end
end Go.Proofs.Ytedjlpfggjcmfaa
end
section
namespace Go.Proofs.Ytedjlpfggjcmfaa
set_option linter.unusedVariables false
set_option linter.unusedSimpArgs false
open Go.RowKit X Go.Proofs.YtedjlpfggjcmfaaW.PrintWords
def overA (mi : Bool) (m : Int) : Int := if m = 2 ∨ (m = 3 ∧ mi = true) ∨ (m = 4 ∧ mi = false) then 9218868437227405311 else 9218868437227405312
theorem overA_bd (mi : Bool) (m : Int) : 0 ≤ overA mi m ∧ overA mi m < 9223372036854775808 := by unfold overA; split <;> omega
theorem over4_eq (mi : Bool) (m : Int) : r4_over.f mi m = some (overA mi m) := by
  unfold r4_over.f overA
  by_cases h2 : m = 2
  · rw [if_pos h2, if_pos (.inl h2)]
  · rw [if_neg h2]
    by_cases h3 : m = 3
    · subst h3; cases mi <;> simp
    · rw [if_neg h3]
      by_cases h4 : m = 4
      · subst h4; cases mi <;> simp
      · simp [h2, h3, h4]
theorem signed4_eq {a : Int} (h0 : 0 ≤ a) (h1 : a < 9223372036854775808) (mi : Bool) : r4_signed.f a mi = some (a + sg mi) := by
  unfold r4_signed.f sg
  cases mi
  · simp
  · rw [if_pos rfl, if_pos rfl, IntKind.wrap_u64]
    congr 1
    omega
theorem round_j4 (k : Nat) (n f : Int) (q : Nat) (mi : Bool) (e : Int) (X : List Int) (hn : -1074 ≤ n) (hn2 : n ≤ 971) (hq : q < 9007199254740992) (h52 : q < 4503599627370496 → n = -1074) :
    r4_Round.j4 (k + 1) n f (q : Int) mi e X = some ((q : Int) + (n + 1074) * 4503599627370496 + sg mi, f) := by
  simp only [r4_Round.j4]
  by_cases c : (q : Int) ≥ 4503599627370496
  · have e0 : wrap64 (n + 1075) = n + 1075 := by unfold wrap64; omega
    have e1 : IntKind.u64.wrap ((IntKind.u64.wrap ((IntKind.u64.wrap ((IntKind.u64.wrap (n + 1075)) * 4503599627370496)) + (q : Int))) - 4503599627370496) = (q : Int) + (n + 1074) * 4503599627370496 := by simp only [IntKind.wrap_u64]; omega
    rw [if_pos c, e0, e1, signed4_eq (by omega) (by omega)]
    rfl
  · rw [if_neg c, signed4_eq (by omega) (by omega), Option.bind_some]
    have := h52 (by omega)
    subst this
    simp
theorem round_j6 (k : Nat) (n f : Int) (q : Nat) (mi : Bool) (e : Int) (X : List Int) (hn : -1074 ≤ n) (hn2 : n ≤ 971) (hq : q < 9007199254740992) (h52 : q < 4503599627370496 → n = -1074) :
    r4_Round.j6 (k + 1) n f (q : Int) mi e X = some ((q : Int) + (n + 1074) * 4503599627370496 + sg mi, f) := by
  simp only [r4_Round.j6]
  by_cases c : (q : Int) ≥ 4503599627370496
  · have e0 : wrap64 (n + 1075) = n + 1075 := by unfold wrap64; omega
    have e1 : IntKind.u64.wrap ((IntKind.u64.wrap ((IntKind.u64.wrap ((IntKind.u64.wrap (n + 1075)) * 4503599627370496)) + (q : Int))) - 4503599627370496) = (q : Int) + (n + 1074) * 4503599627370496 := by simp only [IntKind.wrap_u64]; omega
    rw [if_pos c, e0, e1, signed4_eq (by omega) (by omega)]
    rfl
  · rw [if_neg c, signed4_eq (by omega) (by omega), Option.bind_some]
    have := h52 (by omega)
    subst this
    simp
def fin2 (mi : Bool) (n : Int) (q : Nat) (m f : Int) : Int × Int := if 9218868437227405312 ≤ (q : Int) + (n + 1074) * 4503599627370496 then (overA mi m + sg mi, 20) else ((q : Int) + (n + 1074) * 4503599627370496 + sg mi, f)
theorem blen_53 {q : Nat} (h1 : 4503599627370496 ≤ q) (h2 : q < 9007199254740992) : blen q = 53 := blen_eq (k := 52) h1 h2
theorem blen_54 : blen 9007199254740992 = 54 := by decide
theorem small_B {B q : Nat} (hB : 130000 ≤ B) (hq : q < 18446744073709551616) : q < 65536 ^ B := by
  have := Nat.pow_le_pow_right (n := 65536) (by omega) (show 4 ≤ B by omega)
  rw [show 65536 ^ 4 = 18446744073709551616 from rfl] at this
  omega
section
variable {B : Nat}
theorem round_j3 (hB : B ≤ 1000000) (hB2 : 130000 ≤ B) {n : Int} {q : Nat} (m f : Int) (mi : Bool) (e : Int) (X : List Int) (hn : -1074 ≤ n) (hn2 : n ≤ 2000) (hq : q ≤ 9007199254740992) (h52 : q < 4503599627370496 → n = -1074) :
    Ev (fun k => r4_Round.j3 k m n (ln q) f mi e X) (fin2 mi n q m f) := by
  have hqB : q < 65536 ^ B := small_B hB2 (by omega)
  have hL := len_ev hB hqB
  have hLow := low_ev q (by have := ln_length hqB; omega)
  rw [Nat.mod_eq_of_lt (by omega)] at hLow
  have hb : blen q ≤ 54 := blen_le_iff.2 (by rw [show (2 : Nat) ^ 54 = 18014398509481984 from rfl]; omega)
  have hov := overA_bd mi m
  refine Ev.step (f := fun k => (r2_Len.f k (ln q)).bind fun t305 => (if (wrap64 (t305 + n)) > 1024 then ((r4_over.f mi m).bind fun t306 => ((r4_signed.f t306 mi).bind fun t307 => (some (t307, 20)))) else ((r2_Low.f k (ln q)).bind fun t308 => (if t308 = 9007199254740992 then (r4_Round.j4 k (wrap64 (n + 1)) f 4503599627370496 mi e X) else (r4_Round.j4 k n f t308 mi e X))))) (fun k => by simp only [r4_Round.j3]) (Ev.bind hL ?_)
  have ew : wrap64 ((blen q : Int) + n) = (blen q : Int) + n := by unfold wrap64; omega
  have ew1 : wrap64 (n + 1) = n + 1 := by unfold wrap64; omega
  unfold fin2
  simp only [ew, ew1]
  by_cases c : (blen q : Int) + n > 1024
  · have hP : 9218868437227405312 ≤ (q : Int) + (n + 1074) * 4503599627370496 := by
      rcases Nat.lt_or_ge q 4503599627370496 with g | g
      · have := h52 g; omega
      · rcases Nat.lt_or_ge q 9007199254740992 with g2 | g2
        · have := blen_53 g g2; omega
        · have : q = 9007199254740992 := by omega
          subst this; have := blen_54; omega
    rw [if_pos hP]
    refine Ev.congr (fun k => ?_) (Ev.now _)
    rw [if_pos c, over4_eq, Option.bind_some, signed4_eq hov.1 hov.2, Option.bind_some]
  · have hP : ¬ 9218868437227405312 ≤ (q : Int) + (n + 1074) * 4503599627370496 := by
      rcases Nat.lt_or_ge q 4503599627370496 with g | g
      · have := h52 g; omega
      · rcases Nat.lt_or_ge q 9007199254740992 with g2 | g2
        · have := blen_53 g g2; omega
        · have : q = 9007199254740992 := by omega
          subst this; have := blen_54; omega
    rw [if_neg hP]
    refine Ev.congr (fun k => by rw [if_neg c]) (Ev.bind hLow ?_)
    by_cases c3 : (q : Int) = 9007199254740992
    · refine Ev.congr (fun k => by rw [if_pos c3]) (Ev.step (fun k => round_j4 k (n + 1) f 4503599627370496 mi e X (by omega) ?_ (by omega) (by omega)) ?_)
      · have : q = 9007199254740992 := by omega
        subst this; have := blen_54; omega
      · refine Ev.congr (fun k => ?_) (Ev.now _)
        congr 2
        omega
    · refine Ev.congr (fun k => by rw [if_neg c3]) (Ev.step (fun k => round_j4 k n f q mi e X hn ?_ (by omega) h52) (Ev.now _))
      rcases Nat.lt_or_ge q 4503599627370496 with g | g
      · have := h52 g; omega
      · have := blen_53 g (by omega); omega
theorem round_j5 (hB : B ≤ 1000000) (hB2 : 130000 ≤ B) {n : Int} {q : Nat} (m f : Int) (mi : Bool) (e : Int) (X : List Int) (hn : -1074 ≤ n) (hn2 : n ≤ 2000) (hq : q ≤ 9007199254740992) (h52 : q < 4503599627370496 → n = -1074) :
    Ev (fun k => r4_Round.j5 k m n (ln q) f mi e X) (fin2 mi n q m f) := by
  have hqB : q < 65536 ^ B := small_B hB2 (by omega)
  have hL := len_ev hB hqB
  have hLow := low_ev q (by have := ln_length hqB; omega)
  rw [Nat.mod_eq_of_lt (by omega)] at hLow
  have hb : blen q ≤ 54 := blen_le_iff.2 (by rw [show (2 : Nat) ^ 54 = 18014398509481984 from rfl]; omega)
  have hov := overA_bd mi m
  refine Ev.step (f := fun k => (r2_Len.f k (ln q)).bind fun t305 => (if (wrap64 (t305 + n)) > 1024 then ((r4_over.f mi m).bind fun t306 => ((r4_signed.f t306 mi).bind fun t307 => (some (t307, 20)))) else ((r2_Low.f k (ln q)).bind fun t308 => (if t308 = 9007199254740992 then (r4_Round.j6 k (wrap64 (n + 1)) f 4503599627370496 mi e X) else (r4_Round.j6 k n f t308 mi e X))))) (fun k => by simp only [r4_Round.j5]) (Ev.bind hL ?_)
  have ew : wrap64 ((blen q : Int) + n) = (blen q : Int) + n := by unfold wrap64; omega
  have ew1 : wrap64 (n + 1) = n + 1 := by unfold wrap64; omega
  unfold fin2
  simp only [ew, ew1]
  by_cases c : (blen q : Int) + n > 1024
  · have hP : 9218868437227405312 ≤ (q : Int) + (n + 1074) * 4503599627370496 := by
      rcases Nat.lt_or_ge q 4503599627370496 with g | g
      · have := h52 g; omega
      · rcases Nat.lt_or_ge q 9007199254740992 with g2 | g2
        · have := blen_53 g g2; omega
        · have : q = 9007199254740992 := by omega
          subst this; have := blen_54; omega
    rw [if_pos hP]
    refine Ev.congr (fun k => ?_) (Ev.now _)
    rw [if_pos c, over4_eq, Option.bind_some, signed4_eq hov.1 hov.2, Option.bind_some]
  · have hP : ¬ 9218868437227405312 ≤ (q : Int) + (n + 1074) * 4503599627370496 := by
      rcases Nat.lt_or_ge q 4503599627370496 with g | g
      · have := h52 g; omega
      · rcases Nat.lt_or_ge q 9007199254740992 with g2 | g2
        · have := blen_53 g g2; omega
        · have : q = 9007199254740992 := by omega
          subst this; have := blen_54; omega
    rw [if_neg hP]
    refine Ev.congr (fun k => by rw [if_neg c]) (Ev.bind hLow ?_)
    by_cases c3 : (q : Int) = 9007199254740992
    · refine Ev.congr (fun k => by rw [if_pos c3]) (Ev.step (fun k => round_j6 k (n + 1) f 4503599627370496 mi e X (by omega) ?_ (by omega) (by omega)) ?_)
      · have : q = 9007199254740992 := by omega
        subst this; have := blen_54; omega
      · refine Ev.congr (fun k => ?_) (Ev.now _)
        congr 2
        omega
    · refine Ev.congr (fun k => by rw [if_neg c3]) (Ev.step (fun k => round_j6 k n f q mi e X hn ?_ (by omega) h52) (Ev.now _))
      rcases Nat.lt_or_ge q 4503599627370496 with g | g
      · have := h52 g; omega
      · have := blen_53 g (by omega); omega
theorem tQ_rN (mi : Bool) (e : Int) (s : Nat) (m : Int) (hs : s ≠ 0) : tQ mi e s (rN e s) m = cutQ s e (rN e s) + uu mi e s m := by
  by_cases c : rN e s ≤ e
  · have : rOdd s e (rN e s) = false := by unfold rOdd cutH cutR; rw [if_pos c, if_pos c]; rfl
    rw [uu_exact _ _ _ _ this, cutQ_no_mod hs c]
    unfold tQ
    rw [if_pos c, Nat.add_zero]
  · unfold tQ uu tU cutQ
    rw [if_neg c, if_neg c]
theorem blen_top {s k : Nat} (hs : s ≠ 0) (h : k < blen s) : 2 ^ (blen s - 1 - k) ≤ s / 2 ^ k := by
  rw [Nat.le_div_iff_mul_le (Nat.two_pow_pos _), ← Nat.pow_add, show blen s - 1 - k + k = blen s - 1 by omega]
  exact blen_le hs
theorem tQ_53 (mi : Bool) (e : Int) (s : Nat) (m : Int) (hs : s ≠ 0) : 4503599627370496 ≤ tQ mi e s (e + (blen s : Int) - 53) m ∧ tQ mi e s (e + (blen s : Int) - 53) m ≤ 9007199254740992 ∧ rTo mi e s (e + (blen s : Int) - 53) m = tQ mi e s (e + (blen s : Int) - 53) m := by
  have h1 := blen_le hs
  have h2 := blen_lt s
  have h3 := blen_pos hs
  by_cases c : e + (blen s : Int) - 53 ≤ e
  · have hk : (e - (e + (blen s : Int) - 53)).toNat = 53 - blen s := by omega
    have g1 : 2 ^ 52 ≤ s * 2 ^ (53 - blen s) := by
      refine Nat.le_trans ?_ (Nat.mul_le_mul_right _ h1)
      rw [← Nat.pow_add]; exact Nat.pow_le_pow_right (by omega) (by omega)
    have g2 : s * 2 ^ (53 - blen s) < 2 ^ 53 := by
      refine Nat.lt_of_lt_of_le (Nat.mul_lt_mul_of_pos_right h2 (Nat.two_pow_pos _)) ?_
      rw [← Nat.pow_add]; exact Nat.pow_le_pow_right (by omega) (by omega)
    have e1 : tQ mi e s (e + (blen s : Int) - 53) m = s * 2 ^ (53 - blen s) := by unfold tQ; rw [if_pos c, hk]
    rw [e1]
    refine ⟨g1, Nat.le_of_lt g2, ?_⟩
    have hh : cutH s e (e + (blen s : Int) - 53) = false ∧ cutR s e (e + (blen s : Int) - 53) = false := by unfold cutH cutR; rw [if_pos c, if_pos c]; exact ⟨rfl, rfl⟩
    unfold rTo
    rw [hh.1, hh.2, upB_no]
    unfold cutQ
    rw [if_pos c, hk, if_neg (by decide), Nat.add_zero, Nat.mod_mod, T256_eq]
    exact Nat.mod_eq_of_lt (Nat.lt_trans g2 (by decide))
  · have hk : (e + (blen s : Int) - 53 - e).toNat = blen s - 53 := by omega
    have g1 : 2 ^ 52 ≤ s / 2 ^ (blen s - 53) := by
      have := blen_top hs (show blen s - 53 < blen s by omega)
      rwa [show blen s - 1 - (blen s - 53) = 52 by omega] at this
    have g2 : s / 2 ^ (blen s - 53) < 2 ^ 53 := by
      refine Nat.div_lt_of_lt_mul ?_
      rw [← Nat.pow_add, show blen s - 53 + 53 = blen s by omega]; exact h2
    have e1 : tQ mi e s (e + (blen s : Int) - 53) m = s / 2 ^ (blen s - 53) + if tU mi e s (e + (blen s : Int) - 53) m = true then 1 else 0 := by unfold tQ; rw [if_neg c, hk]
    have hu : (if tU mi e s (e + (blen s : Int) - 53) m = true then 1 else 0) ≤ 1 := by split <;> omega
    rw [e1]
    rw [show (2 : Nat) ^ 52 = 4503599627370496 from rfl] at g1
    rw [show (2 : Nat) ^ 53 = 9007199254740992 from rfl] at g2
    refine ⟨by omega, by omega, ?_⟩
    unfold rTo tU cutQ
    rw [if_neg c, hk]
    refine Nat.mod_eq_of_lt ?_
    unfold tU at hu
    rw [hk] at hu
    unfold T256
    omega
theorem tiny_iff (mi : Bool) (e : Int) (s : Nat) (m : Int) (hs : s ≠ 0) : ((blen (tQ mi e s (e + (blen s : Int) - 53) m) : Int) + (e + (blen s : Int)) - 53 ≤ -1022) ↔ rTiny mi e s (rTop e s) m = true := by
  obtain ⟨h1, h2, h3⟩ := tQ_53 mi e s m hs
  generalize hf : tQ mi e s (e + (blen s : Int) - 53) m = f at *
  have hb : blen f = 53 ∨ blen f = 54 := by
    rcases Nat.lt_or_ge f 9007199254740992 with g | g
    · left; exact blen_53 h1 g
    · right; have : f = 9007199254740992 := by omega
      subst this; exact blen_54
  unfold rTiny rTop
  rw [h3]
  by_cases c1 : -1021 ≤ e + (blen s : Int)
  · rw [if_pos c1]; simp; omega
  · rw [if_neg c1]
    by_cases c2 : e + (blen s : Int) < -1022
    · rw [if_pos c2]; simp; omega
    · rw [if_neg c2, decide_eq_true_iff]; omega
theorem fin2_round (mi : Bool) (e : Int) (s : Nat) (m : Int) (hs : s ≠ 0) : fin2 mi (rN e s) (tQ mi e s (rN e s) m) m (rFlag mi e s m) = rRound mi e s m := by
  rw [round_eq _ _ _ _ hs, tQ_rN _ _ _ _ hs]
  rfl
theorem pow_B {t : Nat} (hB2 : 130000 ≤ B) (h : t ≤ 2000000) : 2 ^ t < 65536 ^ B := by
  rw [show (65536 : Nat) = 2 ^ 16 from rfl, ← Nat.pow_mul]
  exact (Nat.pow_lt_pow_iff_right (by omega)).2 (by omega)
theorem round_j2 (hB : B ≤ 1000000) (hB2 : 130000 ≤ B) (mi : Bool) {e : Int} {s : Nat} {m : Int} (hs : s ≠ 0) (hsB : s < 65536 ^ B) (he : -900000 ≤ e) (he2 : e ≤ 900000) (ht : -1300 ≤ e + (blen s : Int)) (ht2 : e + (blen s : Int) ≤ 1100) (hm : m = 0 ∨ m = 1 ∨ m = 2 ∨ m = 3 ∨ m = 4) :
    Ev (fun k => r4_Round.j2 k m (e + (blen s : Int)) mi e (ln s)) (rRound mi e s m) := by
  have ew : wrap64 (e + (blen s : Int) - 53) = e + (blen s : Int) - 53 := by unfold wrap64; omega
  have hbl := blen_pos hs
  have hTf := to_ev hB (by omega) mi hsB (e := e) (n := e + (blen s : Int) - 53) (m := m) (by omega) (by omega) (by omega) (by omega) hm (pow_B hB2 (by omega))
  obtain ⟨f1, f2, f3⟩ := tQ_53 mi e s m hs
  have hLf := len_ev hB (x := tQ mi e s (e + (blen s : Int) - 53) m) (small_B hB2 (by omega))
  have htf := tiny_iff mi e s m hs
  have hbf : blen (tQ mi e s (e + (blen s : Int) - 53) m) ≤ 54 := blen_le_iff.2 (by rw [show (2 : Nat) ^ 54 = 18014398509481984 from rfl]; omega)
  have hfin := fin2_round mi e s m hs
  have hq1 := tQ_rN mi e s m hs
  have hqlt := cutQ53_lt (x := e) hs
  have hqge := cutQ_ge (x := e) hs
  have huu := uu_le mi e s m
  rw [show (2 : Nat) ^ 53 = 9007199254740992 from rfl] at hqlt
  rw [show (2 : Nat) ^ 52 = 4503599627370496 from rfl] at hqge
  have hng := rN_ge e s
  by_cases c : e + (blen s : Int) - 53 < -1074
  · have hN : rN e s = -1074 := by unfold rN rTop; rw [if_pos c]
    rw [hN] at hfin hq1 hqlt hqge hng
    have hT := to_ev hB (by omega) mi hsB (e := e) (n := -1074) (m := m) (by omega) (by omega) (by omega) (by omega) hm (pow_B hB2 (by omega))
    have h3 := fun f => round_j3 hB hB2 (n := -1074) (q := tQ mi e s (-1074) m) m f mi e (ln s) (by omega) (by omega) (by omega) (fun _ => rfl)
    refine Ev.step (f := fun k => (r4_To.f k mi e (ln s) (-1074) m).bind fun bt296 => (if bt296.2 = true then ((r4_To.f k mi e (ln s) (e + (blen s : Int) - 53) m).bind fun bt300 => ((r2_Len.f k bt300.1).bind fun t304 => (if (wrap64 ((wrap64 (t304 + (e + (blen s : Int)))) - 53)) ≤ (-1022) then (r4_Round.j3 k m (-1074) bt296.1 24 mi e (ln s)) else (r4_Round.j3 k m (-1074) bt296.1 16 mi e (ln s))))) else (r4_Round.j3 k m (-1074) bt296.1 0 mi e (ln s)))) (fun k => ?_) (Ev.bind hT ?_)
    · simp only [r4_Round.j2]
      rw [ew, if_pos c]
    · unfold rFlag at hfin
      rw [hN] at hfin
      cases ho : rOdd s e (-1074)
      · rw [ho, if_neg (by decide)] at hfin
        exact Ev.congr (fun k => by simp only [ho]; rw [if_neg (by decide)]) (hfin ▸ h3 0)
      · rw [ho, if_pos rfl] at hfin
        refine Ev.congr (fun k => by simp only [ho]; rw [if_pos trivial]) (Ev.bind hTf (Ev.bind hLf ?_))
        have ew2 : wrap64 ((wrap64 ((blen (tQ mi e s (e + (blen s : Int) - 53) m) : Int) + (e + (blen s : Int)))) - 53) = (blen (tQ mi e s (e + (blen s : Int) - 53) m) : Int) + (e + (blen s : Int)) - 53 := by unfold wrap64; omega
        simp only [ew2]
        by_cases ct : (blen (tQ mi e s (e + (blen s : Int) - 53) m) : Int) + (e + (blen s : Int)) - 53 ≤ -1022
        · rw [if_pos (htf.1 ct)] at hfin
          exact Ev.congr (fun k => by rw [if_pos ct]) (hfin ▸ h3 24)
        · rw [if_neg (fun h => ct (htf.2 h))] at hfin
          exact Ev.congr (fun k => by rw [if_neg ct]) (hfin ▸ h3 16)
  · have hN : rN e s = e + (blen s : Int) - 53 := by unfold rN rTop; rw [if_neg c]
    rw [hN] at hfin hq1 hqlt hqge hng
    have h3 := fun f => round_j5 hB hB2 (n := e + (blen s : Int) - 53) (q := tQ mi e s (e + (blen s : Int) - 53) m) m f mi e (ln s) (by omega) (by omega) (by omega) (fun h => by omega)
    refine Ev.step (f := fun k => (r4_To.f k mi e (ln s) (e + (blen s : Int) - 53) m).bind fun bt311 => (if bt311.2 = true then ((r4_To.f k mi e (ln s) (e + (blen s : Int) - 53) m).bind fun bt315 => ((r2_Len.f k bt315.1).bind fun t319 => (if (wrap64 ((wrap64 (t319 + (e + (blen s : Int)))) - 53)) ≤ (-1022) then (r4_Round.j5 k m (e + (blen s : Int) - 53) bt311.1 24 mi e (ln s)) else (r4_Round.j5 k m (e + (blen s : Int) - 53) bt311.1 16 mi e (ln s))))) else (r4_Round.j5 k m (e + (blen s : Int) - 53) bt311.1 0 mi e (ln s)))) (fun k => ?_) (Ev.bind hTf ?_)
    · simp only [r4_Round.j2]
      rw [ew, if_neg c]
    · unfold rFlag at hfin
      rw [hN] at hfin
      cases ho : rOdd s e (e + (blen s : Int) - 53)
      · rw [ho, if_neg (by decide)] at hfin
        exact Ev.congr (fun k => by simp only [ho]; rw [if_neg (by decide)]) (hfin ▸ h3 0)
      · rw [ho, if_pos rfl] at hfin
        refine Ev.congr (fun k => by simp only [ho]; rw [if_pos trivial]) (Ev.bind hTf (Ev.bind hLf ?_))
        have ew2 : wrap64 ((wrap64 ((blen (tQ mi e s (e + (blen s : Int) - 53) m) : Int) + (e + (blen s : Int)))) - 53) = (blen (tQ mi e s (e + (blen s : Int) - 53) m) : Int) + (e + (blen s : Int)) - 53 := by unfold wrap64; omega
        simp only [ew2]
        by_cases ct : (blen (tQ mi e s (e + (blen s : Int) - 53) m) : Int) + (e + (blen s : Int)) - 53 ≤ -1022
        · rw [if_pos (htf.1 ct)] at hfin
          exact Ev.congr (fun k => by rw [if_pos ct]) (hfin ▸ h3 24)
        · rw [if_neg (fun h => ct (htf.2 h))] at hfin
          exact Ev.congr (fun k => by rw [if_neg ct]) (hfin ▸ h3 16)
def md (m : Int) : Int := if m < 0 ∨ 4 < m then 0 else m
theorem md_in (m : Int) : md m = 0 ∨ md m = 1 ∨ md m = 2 ∨ md m = 3 ∨ md m = 4 := by unfold md; split <;> omega
theorem upB_md (m : Int) (a b c d : Bool) : upB (md m) a b c d = upB m a b c d := by
  unfold md
  split
  · unfold upB
    rw [if_neg (by omega), if_neg (by omega), if_neg (by omega), if_neg (by omega), if_neg (by omega), if_neg (by omega), if_neg (by omega), if_neg (by omega)]
  · rfl
theorem overP_md (a : Bool) (m : Int) : overP a (md m) = overP a m := by
  unfold md
  split
  · unfold overP
    rw [if_neg (by omega), if_neg (by omega)]
  · rfl
theorem rTo_md (mi : Bool) (x : Int) (s : Nat) (n m : Int) : rTo mi x s n (md m) = rTo mi x s n m := by unfold rTo; rw [upB_md]
theorem round_md (mi : Bool) (x : Int) (s : Nat) (m : Int) : rRound mi x s (md m) = rRound mi x s m := by
  unfold rRound rN2 rQ2 rQ rFlag rTiny
  simp only [rTo_md, overP_md]
theorem round_j1 (hB : B ≤ 1000000) (hB2 : 130000 ≤ B) (mi : Bool) {e : Int} {s : Nat} {m : Int} (hsB : s < 65536 ^ B) (hbl : blen s ≤ 1000000) (he : -900000 ≤ e) (he2 : e ≤ 900000) (hm : m = 0 ∨ m = 1 ∨ m = 2 ∨ m = 3 ∨ m = 4) :
    Ev (fun k => r4_Round.j1 k m mi e (ln s)) (rRound mi e s m) := by
  by_cases hs : s = 0
  · subst hs
    refine Ev.step (f := fun _ => some _) (fun k => ?_) (Ev.now _)
    simp only [r4_Round.j1]
    rw [ln_zero, if_pos (by rfl), signed4_eq (by omega) (by omega), Option.bind_some]
    unfold rRound
    rw [if_pos rfl, Int.zero_add]
  · have hL := len_ev hB hsB
    have hl : 0 < (ln s).length := ln_lt_iff.2 (by rw [Nat.pow_zero]; omega)
    have ew : wrap64 (e + (blen s : Int)) = e + (blen s : Int) := by unfold wrap64; omega
    have hov := overA_bd mi m
    refine Ev.step (f := fun k => (r2_Len.f k (ln s)).bind fun t290 => (if (wrap64 (e + t290)) > 1100 then ((r4_over.f mi m).bind fun t291 => ((r4_signed.f t291 mi).bind fun t292 => (some (t292, 20)))) else (if (wrap64 (e + t290)) < (-1200) then ((r2_Of.f k 1).bind fun t293 => (r4_Round.j2 k m (-1299) mi (-1300) t293)) else (r4_Round.j2 k m (wrap64 (e + t290)) mi e (ln s))))) (fun k => by simp only [r4_Round.j1]; rw [if_neg (by omega)]) (Ev.bind hL ?_)
    simp only [ew]
    by_cases c : e + (blen s : Int) > 1100
    · have hN : rN e s = e + (blen s : Int) - 53 := by rcases rN_cases e s with g | g <;> omega
      have hP : 9218868437227405312 ≤ PQ mi e s m := by
        have := cutQ_ge (x := e) hs (by omega)
        rw [show (2 : Nat) ^ 52 = 4503599627370496 from rfl] at this
        unfold PQ
        omega
      rw [round_eq _ _ _ _ hs, if_pos hP]
      refine Ev.congr (fun k => ?_) (Ev.now _)
      rw [if_pos c, over4_eq, Option.bind_some, signed4_eq hov.1 hov.2, Option.bind_some]
      rfl
    · by_cases c2 : e + (blen s : Int) < -1200
      · rw [round_far mi m hs c2]
        have := round_j2 hB hB2 mi (e := -1300) (s := 1) (m := m) (by omega) (one_B (by omega)) (by omega) (by omega) (by decide) (by decide) hm
        rw [show (-1300 : Int) + (blen 1 : Int) = -1299 by decide] at this
        exact Ev.congr (fun k => by rw [if_neg c, if_pos c2]) (Ev.bind of_one this)
      · exact Ev.congr (fun k => by rw [if_neg c, if_neg c2]) (round_j2 hB hB2 mi hs hsB he he2 (by omega) (by omega) hm)
theorem ref_round_ev (hB : B ≤ 1000000) (hB2 : 130000 ≤ B) (mi : Bool) {e : Int} {s : Nat} (m : Int) (hsB : s < 65536 ^ B) (hbl : blen s ≤ 1000000) (he : -900000 ≤ e) (he2 : e ≤ 900000) :
    Ev (fun k => r4_Round.f k mi e (ln s) m) (rRound mi e s m) := by
  rw [← round_md]
  have h1 := round_j1 hB hB2 mi (e := e) (s := s) (m := md m) hsB hbl he he2 (md_in m)
  by_cases c1 : m < 0
  · have e0 : md m = 0 := by unfold md; rw [if_pos (.inl c1)]
    rw [e0] at h1 ⊢
    refine Ev.congr (f := fun k => r4_Round.j0 k m true mi e (ln s)) (fun k => by unfold r4_Round.f; rw [if_pos c1]) (Ev.step (fun k => ?_) h1)
    simp only [r4_Round.j0]
    rw [if_pos trivial]
  · refine Ev.congr (f := fun k => r4_Round.j0 k m (decide (m > 4)) mi e (ln s)) (fun k => by unfold r4_Round.f; rw [if_neg c1]) ?_
    by_cases c2 : m > 4
    · have e0 : md m = 0 := by unfold md; rw [if_pos (.inr c2)]
      rw [e0] at h1 ⊢
      rw [decide_eq_true c2]
      refine Ev.step (fun k => ?_) h1
      simp only [r4_Round.j0]
      rw [if_pos trivial]
    · have e0 : md m = m := by unfold md; rw [if_neg (by omega)]
      rw [e0] at h1 ⊢
      rw [decide_eq_false c2]
      refine Ev.step (fun k => ?_) h1
      simp only [r4_Round.j0]
      rw [if_neg (by decide)]
end
end Go.Proofs.Ytedjlpfggjcmfaa
end
section
namespace Go.Proofs.Ytedjlpfggjcmfaa.X
open Go.RowKit Go.Proofs.YtedjlpfggjcmfaaW.PrintWords Go.Proofs.YtedjlpfggjcmfaaW.PrintLast Go.Proofs.YtedjlpfggjcmfaaW.PrintMore
attribute [local go_sem] max2_int min2_int max_two min_two max_three min_three max_four min_four   
set_option linter.unusedVariables false
set_option linter.unusedSimpArgs false
mutual
def r7_Div.j0 : Nat → Int → Int → Int → Bool → Bool → Bool → Int → Int → Int → Bool → Int → Int → Int → Option (Int × Int)
 | 0, _, _, _, _, _, _, _, _, _, _, _, _, _ => none
 | k + 1, x0, x1, x2, x10, x28, x335000, x335001, x335002, x335003, x336000, x336001, x336002, x336003 => if x28 = true then ((r5_None.f x0 x1).bind fun t338 => (some (9221120237041090560, t338))) else (if x335001 = 3 then (if x336001 = 3 then (r7_Div.j1 k x2 x10 true x335000 x335001 x335002 x335003 x336000 x336001 x336002 x336003) else (if x335001 = 0 then (r7_Div.j1 k x2 x10 (x336001 == 0) x335000 x335001 x335002 x335003 x336000 x336001 x336002 x336003) else (r7_Div.j1 k x2 x10 false x335000 x335001 x335002 x335003 x336000 x336001 x336002 x336003))) else (if x335001 = 0 then (r7_Div.j1 k x2 x10 (x336001 == 0) x335000 x335001 x335002 x335003 x336000 x336001 x336002 x336003) else (r7_Div.j1 k x2 x10 false x335000 x335001 x335002 x335003 x336000 x336001 x336002 x336003)))
def r7_Div.j1 : Nat → Int → Bool → Bool → Bool → Int → Int → Int → Bool → Int → Int → Int → Option (Int × Int)
 | 0, _, _, _, _, _, _, _, _, _, _, _ => none
 | k + 1, x2, x10, x49, x335000, x335001, x335002, x335003, x336000, x336001, x336002, x336003 => if x49 = true then (some (9221120237041090560, 1)) else (if x335001 = 3 then ((r7_signed.f 9218868437227405312 x10).bind fun t339 => (some (t339, 0))) else (if x336001 = 3 then (r7_Div.j2 k x2 x10 true x335000 x335001 x335002 x335003 x336000 x336001 x336002 x336003) else (r7_Div.j2 k x2 x10 (x335001 == 0) x335000 x335001 x335002 x335003 x336000 x336001 x336002 x336003)))
def r7_Div.j2 : Nat → Int → Bool → Bool → Bool → Int → Int → Int → Bool → Int → Int → Int → Option (Int × Int)
 | 0, _, _, _, _, _, _, _, _, _, _, _ => none
 | k + 1, x2, x10, x62, x335000, x335001, x335002, x335003, x336000, x336001, x336002, x336003 => if x62 = true then ((r7_signed.f 0 x10).bind fun t340 => (some (t340, 0))) else (if x336001 = 0 then ((r7_signed.f 9218868437227405312 x10).bind fun t341 => (some (t341, 2))) else ((r2_Of.f k x335003).bind fun t342 => ((r2_Shl.f k t342 120).bind fun t345 => ((r2_Of.f k x336003).bind fun t348 => ((r2_Parts.f k t345 t348).bind fun bt351 => ((r2_Shl.f k bt351.1 1).bind fun t357 => (if (bt351.2.length : Int) > 0 then ((r2_Of.f k 1).bind fun t361 => ((r2_Add.f k t357 t361).bind fun t364 => ((r4_Round.f k x10 (wrap64 ((wrap64 (x335002 - x336002)) - 121)) t364 x2).bind fun bt367 => (some (bt367.1, bt367.2))))) else ((r4_Round.f k x10 (wrap64 ((wrap64 (x335002 - x336002)) - 121)) t357 x2).bind fun bt369 => (some (bt369.1, bt369.2))))))))))
end
def r7_Div.f (k : Nat) (a0 : Int) (a1 : Int) (a2 : Int) : Option (Int × Int) := (r3_Take.f a0).bind fun bt326 => ((r3_Take.f a1).bind fun bt330 => ((r3_NaN.f a0).bind fun t336 => (if t336 = true then (r7_Div.j0 k a0 a1 a2 (bt326.1 != bt330.1) true bt326.1 bt326.2.1 bt326.2.2.1 bt326.2.2.2 bt330.1 bt330.2.1 bt330.2.2.1 bt330.2.2.2) else ((r3_NaN.f a1).bind fun t337 => (r7_Div.j0 k a0 a1 a2 (bt326.1 != bt330.1) t337 bt326.1 bt326.2.1 bt326.2.2.1 bt326.2.2.2 bt330.1 bt330.2.1 bt330.2.2.1 bt330.2.2.2)))))
theorem r7_Div.mono_l : ∀ k, (∀ y0 y1 y2 y3 y4 y5 y6 y7 y8 y9 y10 y11 y12, LeO (r7_Div.j0 k y0 y1 y2 y3 y4 y5 y6 y7 y8 y9 y10 y11 y12) (r7_Div.j0 (k + 1) y0 y1 y2 y3 y4 y5 y6 y7 y8 y9 y10 y11 y12)) ∧ (∀ y0 y1 y2 y3 y4 y5 y6 y7 y8 y9 y10, LeO (r7_Div.j1 k y0 y1 y2 y3 y4 y5 y6 y7 y8 y9 y10) (r7_Div.j1 (k + 1) y0 y1 y2 y3 y4 y5 y6 y7 y8 y9 y10)) ∧ (∀ y0 y1 y2 y3 y4 y5 y6 y7 y8 y9 y10, LeO (r7_Div.j2 k y0 y1 y2 y3 y4 y5 y6 y7 y8 y9 y10) (r7_Div.j2 (k + 1) y0 y1 y2 y3 y4 y5 y6 y7 y8 y9 y10))
 | 0 => ⟨fun _ _ _ _ _ _ _ _ _ _ _ _ _ r h => by simp [r7_Div.j0] at h, fun _ _ _ _ _ _ _ _ _ _ _ r h => by simp [r7_Div.j1] at h, fun _ _ _ _ _ _ _ _ _ _ _ r h => by simp [r7_Div.j2] at h⟩
 | k + 1 => by
  obtain ⟨ih0, ih1, ih2⟩ := r7_Div.mono_l k; refine ⟨?_, ?_, ?_⟩
  · intro y0 y1 y2 y3 y4 y5 y6 y7 y8 y9 y10 y11 y12
    unfold r7_Div.j0
    repeat' first
    | (with_reducible exact ih0 _ _ _ _ _ _ _ _ _ _ _ _ _)
    | (with_reducible exact ih1 _ _ _ _ _ _ _ _ _ _ _)
    | (with_reducible exact ih2 _ _ _ _ _ _ _ _ _ _ _)
    | (with_reducible exact r2_Add.mono _ _ _)
    | (with_reducible exact r2_Of.mono _ _)
    | (with_reducible exact r2_Parts.mono _ _ _)
    | (with_reducible exact r2_Shl.mono _ _ _)
    | (with_reducible exact r4_Round.mono _ _ _ _ _)
    | (with_reducible exact LeO.refl _)
    | (with_reducible exact LeO.none _)
    | (with_reducible refine LeO.ite ?_ ?_)
    | (with_reducible refine LeO.bind ?_ (fun _ => ?_))
    | exact ih0 _ _ _ _ _ _ _ _ _ _ _ _ _
    | exact ih1 _ _ _ _ _ _ _ _ _ _ _
    | exact ih2 _ _ _ _ _ _ _ _ _ _ _
    | exact r2_Add.mono _ _ _
    | exact r2_Of.mono _ _
    | exact r2_Parts.mono _ _ _
    | exact r2_Shl.mono _ _ _
    | exact r4_Round.mono _ _ _ _ _
    | exact LeO.none _
    | refine LeO.ite ?_ ?_
    | refine LeO.bind ?_ (fun _ => ?_)
  · intro y0 y1 y2 y3 y4 y5 y6 y7 y8 y9 y10
    unfold r7_Div.j1
    repeat' first
    | (with_reducible exact ih0 _ _ _ _ _ _ _ _ _ _ _ _ _)
    | (with_reducible exact ih1 _ _ _ _ _ _ _ _ _ _ _)
    | (with_reducible exact ih2 _ _ _ _ _ _ _ _ _ _ _)
    | (with_reducible exact r2_Add.mono _ _ _)
    | (with_reducible exact r2_Of.mono _ _)
    | (with_reducible exact r2_Parts.mono _ _ _)
    | (with_reducible exact r2_Shl.mono _ _ _)
    | (with_reducible exact r4_Round.mono _ _ _ _ _)
    | (with_reducible exact LeO.refl _)
    | (with_reducible exact LeO.none _)
    | (with_reducible refine LeO.ite ?_ ?_)
    | (with_reducible refine LeO.bind ?_ (fun _ => ?_))
    | exact ih0 _ _ _ _ _ _ _ _ _ _ _ _ _
    | exact ih1 _ _ _ _ _ _ _ _ _ _ _
    | exact ih2 _ _ _ _ _ _ _ _ _ _ _
    | exact r2_Add.mono _ _ _
    | exact r2_Of.mono _ _
    | exact r2_Parts.mono _ _ _
    | exact r2_Shl.mono _ _ _
    | exact r4_Round.mono _ _ _ _ _
    | exact LeO.none _
    | refine LeO.ite ?_ ?_
    | refine LeO.bind ?_ (fun _ => ?_)
  intro y0 y1 y2 y3 y4 y5 y6 y7 y8 y9 y10
  unfold r7_Div.j2
  repeat' first
  | (with_reducible exact ih0 _ _ _ _ _ _ _ _ _ _ _ _ _)
  | (with_reducible exact ih1 _ _ _ _ _ _ _ _ _ _ _)
  | (with_reducible exact ih2 _ _ _ _ _ _ _ _ _ _ _)
  | (with_reducible exact r2_Add.mono _ _ _)
  | (with_reducible exact r2_Of.mono _ _)
  | (with_reducible exact r2_Parts.mono _ _ _)
  | (with_reducible exact r2_Shl.mono _ _ _)
  | (with_reducible exact r4_Round.mono _ _ _ _ _)
  | (with_reducible exact LeO.refl _)
  | (with_reducible exact LeO.none _)
  | (with_reducible refine LeO.ite ?_ ?_)
  | (with_reducible refine LeO.bind ?_ (fun _ => ?_))
  | exact ih0 _ _ _ _ _ _ _ _ _ _ _ _ _
  | exact ih1 _ _ _ _ _ _ _ _ _ _ _
  | exact ih2 _ _ _ _ _ _ _ _ _ _ _
  | exact r2_Add.mono _ _ _
  | exact r2_Of.mono _ _
  | exact r2_Parts.mono _ _ _
  | exact r2_Shl.mono _ _ _
  | exact r4_Round.mono _ _ _ _ _
  | exact LeO.none _
  | refine LeO.ite ?_ ?_
  | refine LeO.bind ?_ (fun _ => ?_)
theorem r7_Div.mono : ∀ a0 a1 a2 k, LeO (r7_Div.f k a0 a1 a2) (r7_Div.f (k + 1) a0 a1 a2) := by
 intro a0 a1 a2 k; obtain ⟨ih0, ih1, ih2⟩ := r7_Div.mono_l k
 unfold r7_Div.f
 repeat' first
  | (with_reducible exact ih0 _ _ _ _ _ _ _ _ _ _ _ _ _)
  | (with_reducible exact ih1 _ _ _ _ _ _ _ _ _ _ _)
  | (with_reducible exact ih2 _ _ _ _ _ _ _ _ _ _ _)
  | (with_reducible exact r2_Add.mono _ _ _)
  | (with_reducible exact r2_Of.mono _ _)
  | (with_reducible exact r2_Parts.mono _ _ _)
  | (with_reducible exact r2_Shl.mono _ _ _)
  | (with_reducible exact r4_Round.mono _ _ _ _ _)
  | (with_reducible exact LeO.refl _)
  | (with_reducible exact LeO.none _)
  | (with_reducible refine LeO.ite ?_ ?_)
  | (with_reducible refine LeO.bind ?_ (fun _ => ?_))
  | exact ih0 _ _ _ _ _ _ _ _ _ _ _ _ _
  | exact ih1 _ _ _ _ _ _ _ _ _ _ _
  | exact ih2 _ _ _ _ _ _ _ _ _ _ _
  | exact r2_Add.mono _ _ _
  | exact r2_Of.mono _ _
  | exact r2_Parts.mono _ _ _
  | exact r2_Shl.mono _ _ _
  | exact r4_Round.mono _ _ _ _ _
  | exact LeO.none _
  | refine LeO.ite ?_ ?_
  | refine LeO.bind ?_ (fun _ => ?_)
end Go.Proofs.Ytedjlpfggjcmfaa.X
end
section
namespace Go.Proofs.Ytedjlpfggjcmfaa
set_option linter.unusedVariables false
set_option linter.unusedSimpArgs false
open Go.RowKit X Go.Proofs.YtedjlpfggjcmfaaW.PrintWords
theorem none5_eq {a b : Int} (ha : U a) (hb : U b) : r5_None.f a b = some (qNone a b).2 := by
  unfold r5_None.f qNone
  rw [r3_Take.eq a (inU_of ha), Option.bind_some, r3_Take.eq b (inU_of hb)]
  by_cases h1 : pC a = 5
  · rw [if_pos h1, if_pos (.inl h1)]
  · rw [if_neg h1, Option.bind_some]
    by_cases h2 : pC b = 5
    · rw [if_pos h2, if_pos (.inr h2)]
    · rw [if_neg h2, if_neg (fun h => h.elim h1 h2)]
end Go.Proofs.Ytedjlpfggjcmfaa
end
section
namespace Go.Proofs.Ytedjlpfggjcmfaa
set_option linter.unusedVariables false
set_option linter.unusedSimpArgs false
open Go.RowKit X Go.Proofs.YtedjlpfggjcmfaaW.PrintWords
theorem set_lt {v v' j M d o : Nat} (hj : j < M) (hd : d < 65536) (ho : o = v / 65536 ^ j % 65536) (h : v < 65536 ^ M) (e : v' + 65536 ^ j * o = v + 65536 ^ j * d) : v' < 65536 ^ M := by
  obtain ⟨r, rfl⟩ : ∃ r, M = j + 1 + r := ⟨M - j - 1, by omega⟩
  have h1 := Nat.div_add_mod v (65536 ^ j)
  have h2 := div_step v j
  rw [← ho] at h2
  have h3 : v / 65536 ^ (j + 1) < 65536 ^ r := Nat.div_lt_of_lt_mul (by rw [← Nat.pow_add]; exact h)
  have h4 := Nat.mod_lt v (p16 j)
  have h5 : 65536 ^ (j + 1 + r) = 65536 ^ j * (65536 * 65536 ^ r) := by rw [Nat.pow_add, Nat.pow_succ, Nat.mul_assoc]
  rw [h5]
  have h6 : v' = v % 65536 ^ j + 65536 ^ j * (d + 65536 * (v / 65536 ^ (j + 1))) := by
    have : v = v % 65536 ^ j + 65536 ^ j * o + 65536 ^ j * (65536 * (v / 65536 ^ (j + 1))) := by
      rw [Nat.add_assoc, ← Nat.mul_add, ← h2]; omega
    rw [Nat.mul_add]
    omega
  have h7 : 65536 ^ j * (d + 65536 * (v / 65536 ^ (j + 1)) + 1) ≤ 65536 ^ j * (65536 * 65536 ^ r) := Nat.mul_le_mul_left _ (by omega)
  rw [Nat.mul_add, Nat.mul_one] at h7
  omega
section
variable {x y B : Nat}
theorem mul_part (a b c o : Nat) (ha : a < 65536) (hb : b < 65536) (hc : c < 65536) (ho : o < 65536) :
    IntKind.u64.wrap ((IntKind.u64.wrap ((c : Int) + (IntKind.u64.wrap (o : Int)))) + (IntKind.u64.wrap ((IntKind.u64.wrap (a : Int)) * (IntKind.u64.wrap (b : Int))))) = ((c + o + a * b : Nat) : Int) ∧ c + o + a * b < 4294967296 := by
  have h : a * b ≤ 65535 * 65535 := Nat.mul_le_mul (by omega) (by omega)
  have h2 : c + o + a * b < 4294967296 := by omega
  refine ⟨?_, h2⟩
  rw [wr64 o (by omega), wr64 a (by omega), wr64 b (by omega), wr64a _ _ (by omega), wr64m _ _ (by omega), wr64a _ _ (by omega)]
theorem mul_tm (t : Nat) (h : t < 4294967296) : Int.tmod (t : Int) 65536 % 4294967296 = ((t % 65536 : Nat) : Int) ∧ IntKind.u64.wrap (Int.tdiv (t : Int) 65536) = ((t / 65536 : Nat) : Int) := by
  rw [Int.tmod_eq_emod_of_nonneg (by omega), Int.tdiv_eq_ediv_of_nonneg (by omega), IntKind.wrap_u64]
  omega
theorem mod_up (x i : Nat) : x % 65536 ^ (i + 1) = x % 65536 ^ i + 65536 ^ i * (x / 65536 ^ i % 65536) := by rw [Nat.pow_succ, Nat.mod_mul]
theorem mul_l1 (hB : B ≤ 1000000) (hx : x < 65536 ^ B) (hy : y < 65536 ^ B) (i : Nat) (hi : i < (ln x).length)
    (next : ∀ out, nok out → out.length = (ln x).length + (ln y).length → nv out = (x % 65536 ^ (i + 1)) * y → Ev (fun n => r2_Mul.l0 n (ln x) (ln y) out ((i + 1 : Nat) : Int)) (ln (x * y))) :
    ∀ (d k c : Nat) (out : List Int), k + d = (ln y).length → nok out → out.length = (ln x).length + (ln y).length → c < 65536 → nv out < 65536 ^ (i + (ln y).length) →
      nv out + 65536 ^ (i + k) * c = (x % 65536 ^ i) * y + 65536 ^ i * (x / 65536 ^ i % 65536 * (y % 65536 ^ k)) → Ev (fun n => r2_Mul.l1 n (ln x) (ln y) out (i : Int) (c : Int) (k : Int)) (ln (x * y)) := by
  have lx := ln_length hx
  have ly := ln_length hy
  have hyl : y < 65536 ^ (ln y).length := by have := nv_lt (nok_ln y); rwa [nv_ln] at this
  intro d
  induction d with
  | zero =>
    intro k c out hk hok hlen hc hlt hv
    rw [Nat.add_zero] at hk
    subst hk
    have hs := nv_set (l := out) (i + (ln y).length) (by omega) (c : Int)
    rw [getD_nv hok, Nat.div_eq_of_lt hlt] at hs
    have hs2 : nv (out.set (i + (ln y).length) (c : Int)) = nv out + 65536 ^ (i + (ln y).length) * c := by
      rw [Int.toNat_natCast] at hs
      simpa using hs
    have ew : wrap64 ((i : Int) + ((ln y).length : Int)) = ((i + (ln y).length : Nat) : Int) := by unfold wrap64; omega
    refine Ev.step (f := fun n => r2_Mul.l0 n (ln x) (ln y) (out.set (i + (ln y).length) (c : Int)) ((i + 1 : Nat) : Int)) (fun n => ?_) (next _ (nok_set hok _ (Int.natCast_nonneg _) (Int.ofNat_lt.2 hc)) (by rw [List.length_set]; exact hlen) ?_)
    · clear hv hlt hs hs2 next hyl
      simp only [r2_Mul.l1]
      rw [if_neg (by omega), ew, if_pos (by omega), if_pos (by omega), Int.toNat_natCast, w1 (by omega), show ((c : Int) % 4294967296) = (c : Int) by omega]
    · rw [hs2, hv, Nat.mod_eq_of_lt hyl, mod_up, Nat.add_mul, Nat.mul_assoc]
  | succ d ih =>
    intro k c out hk hok hlen hc hlt hv
    have hkl : k < (ln y).length := by omega
    have hp : i + k < out.length := by omega
    have q1 : (k : Int) < ((ln y).length : Int) := by omega
    have q2 : (0 : Int) ≤ ((i + k : Nat) : Int) := Int.natCast_nonneg _
    have q3 : ((i + k : Nat) : Int) < (out.length : Int) := by omega
    have q4 : (0 : Int) ≤ (i : Int) := Int.natCast_nonneg _
    have q5 : (i : Int) < ((ln x).length : Int) := by omega
    have q6 : (0 : Int) ≤ (k : Int) := Int.natCast_nonneg _
    have q7 : k < 4000000000000000000 := by omega
    have ew : wrap64 ((i : Int) + (k : Int)) = ((i + k : Nat) : Int) := by unfold wrap64; omega
    have ro := rd_nv hok (i + k)
    generalize hoo : nv out / 65536 ^ (i + k) % 65536 = o at *
    have ho : o < 65536 := by omega
    have rx := rd_ln x i
    have ry := rd_ln y k
    obtain ⟨e1, hT⟩ := mul_part (x / 65536 ^ i % 65536) (y / 65536 ^ k % 65536) c o (by omega) (by omega) hc ho
    obtain ⟨e2, e3⟩ := mul_tm _ hT
    have hy2 := mod_up y k
    generalize hxi : x / 65536 ^ i % 65536 = xi at *
    generalize hyk : y / 65536 ^ k % 65536 = yk at *
    generalize ht : c + o + xi * yk = t at *
    have hcn : t / 65536 < 65536 := Nat.div_lt_of_lt_mul hT
    have hs := nv_set (l := out) (i + k) hp ((t % 65536 : Nat) : Int)
    rw [getD_nv hok, hoo, Int.toNat_natCast, Int.toNat_natCast] at hs
    refine Ev.step (f := fun n => r2_Mul.l1 n (ln x) (ln y) (out.set (i + k) ((t % 65536 : Nat) : Int)) (i : Int) ((t / 65536 : Nat) : Int) ((k + 1 : Nat) : Int)) (fun n => ?_) (ih (k + 1) (t / 65536) _ (by clear hv hlt hs ro rx ry e1 e2 e3; omega) (nok_set hok _ (Int.natCast_nonneg _) (Int.ofNat_lt.2 (Nat.mod_lt t (by decide)))) (by rw [List.length_set]; exact hlen) hcn (set_lt (Nat.add_lt_add_left hkl i) (Nat.mod_lt t (by decide)) hoo.symm hlt hs) ?_)
    · clear hv hlt hs hy2 ih next hyl hoo hxi hyk ht hT
      simp only [r2_Mul.l1]
      rw [if_pos q1, ew, if_pos q2, if_pos q3, if_pos q4, if_pos q5, if_pos q6, ro, rx, ry, e1, e2, e3, Int.toNat_natCast, w1 q7]
    · have h1 : 65536 ^ (i + (k + 1)) * (t / 65536) + 65536 ^ (i + k) * (t % 65536) = 65536 ^ (i + k) * t := by
        rw [← Nat.add_assoc, Nat.pow_succ, Nat.mul_assoc, ← Nat.mul_add, Nat.div_add_mod]
      have h2 : 65536 ^ (i + k) * t = 65536 ^ (i + k) * c + 65536 ^ (i + k) * o + 65536 ^ (i + k) * (xi * yk) := by rw [← ht, Nat.mul_add, Nat.mul_add]
      have h3 : 65536 ^ i * (xi * (y % 65536 ^ (k + 1))) = 65536 ^ i * (xi * (y % 65536 ^ k)) + 65536 ^ (i + k) * (xi * yk) := by
        rw [hy2, Nat.mul_add, Nat.mul_add, Nat.pow_add, Nat.mul_left_comm xi, Nat.mul_assoc]
      rw [h3]
      clear h3 hy2 ht hT hcn ih next hyl hlt
      generalize 65536 ^ (i + (k + 1)) * (t / 65536) = P at *
      generalize 65536 ^ (i + k) * (t % 65536) = Q at *
      generalize 65536 ^ (i + k) * t = R at *
      generalize 65536 ^ (i + k) * c = V at *
      generalize 65536 ^ (i + k) * o = W at *
      generalize 65536 ^ (i + k) * (xi * yk) = Z at *
      generalize 65536 ^ i * (xi * (y % 65536 ^ k)) = Y at *
      generalize x % 65536 ^ i * y = X at *
      omega
theorem mul_l0 (hB : B ≤ 1000000) (hx : x < 65536 ^ B) (hy : y < 65536 ^ B) : ∀ (d i : Nat) (out : List Int), i + d = (ln x).length → nok out → out.length = (ln x).length + (ln y).length → nv out = (x % 65536 ^ i) * y →
    Ev (fun n => r2_Mul.l0 n (ln x) (ln y) out (i : Int)) (ln (x * y)) := by
  have lx := ln_length hx
  have ly := ln_length hy
  have hxl : x < 65536 ^ (ln x).length := by have := nv_lt (nok_ln x); rwa [nv_ln] at this
  have hyl : y < 65536 ^ (ln y).length := by have := nv_lt (nok_ln y); rwa [nv_ln] at this
  intro d
  induction d with
  | zero =>
    intro i out hi hok hlen hv
    rw [Nat.add_zero] at hi
    subst hi
    rw [Nat.mod_eq_of_lt hxl] at hv
    refine Ev.step (f := fun n => (r2_trim.f n out).bind fun t => some t) (fun n => ?_) (trim_to hok (by omega) hv)
    simp only [r2_Mul.l0]
    rw [if_neg (by omega)]
  | succ d ih =>
    intro i out hi hok hlen hv
    have hlt : nv out < 65536 ^ (i + (ln y).length) := by
      rw [hv, Nat.pow_add]
      exact Nat.mul_lt_mul'' (Nat.mod_lt _ (p16 i)) hyl
    refine Ev.step (f := fun n => r2_Mul.l1 n (ln x) (ln y) out (i : Int) ((0 : Nat) : Int) ((0 : Nat) : Int)) (fun n => ?_) (mul_l1 hB hx hy i (by omega) (fun out' h1 h2 h3 => ih (i + 1) out' (by omega) h1 h2 h3) (ln y).length 0 0 out (by omega) hok hlen (by omega) hlt ?_)
    · simp only [r2_Mul.l0]
      rw [if_pos (by omega)]
      rfl
    · rw [Nat.mul_zero, Nat.add_zero, hv, Nat.pow_zero, Nat.mod_one, Nat.mul_zero, Nat.mul_zero, Nat.add_zero]
theorem mul_ev (hB : B ≤ 1000000) (hx : x < 65536 ^ B) (hy : y < 65536 ^ B) : Ev (fun k => r2_Mul.f k (ln x) (ln y)) (ln (x * y)) := by
  have lx := ln_length hx
  have ly := ln_length hy
  have ew : wrap64 (((ln x).length : Int) + ((ln y).length : Int)) = (((ln x).length + (ln y).length : Nat) : Int) := by unfold wrap64; omega
  refine Ev.congr (fun k => ?_) (mul_l0 hB hx hy (ln x).length 0 (List.replicate ((ln x).length + (ln y).length) 0) (by omega) (nok_zeros _) (by simp) (by rw [nv_zeros, Nat.pow_zero, Nat.mod_one, Nat.zero_mul]))
  unfold r2_Mul.f
  rw [ew, if_pos (by omega), Int.toNat_natCast, if_pos (by omega)]
  rfl
end
end Go.Proofs.Ytedjlpfggjcmfaa
end
section
namespace Go.Proofs.Ytedjlpfggjcmfaa
set_option linter.unusedVariables false
set_option linter.unusedSimpArgs false
open Go.RowKit X Go.Proofs.YtedjlpfggjcmfaaW.PrintWords
theorem cmp_le {x y : Nat} : cmpI x y ≤ 0 ↔ x ≤ y := by unfold cmpI; split <;> (try split) <;> omega
theorem cmp_zero {x y : Nat} : cmpI x y = 0 ↔ x = y := by unfold cmpI; split <;> (try split) <;> omega
theorem sqrt_l0 {B Q : Nat} (hB : B ≤ 1000000) (hB2 : 130000 ≤ B) (hQ : Q < 2 ^ 200) (m b : Int) (M : Bool) (C X' Sg : Int) (out : Int × Int)
    (next : ∀ s, s ≤ 2 ^ 120 → s * s ≤ Q → Q < (s + 1) * (s + 1) → Ev (fun k => r7_Sqrt.l0 k m b (ln Q) (ln s) (-1) M C X' Sg) out) :
    ∀ (i s : Nat), i ≤ 120 → s * s ≤ Q → Q < (s + 2 ^ i) * (s + 2 ^ i) → s + 2 ^ i ≤ 2 ^ 120 → Ev (fun k => r7_Sqrt.l0 k m b (ln Q) (ln s) ((i : Int) - 1) M C X' Sg) out := by
  have pB : ∀ t, t ≤ 2000000 → 2 ^ t < 65536 ^ B := fun t h => pow_B hB2 h
  intro i
  induction i with
  | zero =>
    intro s _ h1 h2 h3
    exact next s (by omega) h1 h2
  | succ i ih =>
    intro s hi h1 h2 h3
    have hp := Nat.two_pow_pos i
    have e2 : 2 ^ (i + 1) = 2 ^ i + 2 ^ i := by rw [Nat.pow_succ]; omega
    rw [e2] at h2 h3
    have hiB : 2 ^ i < 65536 ^ B := pB i (by omega)
    have h120 := pB 120 (by omega)
    have ht : s + 2 ^ i ≤ 2 ^ 120 := by omega
    have h1B := one_B (B := B) (by omega)
    have o := of_one
    have sh := shl_ev hB h1B i (by omega)
    rw [Nat.one_mul] at sh
    have ad := add_ev hB (x := s) (y := 2 ^ i) (by omega) hiB
    have mu := mul_ev hB (x := s + 2 ^ i) (y := s + 2 ^ i) (by omega) (by omega)
    have htt : (s + 2 ^ i) * (s + 2 ^ i) < 65536 ^ B := by
      have k1 : (s + 2 ^ i) * (s + 2 ^ i) ≤ 2 ^ 120 * 2 ^ 120 := Nat.mul_le_mul ht ht
      rw [← Nat.pow_add] at k1
      have := pB (120 + 120) (by omega)
      omega
    have hQB : Q < 65536 ^ B := Nat.lt_trans hQ (pB 200 (by omega))
    have cm := cmp_ev hB htt hQB
    have ew : wrap64 ((i : Int) - 1) = (i : Int) - 1 := by unfold wrap64; omega
    have ei : ((i + 1 : Nat) : Int) - 1 = (i : Int) := by omega
    rw [ei]
    refine Ev.step (f := fun k => (r2_Of.f k 1).bind fun t433 => ((r2_Shl.f k t433 (i : Int)).bind fun t436 => ((r2_Add.f k (ln s) t436).bind fun t439 => ((r2_Mul.f k t439 t439).bind fun t442 => ((r2_Cmp.f k t442 (ln Q)).bind fun t445 => (if t445 ≤ 0 then (r7_Sqrt.l0 k m b (ln Q) t439 ((i : Int) - 1) M C X' Sg) else (r7_Sqrt.l0 k m b (ln Q) (ln s) ((i : Int) - 1) M C X' Sg))))))) (fun k => ?_) (Ev.bind o (Ev.bind sh (Ev.bind ad (Ev.bind mu (Ev.bind cm ?_)))))
    · simp only [r7_Sqrt.l0]
      rw [if_pos (show (i : Int) ≥ 0 by omega), ew]
    · by_cases hle : (s + 2 ^ i) * (s + 2 ^ i) ≤ Q
      · exact Ev.congr (fun k => by rw [if_pos (cmp_le.2 hle)]) (ih (s + 2 ^ i) (by omega) hle (by rw [Nat.add_assoc]; exact h2) (by omega))
      · exact Ev.congr (fun k => by rw [if_neg (mt cmp_le.1 hle)]) (ih s (by omega) h1 (by omega) (by omega))
theorem sqrt_end {B : Nat} (hB : B ≤ 1000000) (hB2 : 130000 ≤ B) {a m b : Int} (h0 : pC a ≠ 0) (h3 : pC a ≠ 3) (hb : b = 140 + pX a % 2) (M : Bool) (C Sg : Int) (s : Nat) (hs : s ≤ 2 ^ 120) (g1 : s * s ≤ sN a * 16384) (g2 : sN a * 16384 < (s + 1) * (s + 1)) :
    Ev (fun k => r7_Sqrt.l0 k m b (ln (sN a * 16384)) (ln s) (-1) M C (pX a) Sg) (sMain a m) := by
  have pB : ∀ t, t ≤ 2000000 → 2 ^ t < 65536 ^ B := fun t h => pow_B hB2 h
  have hx := pX_bd a
  have hsB : s < 65536 ^ B := Nat.lt_of_le_of_lt hs (pB 120 (by omega))
  have sh := shl_ev hB hsB 1 (by omega)
  have e2 : s * 2 ^ 1 = 2 * s := by rw [Nat.pow_one, Nat.mul_comm]
  rw [e2] at sh
  have mu := mul_ev hB hsB hsB
  have hQ : sN a * 16384 < 2 ^ 214 := by
    have := Nat.mul_lt_mul_of_pos_right (sN_lt a) (Nat.two_pow_pos 14)
    rwa [← Nat.pow_add] at this
  have hQB := Nat.lt_trans hQ (pB 214 (by omega))
  have cm := cmp_ev hB (Nat.lt_of_le_of_lt g1 hQB) hQB
  have key := sqrt_ref_eq (m := m) (pS_pos a h0 h3) g1 g2
  have ew : wrap64 (wrap64 (Int.tdiv (wrap64 (pX a - b)) 2) - 1) = (pX a - sB a) / 2 - 8 := by
    have e1 : wrap64 (pX a - b) = pX a - b := by unfold wrap64; omega
    have eb : b = sB a + 14 := by unfold sB; omega
    have ez : (pX a - sB a) % 2 = 0 := by unfold sB; omega
    have eq : pX a - b = 2 * ((pX a - sB a) / 2 - 7) := by omega
    have hbd := sB_bd a
    rw [e1, eq, Int.mul_tdiv_cancel_left _ (by decide)]
    unfold wrap64
    omega
  have hbd := sB_bd a
  have h2s : 2 * s + 1 < 2 ^ 122 := by
    have : 2 ^ 122 = 4 * 2 ^ 120 := by decide
    have := Nat.two_pow_pos 120
    omega
  have h122 := pB 122 (by omega)
  refine Ev.step (f := fun k => (r2_Shl.f k (ln s) 1).bind fun t446 => ((r2_Mul.f k (ln s) (ln s)).bind fun t450 => ((r2_Cmp.f k t450 (ln (sN a * 16384))).bind fun t453 => (if t453 = 0 then ((r4_Round.f k false ((pX a - sB a) / 2 - 8) t446 m).bind fun bt454 => (some (bt454.1, bt454.2))) else ((r2_Of.f k 1).bind fun t456 => ((r2_Add.f k t446 t456).bind fun t459 => ((r4_Round.f k false ((pX a - sB a) / 2 - 8) t459 m).bind fun bt462 => (some (bt462.1, bt462.2))))))))) (fun k => ?_) (Ev.bind sh (Ev.bind mu (Ev.bind cm ?_)))
  · simp only [r7_Sqrt.l0]
    rw [if_neg (by decide), ew]
  · by_cases z : s * s = sN a * 16384
    · rw [if_neg (by simpa using z), Nat.add_zero] at key
      have r1 := ref_round_ev hB hB2 false (e := (pX a - sB a) / 2 - 8) (s := 2 * s) m (by omega) (by have := blen_le_iff.2 (show 2 * s < 2 ^ 122 by omega); omega) (by omega) (by omega)
      rw [key] at r1
      exact Ev.congr (fun k => by rw [if_pos (cmp_zero.2 z)]) (Ev.bind r1 (Ev.now _))
    · rw [if_pos z] at key
      have a1 := add_ev hB (x := 2 * s) (y := 1) (by omega) (one_B (by omega))
      have r1 := ref_round_ev hB hB2 false (e := (pX a - sB a) / 2 - 8) (s := 2 * s + 1) m (by omega) (by have := blen_le_iff.2 h2s; omega) (by omega) (by omega)
      rw [key] at r1
      exact Ev.congr (fun k => by rw [if_neg (mt cmp_zero.1 z)]) (Ev.bind of_one (Ev.bind a1 (Ev.bind r1 (Ev.now _))))
theorem len_half (L : Nat) (h : L ≤ 194) : wrap64 (wrap64 (Int.tdiv (L : Int) 2) + 1) = ((L / 2 + 2 : Nat) : Int) - 1 ∧ L / 2 + 2 ≤ 120 ∧ L ≤ L / 2 + 2 + (L / 2 + 2) := by
  rw [Int.tdiv_eq_ediv_of_nonneg (by omega)]
  unfold wrap64
  omega
theorem sN_lt2 (a : Int) : sN a * 16384 < 2 ^ 194 := by
  have hpa := pS_bd a
  have hbd := sB_bd a
  unfold sN
  have h1 : (pS a).toNat < 2 ^ 53 := by rw [show (2 : Nat) ^ 53 = 9007199254740992 from rfl]; omega
  have h2 : 2 ^ (sB a).toNat ≤ 2 ^ 127 := Nat.pow_le_pow_right (by decide) (by omega)
  have h4 : (pS a).toNat * 2 ^ (sB a).toNat ≤ (pS a).toNat * 2 ^ 127 := Nat.mul_le_mul_left _ h2
  have h5 := Nat.mul_lt_mul_of_pos_right h1 (Nat.two_pow_pos 127)
  rw [← Nat.pow_add] at h5
  have h6 : 2 ^ 194 = 2 ^ (53 + 127) * 16384 := by decide
  rw [h6]
  exact Nat.mul_lt_mul_of_pos_right (Nat.lt_of_le_of_lt h4 h5) (by decide)
theorem sqrt_j0 {B : Nat} (hB : B ≤ 1000000) (hB2 : 130000 ≤ B) {a m b : Int} (h0 : pC a ≠ 0) (h3 : pC a ≠ 3) (hb : b = 140 + pX a % 2) (M : Bool) (C : Int) : Ev (fun k => r7_Sqrt.j0 k m b M C (pX a) (pS a)) (sMain a m) := by
  have pB : ∀ t, t ≤ 2000000 → 2 ^ t < 65536 ^ B := fun t h => pow_B hB2 h
  have hpa := pS_bd a
  have hbd := sB_bd a
  have eb : b = sB a + 14 := by unfold sB; omega
  obtain ⟨n, hn⟩ : ∃ n : Nat, b = (n : Int) := ⟨b.toNat, by omega⟩
  have o1 := of_ev (U_pS a)
  have s1 := shl_ev hB (x := (pS a).toNat) (small_B hB2 (by omega)) n (by omega)
  have eQ : (pS a).toNat * 2 ^ n = sN a * 16384 := by
    unfold sN
    rw [show n = (sB a).toNat + 14 by omega, Nat.pow_add, show (2 : Nat) ^ 14 = 16384 from rfl, Nat.mul_assoc]
  rw [eQ, ← hn] at s1
  have hQ := sN_lt2 a
  have hQB := Nat.lt_trans hQ (pB 194 (by decide))
  have l1 := len_ev hB hQB
  have hbl : blen (sN a * 16384) ≤ 194 := blen_le_iff.2 hQ
  generalize hL : blen (sN a * 16384) = L at *
  obtain ⟨ew, k1, k2⟩ := len_half L hbl
  refine Ev.step (f := fun k => (r2_Of.f k (pS a)).bind fun t426 => ((r2_Shl.f k t426 b).bind fun t429 => ((r2_Len.f k t429).bind fun t432 => (r7_Sqrt.l0 k m b t429 ([] : List Int) (wrap64 ((wrap64 (Int.tdiv t432 2)) + 1)) M C (pX a) (pS a))))) (fun k => ?_) (Ev.bind o1 (Ev.bind s1 (Ev.bind l1 ?_)))
  · simp only [r7_Sqrt.j0]
  · rw [ew, ← ln_zero]
    refine sqrt_l0 hB hB2 (Nat.lt_trans hQ (Nat.pow_lt_pow_right (by decide) (by decide))) m b M C (pX a) (pS a) (sMain a m) (fun s h1 h2 h4 => sqrt_end hB hB2 h0 h3 hb M C (pS a) s h1 h2 h4) (L / 2 + 2) 0 k1 (Nat.zero_le _) ?_ ?_
    · rw [Nat.zero_add, ← Nat.pow_add]
      have h1 := blen_lt (sN a * 16384)
      rw [hL] at h1
      exact Nat.lt_of_lt_of_le h1 (Nat.pow_le_pow_right (by decide) k2)
    · rw [Nat.zero_add]
      exact Nat.pow_le_pow_right (by decide) k1
theorem tm2 (x : Int) : Int.tmod x 2 = 0 ↔ x % 2 = 0 := ⟨fun h => Int.emod_eq_zero_of_dvd (Int.dvd_of_tmod_eq_zero h), fun h => Int.tmod_eq_zero_of_dvd (Int.dvd_of_emod_eq_zero h)⟩
theorem ref_sqrt_ev {a : Int} (m : Int) (ha : U a) : Ev (fun k => r7_Sqrt.f k a m) (qSqrt a m) := by
  have hx := pX_bd a
  unfold qSqrt
  by_cases n1 : 3 < pC a
  · rw [if_pos n1]
    refine Ev.congr (f := fun _ => some _) (fun k => ?_) (Ev.now _)
    unfold r7_Sqrt.f
    rw [r3_Take.eq a (inU_of ha), Option.bind_some, r3_NaN.eq a (inU_of ha), Option.bind_some, decide_eq_true n1, if_pos rfl, none5_eq ha ha]
    rfl
  · rw [if_neg n1]
    have st : ∀ k, r7_Sqrt.f k a m = (if pC a = 0 then (some (a, 0)) else (if pM a = true then (some (9221120237041090560, 1)) else (if pC a = 3 then (some (a, 0)) else (if (Int.tmod (wrap64 (pX a - 140)) 2) = 0 then (r7_Sqrt.j0 k m 140 (pM a) (pC a) (pX a) (pS a)) else (r7_Sqrt.j0 k m (140 + 1) (pM a) (pC a) (pX a) (pS a)))))) := fun k => by
      unfold r7_Sqrt.f
      rw [r3_Take.eq a (inU_of ha), Option.bind_some, r3_NaN.eq a (inU_of ha), Option.bind_some, decide_eq_false n1, if_neg (by decide)]
    refine Ev.congr st ?_
    by_cases c0 : pC a = 0
    · rw [if_pos c0]; exact Ev.congr (fun k => by rw [if_pos c0]) (Ev.now _)
    · rw [if_neg c0]
      by_cases cm : pM a = true
      · rw [if_pos cm]; exact Ev.congr (fun k => by rw [if_neg c0, if_pos cm]) (Ev.now _)
      · rw [if_neg cm]
        by_cases c3 : pC a = 3
        · rw [if_pos c3]; exact Ev.congr (fun k => by rw [if_neg c0, if_neg cm, if_pos c3]) (Ev.now _)
        · rw [if_neg c3]
          have ew : wrap64 (pX a - 140) = pX a - 140 := by unfold wrap64; omega
          by_cases od : pX a % 2 = 0
          · refine Ev.congr (fun k => ?_) (sqrt_j0 (B := 130000) (by decide) (by decide) (b := 140) c0 c3 (by omega) (pM a) (pC a))
            rw [if_neg c0, if_neg cm, if_neg c3, ew, if_pos ((tm2 _).2 (by omega))]
          · refine Ev.congr (fun k => ?_) (sqrt_j0 (B := 130000) (by decide) (by decide) (b := 140 + 1) c0 c3 (by omega) (pM a) (pC a))
            rw [if_neg c0, if_neg cm, if_neg c3, ew, if_neg (mt (tm2 _).1 (by omega))]
end Go.Proofs.Ytedjlpfggjcmfaa
end
section
namespace Go.Proofs.Ytedjlpfggjcmfaa
set_option linter.unusedVariables false
set_option linter.unusedSimpArgs false
open Go.RowKit X Go.Proofs.YtedjlpfggjcmfaaW.PrintWords
theorem FlR (a m : Int) : 0 ≤ (qSqrt a m).2 ∧ (qSqrt a m).2 ≤ 255 := by
  unfold qSqrt
  split
  · unfold qNone; dsimp only; split <;> omega
  · split
    · simp
    · split
      · simp
      · split
        · simp
        · unfold sMain
          exact round_fl _ _ _ _
theorem QuotRoots : tillerlaw07_QuotRoots.Pure := by
  intro a m w0 w1
  have ha := U_wf w0
  obtain ⟨K, h⟩ := ref_sqrt_ev m ha
  replace h : ∀ k, K ≤ k → r7_Sqrt.f k a m = some (qSqrt a m) := h
  refine ⟨K + 2, ?_⟩
  unfold tillerlaw07_QuotRoots.f
  have hf := FlR a m
  rw [sqrt_spec a m ha, Option.bind_some, h (K + 2) (by omega), Option.bind_some, if_pos rfl, if_pos (by unfold wrap64; omega), sure7 K]
  rfl
end Go.Proofs.Ytedjlpfggjcmfaa
end
section
namespace Go.Proofs.Ytedjlpfggjcmfaa.Pure
set_option linter.unusedVariables false
set_option linter.unusedSimpArgs false
theorem QuotRoots : Go.Proofs.Ytedjlpfggjcmfaa.X.tillerlaw07_QuotRoots.Pure := Go.Proofs.Ytedjlpfggjcmfaa.QuotRoots
end Go.Proofs.Ytedjlpfggjcmfaa.Pure
end
