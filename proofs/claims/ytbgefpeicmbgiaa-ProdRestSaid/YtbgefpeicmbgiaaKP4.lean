import Derived.OrdersHeld
import Derived.Deep.RegionHeld3
import Derived.Laws.BitsLemmas
import Derived.RowKit
import Derived.Laws.StructEq
import Derived.Laws.Slices
import Derived.Test.YtbgefpeicmbgiaaProg
import Derived.Below
import Derived.Deep.Draws
import Derived.Deep.AppendLies
import Derived.Maps.AppendAt
import Derived.OwnWalk
import Derived.Laws.BytesArg
import Derived.Laws.MakeOwn
import Derived.Laws.OwnMore
import Derived.Deep.OwnRows
import Derived.Tactics
import Derived.Lib.ConvBytes
import Derived.WalkKit
import Derived.KernelRfl
import Derived.RowKit3
import Derived.Deep.LoopGhost
import Derived.Deep.QuietTactic
import Derived.BigQuiet
import Derived.WideLaws
import Derived.Deep.DeepCutAuto
import Derived.Deep.CutBlock
import Derived.Laws.Rows
import Derived.Lib.AppendStr
import Derived.ArgAppend
import Derived.Laws.IdiomCopy
import Derived.Test.YtbgefpeicmbgiaaKPBaseC
import Derived.Test.YtbgefpeicmbgiaaKPWWords
section
namespace Go.Proofs.YtbgefpeicmbgiaaW.PrintLast
section
variable {P : Program} {ops : Array Oper} {Q : Exit → Act → World → Prop} {md : Region.Mode} {S : World → Prop} {ds : List Nat}
def Region.reachB (md : Region.Mode) (ops : Array Oper) (i : Nat) : Nat → Nat → Bool
  | 0, _ => false
  | fuel + 1, d => match ops[d]? with
    | some o => o.after.any fun e => Region.binds md e && (e.on == i || Region.reachB md ops i fuel e.on)
    | none => false
def Region.closedB (md : Region.Mode) (ops : Array Oper) (listed : Array Bool) : Bool :=
  (List.range ops.size).all fun j => !listed.getD j false || match ops[j]? with
    | some o => o.after.all fun e => !Region.binds md e || listed.getD e.on false
    | none => true
def Region.lastB (md : Region.Mode) (ops : Array Oper) (listed : Array Bool) (ds : List Nat) (i : Nat) : Bool :=
  ds.all fun d => listed.getD d true || Region.reachB md ops i ops.size d
def ListedClosed (md : Region.Mode) (ops : Array Oper) (listed : Array Bool) : Prop :=
  ∀ j oj, ops[j]? = some oj → listed.getD j false = true → ∀ e ∈ oj.after, Region.binds md e = true → listed.getD e.on false = true
theorem Region.closedB_spec {listed : Array Bool} (h : Region.closedB md ops listed = true) : ListedClosed md ops listed := by
  intro j oj hj hl e he hb; have hlt : j < ops.size := (Array.getElem?_eq_some_iff.1 hj).1; have h1 := List.all_eq_true.1 h j (List.mem_range.2 hlt)
  simp only [hl, hj, Bool.not_true, Bool.false_or] at h1
  have h2 := Array.all_eq_true_iff_forall_mem.1 h1 e he
  simpa [hb] using h2
theorem ListedClosed.set {listed : Array Bool} {i : Nat} (h : ListedClosed md ops listed) (hi : i ∈ Region.ready md ops listed) : ListedClosed md ops (listed.setIfInBounds i true) := by
  obtain ⟨_, oi, hoi, hall⟩ := mem_ready.1 hi; intro j oj hj hl e he hb
  by_cases hij : i = j
  · subst hij
    have : oj = oi := Option.some.inj (hj.symm.trans hoi)
    subst this; exact getD_set_true (hall e he hb)
  · rw [getD_set_ne false hij] at hl
    exact getD_set_true (h j oj hj hl e he hb)
theorem Region.reach_listed {listed : Array Bool} {i : Nat} (hc : ListedClosed md ops listed) : ∀ (fuel d : Nat), Region.reachB md ops i fuel d = true → listed.getD d false = true → listed.getD i false = true
  | 0, _, h, _ => by simp [Region.reachB] at h
  | fuel + 1, d, h, hl => by
    unfold Region.reachB at h
    cases ho : ops[d]? with
    | none => rw [ho] at h; simp at h
    | some o =>
      rw [ho] at h
      obtain ⟨e, he, h1⟩ := Array.any_eq_true'.1 h
      simp only [Bool.and_eq_true, Bool.or_eq_true, beq_iff_eq] at h1
      have hle := hc d o ho hl e he h1.1
      rcases h1.2 with h2 | h2
      · rw [← h2]; exact hle
      · exact Region.reach_listed hc fuel e.on h2 hle
theorem Region.reach_not_ready {listed : Array Bool} {i d fuel : Nat} (hc : ListedClosed md ops listed) (hr : Region.reachB md ops i fuel d = true) (hun : listed.getD i true = false) : d ∉ Region.ready md ops listed := by
  intro hd; obtain ⟨_, o, ho, hall⟩ := mem_ready.1 hd
  have hi : listed.getD i false = true := by
    cases fuel with
    | zero => simp [Region.reachB] at hr
    | succ n =>
      unfold Region.reachB at hr
      rw [ho] at hr
      obtain ⟨e, he, h1⟩ := Array.any_eq_true'.1 hr
      simp only [Bool.and_eq_true, Bool.or_eq_true, beq_iff_eq] at h1
      have hle := hall e he h1.1
      rcases h1.2 with h2 | h2
      · rw [← h2]; exact hle
      · exact Region.reach_listed hc n e.on h2 hle
  rcases Nat.lt_or_ge i listed.size with h' | h'
  · simp [h'] at hun hi
    rw [hun] at hi
    cases hi
  · simp [Array.getElem?_eq_none h'] at hun
def wpAnyLast (P : Program) (md : Region.Mode) (ops : Array Oper) (Q : Exit → Act → World → Prop) (S : World → Prop) (ds : List Nat) : Nat → Array Bool → Act → World → Prop
  | 0, listed, a, w => Region.ready md ops listed = [] ∧ Q .normal a w
  | fuel + 1, listed, a, w =>
    (Region.ready md ops listed = [] → Q .normal a w) ∧
    ∀ i ∈ Region.ready md ops listed, wpOp P ops Q i (fun a' w' => (i ∉ ds → S w → S w') ∧ wpAnyLast P md ops Q S ds fuel (listed.setIfInBounds i true) a' w') a w
theorem wpAny_of_last : ∀ (fuel : Nat) (listed : Array Bool) (a : Act) (w : World), wpAnyLast P md ops Q S ds fuel listed a w → wpAny P md ops Q fuel listed a w
  | 0, _, _, _, h => h
  | fuel + 1, _, _, _, h => ⟨h.1, fun i hi => wpOp_mono (fun a' w' h' => wpAny_of_last fuel _ a' w' h'.2) (h.2 i hi)⟩
theorem wpAnyLast_first {i : Nat} {oi : Oper} {v : Value} (hi : ops[i]? = some oi) (hsel : ∀ (j : Nat) (o : Oper) cs b, ops[j]? = some o → o.op ≠ .select cs b)
    (hQ : ∀ c a w, Q (.panic c) (a.put oi.dst v) w → Q (.panic c) a w) (n : Nat) :
    ∀ (fuel : Nat) (listed : Array Bool) (a : Act) (w : World),
      (∀ j oj, ops[j]? = some oj → j ≠ i → listed.getD j true = false → (∀ e ∈ oj.after, Region.binds md e = true → e.on ≠ i) → oi.apart ops oj = true) →
      ListedClosed md ops listed → (∀ d ∈ ds, listed.getD d true = false → Region.reachB md ops i n d = true) →
      i ∈ Region.ready md ops listed → YieldsIf P ops S oi v a → S w →
      wpAnyLast P md ops Q S ds fuel (listed.setIfInBounds i true) (a.put oi.dst v) w → wpAnyLast P md ops Q S ds (fuel + 1) listed a w := by
  intro fuel
  induction fuel with
  | zero =>
    intro listed a w _ _ _ hr hy hS H; refine ⟨fun h => (by rw [h] at hr; cases hr), fun j hj => ?_⟩
    by_cases hji : j = i
    · subst hji; exact hy.wpOp hi hS ⟨fun _ h => h, H⟩
    · have := ready_mono hj hji
      rw [H.1] at this
      cases this
  | succ fuel ih =>
    intro listed a w hfree hc hd hr hy hS H; refine ⟨fun h => (by rw [h] at hr; cases hr), fun j hj => ?_⟩
    by_cases hji : j = i
    · subst hji; exact hy.wpOp hi hS ⟨fun _ h => h, H⟩
    · have h1 := H.2 j (ready_mono hj hji)
      obtain ⟨hjun, oj, hoj, hall⟩ := mem_ready.1 hj; have hiun := (mem_ready.1 hr).1
      have hnot : ∀ e ∈ oj.after, Region.binds md e = true → e.on ≠ i := fun e he hb heq => by
        have h1 := hall e he hb
        rw [heq] at h1
        rcases Nat.lt_or_ge i listed.size with h' | h'
        · simp [h'] at hiun h1; rw [hiun] at h1; cases h1
        · simp [Array.getElem?_eq_none h'] at h1
      have hjd : j ∉ ds := fun hm => Region.reach_not_ready hc (hd j hm hjun) hiun hj
      have h2 := wpOp_putIf hoj (hfree j oj hoj hji hjun hnot) (fun cs b => hsel i oi cs b hi) (fun cs b => hsel j oj cs b hoj) hQ hy h1; have hfree' : ∀ k ok, ops[k]? = some ok → k ≠ i → (listed.setIfInBounds j true).getD k true = false →
          (∀ e ∈ ok.after, Region.binds md e = true → e.on ≠ i) → oi.apart ops ok = true := fun k ok hk hki hun hno => by
        refine hfree k ok hk hki ?_ hno
        by_cases hjk : j = k
        · subst hjk; exact hjun
        · rw [getD_set_ne true hjk] at hun; exact hun
      have hd' : ∀ d ∈ ds, (listed.setIfInBounds j true).getD d true = false → Region.reachB md ops i n d = true := fun d hm hun => by
        refine hd d hm ?_
        by_cases hjk : j = d
        · subst hjk; exact hjun
        · rw [getD_set_ne true hjk] at hun; exact hun
      refine wpOp_mono (fun a' w' h3 => ⟨h3.2.1, ih (listed.setIfInBounds j true) a' w' hfree' (hc.set hj) hd' (ready_mono hr (Ne.symm hji)) h3.1 (h3.2.1 hjd hS) ?_⟩) h2; rw [Array.setIfInBounds_comm _ _ hji]; exact h3.2.2
theorem wpAnyLast_any {i : Nat} {oi : Oper} {v : Value} (hi : ops[i]? = some oi) (hsel : ∀ (j : Nat) (o : Oper) cs b, ops[j]? = some o → o.op ≠ .select cs b)
    (hQ : ∀ c a w, Q (.panic c) (a.put oi.dst v) w → Q (.panic c) a w) :
    ∀ (fuel : Nat) (listed : Array Bool) (a : Act) (w : World),
      (∀ j oj, ops[j]? = some oj → j ≠ i → listed.getD j true = false → (∀ e ∈ oj.after, Region.binds md e = true → e.on ≠ i) → oi.apart ops oj = true) →
      i ∈ Region.ready md ops listed → Yields P ops oi v a →
      wpAnyLast P md ops Q S ds fuel (listed.setIfInBounds i true) (a.put oi.dst v) w → wpAnyLast P md ops Q S ds (fuel + 1) listed a w := by
  intro fuel
  induction fuel with
  | zero =>
    intro listed a w _ hr hy H; refine ⟨fun h => (by rw [h] at hr; cases hr), fun j hj => ?_⟩
    by_cases hji : j = i
    · subst hji; exact (hy.yieldsIf (S := fun _ => True)).wpOp hi trivial ⟨fun _ h => h, H⟩
    · have := ready_mono hj hji
      rw [H.1] at this
      cases this
  | succ fuel ih =>
    intro listed a w hfree hr hy H; refine ⟨fun h => (by rw [h] at hr; cases hr), fun j hj => ?_⟩
    by_cases hji : j = i
    · subst hji; exact (hy.yieldsIf (S := fun _ => True)).wpOp hi trivial ⟨fun _ h => h, H⟩
    · have h1 := H.2 j (ready_mono hj hji)
      obtain ⟨hjun, oj, hoj, hall⟩ := mem_ready.1 hj; have hiun := (mem_ready.1 hr).1
      have hnot : ∀ e ∈ oj.after, Region.binds md e = true → e.on ≠ i := fun e he hb heq => by
        have h1 := hall e he hb
        rw [heq] at h1
        rcases Nat.lt_or_ge i listed.size with h' | h'
        · simp [h'] at hiun h1; rw [hiun] at h1; cases h1
        · simp [Array.getElem?_eq_none h'] at h1
      have h2 := wpOp_put hoj (hfree j oj hoj hji hjun hnot) (fun cs b => hsel i oi cs b hi) (fun cs b => hsel j oj cs b hoj) hQ hy h1; have hfree' : ∀ k ok, ops[k]? = some ok → k ≠ i → (listed.setIfInBounds j true).getD k true = false →
          (∀ e ∈ ok.after, Region.binds md e = true → e.on ≠ i) → oi.apart ops ok = true := fun k ok hk hki hun hno => by
        refine hfree k ok hk hki ?_ hno
        by_cases hjk : j = k
        · subst hjk; exact hjun
        · rw [getD_set_ne true hjk] at hun; exact hun
      refine wpOp_mono (fun a' w' h3 => ⟨h3.2.1, ih (listed.setIfInBounds j true) a' w' hfree' (ready_mono hr (Ne.symm hji)) h3.1 ?_⟩) h2; rw [Array.setIfInBounds_comm _ _ hji]; exact h3.2.2
theorem wpAnyLast_take {i : Nat} {oi : Oper} {v : Value} {fuel : Nat} {listed : Array Bool} {a : Act} {w : World} (hi : ops[i]? = some oi)
    (hs : Region.noSelect ops = true) (hf : Region.free md ops listed i = true) (hr : (Region.ready md ops listed).contains i = true)
    (hc : Region.closedB md ops listed = true) (hl : Region.lastB md ops listed ds i = true)
    (hQ : ∀ c a w, Q (.panic c) (a.put oi.dst v) w → Q (.panic c) a w) (hy : YieldsIf P ops S oi v a) (hS : S w)
    (h : wpAnyLast P md ops Q S ds fuel (listed.setIfInBounds i true) (a.put oi.dst v) w) : wpAnyLast P md ops Q S ds (fuel + 1) listed a w :=
  wpAnyLast_first hi (Region.noSelect_spec hs) hQ ops.size fuel listed a w (Region.free_spec hi hf) (Region.closedB_spec hc)
    (fun d hm hun => by have := List.all_eq_true.1 hl d hm; rw [hun] at this; simpa using this) (by simpa using hr) hy hS h
theorem wpAnyLast_all {rs : List Nat} {fuel : Nat} {listed : Array Bool} {a : Act} {w : World} (hr : Region.ready md ops listed = rs) (hne : rs ≠ [])
    (h : ∀ i ∈ rs, wpOp P ops Q i (fun a' w' => (i ∉ ds → S w → S w') ∧ wpAnyLast P md ops Q S ds fuel (listed.setIfInBounds i true) a' w') a w) : wpAnyLast P md ops Q S ds (fuel + 1) listed a w :=
  ⟨fun h0 => absurd (hr ▸ h0) hne, hr ▸ h⟩
theorem wpAnyLast_done {listed : Array Bool} {a : Act} {w : World} (hr : Region.ready md ops listed = []) (h : Q .normal a w) :
    ∀ fuel, wpAnyLast P md ops Q S ds fuel listed a w
  | 0 => ⟨hr, h⟩
  | _ + 1 => ⟨fun _ => h, by rw [hr]; simp⟩
theorem wp_region_last {id : Nat} {a : Act} {w : World} (hm : P.follows .mixedOrders = true)
    (h : wpAnyLast P .any ops Q S ds ops.size (Array.replicate ops.size false) a { w with drawn := w.drawn + 1 }) : (Code.region id ops true).wp P Q a w :=
  wp_region_any hm (wpAny_of_last _ _ _ _ h)
end
section
variable {P : Program} {ops : Array Oper} {Q : Exit → Act → World → Prop} {md : Region.Mode} {S : World → Prop} {ds : List Nat}
def AllReadyL (P : Program) (md : Region.Mode) (ops : Array Oper) (Q : Exit → Act → World → Prop) (S : World → Prop) (ds : List Nat) (fuel : Nat) (listed : Array Bool) (a : Act) (w : World) (rs : List Nat) : Prop :=
  ∀ i ∈ rs, wpOp P ops Q i (fun a' w' => (i ∉ ds → S w → S w') ∧ wpAnyLast P md ops Q S ds fuel (listed.setIfInBounds i true) a' w') a w
theorem AllReadyL.nil {fuel : Nat} {listed : Array Bool} {a : Act} {w : World} : AllReadyL P md ops Q S ds fuel listed a w [] := fun _ h => by cases h
theorem AllReadyL.cons {fuel : Nat} {listed : Array Bool} {a : Act} {w : World} {i : Nat} {o : Oper} {rs : List Nat} (ho : ops[i]? = some o) (hd : i ∉ ds)
    (h : ∀ K' : Act → World → Prop, Shut (∀ a w, S w → (S w → wpAnyLast P md ops Q S ds fuel (listed.setIfInBounds i true) a w) → K' a w) → if Region.wanted o (yielded ops a.tmps) = true then Oper.wp P o a w K' Q else K' (a.put o.dst undef) w)
    (hs : AllReadyL P md ops Q S ds fuel listed a w rs) : AllReadyL P md ops Q S ds fuel listed a w (i :: rs) := fun j hj => by
  rcases List.mem_cons.1 hj with rfl | hj
  · exact wpOp_step ho (fun K' hK => h K' (fun a w hS hW => hK a w ⟨fun _ _ => hS, hW hS⟩))
  · exact hs j hj
theorem AllReadyL.cons_last {fuel : Nat} {listed : Array Bool} {a : Act} {w : World} {i : Nat} {o : Oper} {rs : List Nat} (ho : ops[i]? = some o) (hd : i ∈ ds)
    (h : ∀ K' : Act → World → Prop, Shut (∀ a w, wpAnyLast P md ops Q S ds fuel (listed.setIfInBounds i true) a w → K' a w) → if Region.wanted o (yielded ops a.tmps) = true then Oper.wp P o a w K' Q else K' (a.put o.dst undef) w)
    (hs : AllReadyL P md ops Q S ds fuel listed a w rs) : AllReadyL P md ops Q S ds fuel listed a w (i :: rs) := fun j hj => by
  rcases List.mem_cons.1 hj with rfl | hj
  · exact wpOp_step ho (fun K' hK => h K' (fun a w hW => hK a w ⟨fun hn => absurd hd hn, hW⟩))
  · exact hs j hj
theorem wpAnyLast_ready {rs : List Nat} {fuel : Nat} {listed : Array Bool} {a : Act} {w : World} (hr : Region.ready md ops listed = rs) (hne : rs ≠ [])
    (h : AllReadyL P md ops Q S ds fuel listed a w rs) : wpAnyLast P md ops Q S ds (fuel + 1) listed a w := wpAnyLast_all hr hne h
theorem start_ {id n : Nat} {a : Act} {w : World} (l : Array Bool) (hm : P.follows .mixedOrders = true) (hn : ops.size = n) (hl : Array.replicate n false = l) (hS : S w.drew)
    (h : S w.drew → wpAnyLast P .any ops Q S ds n l a w.drew) : (Code.region id ops true).wp P Q a w := by
  subst hn; subst hl; exact wp_region_last hm (h hS)
def takeB (md : Region.Mode) (ops : Array Oper) (ds : List Nat) (l l' : Array Bool) (i : Nat) : Bool :=
  Region.noSelect ops && Region.free md ops l i && (Region.ready md ops l).contains i && Region.closedB md ops l && Region.lastB md ops l ds i && (l.setIfInBounds i true == l')
theorem take_ {i : Nat} {N : Option Tmp} {oi : Oper} {v : Value} {fuel : Nat} {l : Array Bool} {a : Act} {w : World} (l' : Array Bool) (hi : ops[i]? = some oi) (hN : oi.dst = N) (hc : takeB md ops ds l l' i = true)
    (hQ : ∀ c a w, Q (.panic c) (a.put oi.dst v) w → Q (.panic c) a w) (hy : YieldsIf P ops S oi v a) (hS : S w) {a' : Act} (ha : a.put N v = a')
    (h : wpAnyLast P md ops Q S ds fuel l' a' w) : wpAnyLast P md ops Q S ds (fuel + 1) l a w := by
  subst ha; subst hN
  simp only [takeB, Bool.and_eq_true, beq_iff_eq] at hc
  obtain ⟨⟨⟨⟨⟨h1, h2⟩, h3⟩, h4⟩, h5⟩, h6⟩ := hc; subst h6; exact wpAnyLast_take hi h1 h2 h3 h4 h5 hQ hy hS h
def anyB (md : Region.Mode) (ops : Array Oper) (l l' : Array Bool) (i : Nat) : Bool :=
  Region.noSelect ops && Region.free md ops l i && (Region.ready md ops l).contains i && (l.setIfInBounds i true == l')
theorem pure_ {i : Nat} {N : Option Tmp} {oi : Oper} {v : Value} {fuel : Nat} {l : Array Bool} {a : Act} {w : World} (l' : Array Bool) (hi : ops[i]? = some oi) (hN : oi.dst = N) (hc : anyB md ops l l' i = true)
    (hQ : ∀ c a w, Q (.panic c) (a.put oi.dst v) w → Q (.panic c) a w) (hy : Yields P ops oi v a) {a' : Act} (ha : a.put N v = a')
    (h : wpAnyLast P md ops Q S ds fuel l' a' w) : wpAnyLast P md ops Q S ds (fuel + 1) l a w := by
  subst ha; subst hN
  simp only [anyB, Bool.and_eq_true, beq_iff_eq] at hc
  obtain ⟨⟨⟨h1, h2⟩, h3⟩, h6⟩ := hc; subst h6; exact wpAnyLast_any hi (Region.noSelect_spec h1) hQ fuel l a w (Region.free_spec hi h2) (by simpa using h3) hy h
def readyB (md : Region.Mode) (ops : Array Oper) (l l' : Array Bool) (i : Nat) : Bool := (Region.ready md ops l == [i]) && (l.setIfInBounds i true == l')
theorem one_ {i : Nat} {N : Option Tmp} {oi : Oper} {fuel : Nat} {l : Array Bool} {a : Act} {w : World} (l' : Array Bool) (hi : ops[i]? = some oi) (hN : oi.dst = N) (hc : readyB md ops l l' i = true) (hd : i ∉ ds)
    (h : ∀ K : Act → World → Prop, Shut (∀ a' w', S w' → (S w' → wpAnyLast P md ops Q S ds fuel l' a' w') → K a' w') → if Region.wanted oi (yielded ops a.tmps) = true then Oper.wp P oi a w K Q else K (a.put N undef) w) :
    wpAnyLast P md ops Q S ds (fuel + 1) l a w := by
  subst hN
  simp only [readyB, Bool.and_eq_true, beq_iff_eq] at hc
  obtain ⟨h1, h2⟩ := hc; subst h2; exact wpAnyLast_ready h1 (by simp) (AllReadyL.cons hi hd (fun K hK => h K hK) AllReadyL.nil)
theorem last_ {i : Nat} {N : Option Tmp} {oi : Oper} {fuel : Nat} {l : Array Bool} {a : Act} {w : World} (l' : Array Bool) (hi : ops[i]? = some oi) (hN : oi.dst = N) (hc : readyB md ops l l' i = true) (hd : i ∈ ds)
    (h : ∀ K : Act → World → Prop, Shut (∀ a' w', wpAnyLast P md ops Q S ds fuel l' a' w' → K a' w') → if Region.wanted oi (yielded ops a.tmps) = true then Oper.wp P oi a w K Q else K (a.put N undef) w) :
    wpAnyLast P md ops Q S ds (fuel + 1) l a w := by
  subst hN
  simp only [readyB, Bool.and_eq_true, beq_iff_eq] at hc
  obtain ⟨h1, h2⟩ := hc; subst h2; exact wpAnyLast_ready h1 (by simp) (AllReadyL.cons_last hi hd (fun K hK => h K hK) AllReadyL.nil)
theorem done_ {l : Array Bool} {a : Act} {w : World} {n : Nat} (hr : (Region.ready md ops l == []) = true) (h : Q .normal a w) : wpAnyLast P md ops Q S ds n l a w := wpAnyLast_done (by simpa using hr) h n
theorem two_ {i j : Nat} {Ni Nj : Option Tmp} {oi oj : Oper} {fuel : Nat} {l : Array Bool} {a : Act} {w : World} (li lj : Array Bool) (hi : ops[i]? = some oi) (hj : ops[j]? = some oj) (hNi : oi.dst = Ni) (hNj : oj.dst = Nj)
    (hc : (Region.ready md ops l == [i, j] && l.setIfInBounds i true == li && l.setIfInBounds j true == lj) = true) (hdi : i ∉ ds) (hdj : j ∉ ds)
    (h1 : ∀ K : Act → World → Prop, Shut (∀ a' w', S w' → (S w' → wpAnyLast P md ops Q S ds fuel li a' w') → K a' w') → if Region.wanted oi (yielded ops a.tmps) = true then Oper.wp P oi a w K Q else K (a.put Ni undef) w)
    (h2 : ∀ K : Act → World → Prop, Shut (∀ a' w', S w' → (S w' → wpAnyLast P md ops Q S ds fuel lj a' w') → K a' w') → if Region.wanted oj (yielded ops a.tmps) = true then Oper.wp P oj a w K Q else K (a.put Nj undef) w) :
    wpAnyLast P md ops Q S ds (fuel + 1) l a w := by
  subst hNi; subst hNj
  simp only [Bool.and_eq_true, beq_iff_eq] at hc
  obtain ⟨⟨h3, h4⟩, h5⟩ := hc; subst h4; subst h5; exact wpAnyLast_ready h3 (by simp) (AllReadyL.cons hi hdi (fun K hK => h1 K hK) (AllReadyL.cons hj hdj (fun K hK => h2 K hK) AllReadyL.nil))
theorem three_ {i j k : Nat} {Ni Nj Nk : Option Tmp} {oi oj ok : Oper} {fuel : Nat} {l : Array Bool} {a : Act} {w : World} (li lj lk : Array Bool) (hi : ops[i]? = some oi) (hj : ops[j]? = some oj) (hk : ops[k]? = some ok) (hNi : oi.dst = Ni) (hNj : oj.dst = Nj) (hNk : ok.dst = Nk)
    (hc : (Region.ready md ops l == [i, j, k] && l.setIfInBounds i true == li && l.setIfInBounds j true == lj && l.setIfInBounds k true == lk) = true) (hdi : i ∉ ds) (hdj : j ∉ ds) (hdk : k ∉ ds)
    (h1 : ∀ K : Act → World → Prop, Shut (∀ a' w', S w' → (S w' → wpAnyLast P md ops Q S ds fuel li a' w') → K a' w') → if Region.wanted oi (yielded ops a.tmps) = true then Oper.wp P oi a w K Q else K (a.put Ni undef) w)
    (h2 : ∀ K : Act → World → Prop, Shut (∀ a' w', S w' → (S w' → wpAnyLast P md ops Q S ds fuel lj a' w') → K a' w') → if Region.wanted oj (yielded ops a.tmps) = true then Oper.wp P oj a w K Q else K (a.put Nj undef) w)
    (h3 : ∀ K : Act → World → Prop, Shut (∀ a' w', S w' → (S w' → wpAnyLast P md ops Q S ds fuel lk a' w') → K a' w') → if Region.wanted ok (yielded ops a.tmps) = true then Oper.wp P ok a w K Q else K (a.put Nk undef) w) :
    wpAnyLast P md ops Q S ds (fuel + 1) l a w := by
  subst hNi; subst hNj; subst hNk
  simp only [Bool.and_eq_true, beq_iff_eq] at hc
  obtain ⟨⟨⟨h4, h5⟩, h6⟩, h7⟩ := hc; subst h5; subst h6; subst h7; exact wpAnyLast_ready h4 (by simp) (AllReadyL.cons hi hdi (fun K hK => h1 K hK) (AllReadyL.cons hj hdj (fun K hK => h2 K hK) (AllReadyL.cons hk hdk (fun K hK => h3 K hK) AllReadyL.nil)))
def putAll : Act → List (Tmp × Value) → Act
  | a, [] => a
  | a, (n, v) :: r => putAll (a.put (some n) v) r
theorem join_ {σ : Type} {fuel : Nat} {l : Array Bool} {a : Act} {w : World} (fuel' : Nat) (l' : Array Bool) (ns : σ → List (Tmp × Value)) (F : σ → World → Prop)
    (hcont : ∀ s w', F s w' → wpAnyLast P md ops Q S ds fuel' l' (putAll a (ns s)) w')
    (h : (∀ s w', F s w' → wpAnyLast P md ops Q S ds fuel' l' (putAll a (ns s)) w') → wpAnyLast P md ops Q S ds fuel l a w) : wpAnyLast P md ops Q S ds fuel l a w := h hcont
theorem norm_ {fuel : Nat} {l : Array Bool} {a a' : Act} {w : World} (ha : a = a') (h : wpAnyLast P md ops Q S ds fuel l a' w) : wpAnyLast P md ops Q S ds fuel l a w := by
  subst ha; exact h
theorem call_ {oi : Oper} {N : Option Tmp} {a : Act} {w : World} {K : Act → World → Prop} (f : FuncId) (args : Array Value) (hw : Region.wanted oi (yielded ops a.tmps) = true) (hN : oi.dst = N) (hrun : (execOp a.eval oi).run P w = .ok (.enter f args) w)
    (h : Calls P f args w fun e w' => ∃ v, e = .returned v ∧ K (a.put N v) w') : if Region.wanted oi (yielded ops a.tmps) = true then Oper.wp P oi a w K Q else K (a.put N undef) w := by
  rw [if_pos hw]; subst hN
  unfold Oper.wp
  rw [hrun, Oper.upon_enter]
  refine h.mono fun e w'' hh => ?_
  obtain ⟨v, rfl, hk⟩ := hh; exact hk
theorem enters_ {f : FuncId} {fn : Func} (hf : P.funcs[f]? = some fn) (hname : (fn.name == "runtime.NumGoroutine") = false) (hb : fn.body.isSome = true) (args : Array Value) (w : World) : (callFunc f args).run P w = .ok (.enter f args) w := by
  have h1 : fn.name ≠ "runtime.NumGoroutine" := by simpa using hname
  obtain ⟨c, hc⟩ := Option.isSome_iff_exists.1 hb
  simp [callFunc, hf, h1, hc]
theorem goes_ {oi : Oper} {N : Option Tmp} {a : Act} {w : World} {K : Act → World → Prop} {f : FuncId} {fn : Func} {as_ : Array Operand} {ts : Array TypeId} (hf : P.funcs[f]? = some fn) (hname : (fn.name == "runtime.NumGoroutine") = false) (hb : fn.body.isSome = true) (args : Array Value)
    (hw : Region.wanted oi (yielded ops a.tmps) = true) (hN : oi.dst = N) (hop : oi.op = .call { callee := .value (.func f), args := as_, argTypes := ts }) (hargs : as_.map a.eval = args)
    (h : Calls P f args w fun e w' => ∃ v, e = .returned v ∧ K (a.put N v) w') : if Region.wanted oi (yielded ops a.tmps) = true then Oper.wp P oi a w K Q else K (a.put N undef) w := by
  refine call_ f args hw hN ?_ h; have he := enters_ hf hname hb args w
  unfold execOp
  simp [hop, resolve, Deferred.ofValue, invoke, Act.eval, hargs, he]
theorem goesL_ {rest : List Oper} {oi : Oper} {a : Act} {w : World} (N : Option Tmp) (hd : oi.dst = N) (hg : oi.guard = none) {f : FuncId} {fn : Func} {as_ : Array Operand} {ts : Array TypeId} (hf : P.funcs[f]? = some fn) (hname : (fn.name == "runtime.NumGoroutine") = false) (hb : fn.body.isSome = true) (args : Array Value)
    (hop : oi.op = .call { callee := .value (.func f), args := as_, argTypes := ts }) (hargs : as_.map a.eval = args)
    (h : Calls P f args w fun e w' => ∃ v, e = .returned v ∧ wpList P ops Q rest (a.put N v) w') : wpList P ops Q (oi :: rest) a w := by
  refine wpList_plain hg fun K hK => ?_
  have he := enters_ hf hname hb args w
  have hrun : (execOp a.eval oi).run P w = .ok (.enter f args) w := by
    unfold execOp
    simp [hop, resolve, Deferred.ofValue, invoke, Act.eval, hargs, he]
  unfold Oper.wp
  rw [hrun, Oper.upon_enter]
  refine h.mono fun e w'' hh => ?_
  obtain ⟨v, rfl, hk⟩ := hh; subst hd; exact hK _ _ hk
theorem skip_ {oi : Oper} {a : Act} {w w1 : World} {K : Act → World → Prop} (hw : Region.wanted oi (yielded ops a.tmps) = true) (hN : oi.dst = none) (hrun : (execOp a.eval oi).run P w = .ok .skip w1)
    (h : K a w1) : if Region.wanted oi (yielded ops a.tmps) = true then Oper.wp P oi a w K Q else K (a.put none undef) w := by
  rw [if_pos hw]
  unfold Oper.wp
  rw [hrun]
  show K (a.put oi.dst undef) w1
  rw [hN]; exact h
theorem i64_w (n : Int) : IntKind.i64.wrap n = Go.RowKit.wrap64 n := by unfold Go.RowKit.wrap64; exact IntKind.wrap_i64 n
theorem i32_w (n : Int) : IntKind.i32.wrap n = Go.RowKit.wrap32 n := by unfold Go.RowKit.wrap32; exact IntKind.wrap_i32 n
end
end Go.Proofs.YtbgefpeicmbgiaaW.PrintLast
end
section
namespace Go.Proofs.YtbgefpeicmbgiaaW.PrintLast
open Go.Proofs.YtbgefpeicmbgiaaW.PrintWords (Aside0)
def needsOf (md : Region.Mode) (o : Oper) : List Nat := (o.after.toList.filter (fun e => Region.binds md e)).map (fun e => e.on)
def clashOf (md : Region.Mode) (ops : Array Oper) (i : Nat) (oi : Oper) : List Nat := (List.range ops.size).filter fun j => !(j == i) && match ops[j]? with
  | some oj => !(oj.after.any (fun e => Region.binds md e && e.on == i) || oi.apart ops oj)
  | none => false
def rtab (md : Region.Mode) (ops : Array Oper) : Bool × List (List Nat × List Nat) := (Region.noSelect ops, (List.range ops.size).map fun i => match ops[i]? with
  | some o => (needsOf md o, clashOf md ops i o)
  | none => ([], []))
def readyAt (T : List (List Nat × List Nat)) (l : List Bool) (i : Nat) : Bool := !l.getD i true && match T[i]? with
  | some r => r.1.all (fun j => l.getD j false)
  | none => false
def readyT (T : List (List Nat × List Nat)) (l : List Bool) : List Nat := (List.range T.length).filter (readyAt T l)
def freeT (T : List (List Nat × List Nat)) (l : List Bool) (i : Nat) : Bool := match T[i]? with
  | some r => r.2.all (fun j => l.getD j true)
  | none => false
def closedT (T : List (List Nat × List Nat)) (l : List Bool) : Bool := (List.range T.length).all fun j => !l.getD j false || match T[j]? with
  | some r => r.1.all (fun k => l.getD k false)
  | none => true
def reachT (T : List (List Nat × List Nat)) (i : Nat) : Nat → Nat → Bool
  | 0, _ => false
  | fuel + 1, d => match T[d]? with
    | some r => r.1.any fun j => j == i || reachT T i fuel j
    | none => false
def lastT (T : List (List Nat × List Nat)) (l : List Bool) (ds : List Nat) (i : Nat) : Bool := ds.all fun d => l.getD d true || reachT T i T.length d
section
variable {md : Region.Mode} {ops : Array Oper} {T : Bool × List (List Nat × List Nat)} {l l' li lj lk : Array Bool} {ds : List Nat} {i j k : Nat}
theorem gd (l : Array Bool) (j : Nat) (b : Bool) : l.getD j b = l.toList.getD j b := by simp [Array.getD_eq_getD_getElem?, List.getD_eq_getElem?_getD]
theorem needs_all (o : Oper) (p : Nat → Bool) : o.after.all (fun e => !Region.binds md e || p e.on) = (needsOf md o).all p := by
  unfold needsOf
  rw [← Array.all_toList]
  induction o.after.toList with
  | nil => rfl
  | cons e r ih =>
    rw [List.all_cons, ih, List.filter_cons]
    cases h : Region.binds md e <;> simp
theorem needs_any (o : Oper) (p : Nat → Bool) : o.after.any (fun e => Region.binds md e && p e.on) = (needsOf md o).any p := by
  unfold needsOf
  rw [← Array.any_toList]
  induction o.after.toList with
  | nil => rfl
  | cons e r ih =>
    rw [List.any_cons, ih, List.filter_cons]
    cases h : Region.binds md e <;> simp
theorem rtab_length : (rtab md ops).2.length = ops.size := by simp [rtab]
theorem rtab_some {o : Oper} (h : ops[i]? = some o) : (rtab md ops).2[i]? = some (needsOf md o, clashOf md ops i o) := by
  have hi := (Array.getElem?_eq_some_iff.1 h).1
  unfold rtab
  rw [List.getElem?_map, List.getElem?_range hi, Option.map_some, h]
theorem rtab_none (h : ops[i]? = none) : (rtab md ops).2[i]? = none := by
  have hi : ops.size ≤ i := Array.getElem?_eq_none_iff.1 h
  exact List.getElem?_eq_none (by rw [rtab_length]; exact hi)
theorem readyAt_eq : readyAt (rtab md ops).2 l.toList i = (!l.getD i true && ((ops[i]?).map (·.after.all fun e => !Region.binds md e || l.getD e.on false)).getD false) := by
  unfold readyAt
  rw [gd]
  cases h : ops[i]? with
  | none => rw [rtab_none h]; rfl
  | some o =>
    rw [rtab_some h]
    simp only [Option.map_some, Option.getD_some]
    rw [← needs_all]
    simp only [gd]
theorem ready_eq : Region.ready md ops l = readyT (rtab md ops).2 l.toList := by
  unfold Region.ready readyT
  rw [rtab_length]
  refine List.filter_congr (fun i _ => ?_)
  rw [readyAt_eq]
theorem free_eq : Region.free md ops l i = freeT (rtab md ops).2 l.toList i := by
  unfold Region.free freeT
  cases h : ops[i]? with
  | none => rw [rtab_none h]
  | some oi =>
    rw [rtab_some h]
    simp only [clashOf]
    rw [List.all_filter]
    congr 1
    funext j
    rw [gd]
    cases hj : ops[j]? with
    | none => cases (j == i) <;> cases (l.toList.getD j true) <;> simp
    | some oj =>
      cases (j == i) <;> cases (l.toList.getD j true) <;> cases (oj.after.any (fun e => Region.binds md e && e.on == i) || oi.apart ops oj) <;> simp_all
theorem closed_eq : Region.closedB md ops l = closedT (rtab md ops).2 l.toList := by
  unfold Region.closedB closedT
  rw [rtab_length]
  congr 1
  funext j
  rw [gd]
  cases h : ops[j]? with
  | none => rw [rtab_none h]
  | some o =>
    rw [rtab_some h]
    simp only
    rw [← needs_all]
    simp only [gd]
theorem reach_eq : ∀ (fuel d : Nat), Region.reachB md ops i fuel d = reachT (rtab md ops).2 i fuel d
  | 0, _ => rfl
  | fuel + 1, d => by
    unfold Region.reachB reachT
    cases h : ops[d]? with
    | none => rw [rtab_none h]
    | some o =>
      rw [rtab_some h]
      simp only
      rw [← needs_any]
      congr 1
      funext e
      rw [reach_eq fuel]
theorem last_eq : Region.lastB md ops l ds i = lastT (rtab md ops).2 l.toList ds i := by
  unfold Region.lastB lastT
  rw [rtab_length]
  congr 1
  funext d
  rw [gd, reach_eq]
theorem readyAt_mem (h : readyAt T.2 l.toList i = true) (hT : rtab md ops = T) : (Region.ready md ops l).contains i = true := by
  subst hT
  rw [ready_eq]
  unfold readyT
  rw [List.contains_iff_mem, List.mem_filter, List.mem_range]
  refine ⟨?_, h⟩
  unfold readyAt at h
  rw [Bool.and_eq_true] at h
  cases hq : (rtab md ops).2[i]? with
  | none => rw [hq] at h; simp at h
  | some r => exact (List.getElem?_eq_some_iff.1 hq).1
theorem set_of (h : (l.toList.set i true == l'.toList) = true) : (l.setIfInBounds i true == l') = true := by
  rw [beq_iff_eq] at h ⊢
  apply Array.ext'
  rw [Array.toList_setIfInBounds]
  exact h
def anyT (T : Bool × List (List Nat × List Nat)) (l l' : List Bool) (i : Nat) : Bool := T.1 && freeT T.2 l i && readyAt T.2 l i && (l.set i true == l')
theorem any_of (hT : rtab md ops = T) (h : anyT T l.toList l'.toList i = true) : anyB md ops l l' i = true := by
  simp only [anyT, Bool.and_eq_true] at h
  obtain ⟨⟨⟨h1, h2⟩, h3⟩, h4⟩ := h
  have h5 := readyAt_mem h3 hT
  have h6 := set_of h4
  subst hT
  simp only [anyB, Bool.and_eq_true]
  exact ⟨⟨⟨h1, by rw [free_eq]; exact h2⟩, h5⟩, h6⟩
def takeT (T : Bool × List (List Nat × List Nat)) (ds : List Nat) (l l' : List Bool) (i : Nat) : Bool := T.1 && freeT T.2 l i && readyAt T.2 l i && closedT T.2 l && lastT T.2 l ds i && (l.set i true == l')
theorem take_of (hT : rtab md ops = T) (h : takeT T ds l.toList l'.toList i = true) : takeB md ops ds l l' i = true := by
  simp only [takeT, Bool.and_eq_true] at h
  obtain ⟨⟨⟨⟨⟨h1, h2⟩, h3⟩, h4⟩, h5⟩, h6⟩ := h
  have h7 := readyAt_mem h3 hT
  have h8 := set_of h6
  subst hT
  simp only [takeB, Bool.and_eq_true]
  exact ⟨⟨⟨⟨⟨h1, by rw [free_eq]; exact h2⟩, h7⟩, by rw [closed_eq]; exact h4⟩, by rw [last_eq]; exact h5⟩, h8⟩
theorem one_of (hT : rtab md ops = T) (h : (readyT T.2 l.toList == [i] && l.toList.set i true == l'.toList) = true) : readyB md ops l l' i = true := by
  simp only [Bool.and_eq_true] at h
  obtain ⟨h1, h2⟩ := h
  subst hT
  simp only [readyB, Bool.and_eq_true]
  exact ⟨by rw [ready_eq]; exact h1, set_of h2⟩
theorem two_of (hT : rtab md ops = T) (h : (readyT T.2 l.toList == [i, j] && l.toList.set i true == li.toList && l.toList.set j true == lj.toList) = true) : (Region.ready md ops l == [i, j] && l.setIfInBounds i true == li && l.setIfInBounds j true == lj) = true := by
  simp only [Bool.and_eq_true] at h ⊢
  obtain ⟨⟨h1, h2⟩, h3⟩ := h
  subst hT
  exact ⟨⟨by rw [ready_eq]; exact h1, set_of h2⟩, set_of h3⟩
theorem three_of (hT : rtab md ops = T) (h : (readyT T.2 l.toList == [i, j, k] && l.toList.set i true == li.toList && l.toList.set j true == lj.toList && l.toList.set k true == lk.toList) = true) :
    (Region.ready md ops l == [i, j, k] && l.setIfInBounds i true == li && l.setIfInBounds j true == lj && l.setIfInBounds k true == lk) = true := by
  simp only [Bool.and_eq_true] at h ⊢
  obtain ⟨⟨⟨h1, h2⟩, h3⟩, h4⟩ := h
  subst hT
  exact ⟨⟨⟨by rw [ready_eq]; exact h1, set_of h2⟩, set_of h3⟩, set_of h4⟩
theorem done_of (hT : rtab md ops = T) (h : (readyT T.2 l.toList == []) = true) : (Region.ready md ops l == []) = true := by
  subst hT
  rw [ready_eq]
  exact h
def upM (B : List Nat) (d : Nat) : List Nat → Nat
  | [] => 0
  | n :: r => (2 ^ n ||| (if n < d then B.getD n 0 else 0)) ||| upM B d r
def waitsOk (T : List (List Nat × List Nat)) (B : List Nat) : Bool := (List.range T.length).all fun d => match T[d]? with
  | some r => (B.getD d 0 ||| upM B d r.1) == upM B d r.1
  | none => false
theorem upM_bit {B : List Nat} {d i : Nat} : ∀ {ns : List Nat}, (upM B d ns).testBit i = true → ∃ n ∈ ns, n = i ∨ (n < d ∧ (B.getD n 0).testBit i = true)
  | [], h => by simp [upM] at h
  | n :: r, h => by
    unfold upM at h
    rw [Nat.testBit_or, Nat.testBit_or, Bool.or_eq_true, Bool.or_eq_true] at h
    rcases h with (h | h) | h
    · rw [Nat.testBit_two_pow] at h
      exact ⟨n, List.mem_cons_self, .inl (by simpa using h)⟩
    · by_cases hn : n < d
      · rw [if_pos hn] at h
        exact ⟨n, List.mem_cons_self, .inr ⟨hn, h⟩⟩
      · rw [if_neg hn] at h
        simp at h
    · obtain ⟨m, hm, h2⟩ := upM_bit h
      exact ⟨m, List.mem_cons_of_mem _ hm, h2⟩
theorem reach_bit {T : List (List Nat × List Nat)} {B : List Nat} (hB : waitsOk T B = true) : ∀ (fuel d : Nat), d < fuel → d < T.length → (B.getD d 0).testBit i = true → reachT T i fuel d = true
  | 0, d, h, _, _ => by omega
  | fuel + 1, d, h, hd, hb => by
    have h1 := List.all_eq_true.1 hB d (List.mem_range.2 hd)
    cases hr : T[d]? with
    | none => rw [hr] at h1; simp at h1
    | some r =>
      rw [hr] at h1
      simp only [beq_iff_eq] at h1
      have h2 : (upM B d r.1).testBit i = true := by rw [← h1, Nat.testBit_or, hb, Bool.true_or]
      obtain ⟨n, hn, h3⟩ := upM_bit h2
      unfold reachT
      rw [hr]
      simp only
      rw [List.any_eq_true]
      refine ⟨n, hn, ?_⟩
      rcases h3 with rfl | ⟨h4, h5⟩
      · simp
      · rw [reach_bit hB fuel n (by omega) (by omega) h5, Bool.or_true]
def lastW (T : List (List Nat × List Nat)) (B : List Nat) (l : List Bool) (ds : List Nat) (i : Nat) : Bool := ds.all fun d => l.getD d true || (decide (d < T.length) && (B.getD d 0).testBit i)
def takeW (T : Bool × List (List Nat × List Nat)) (B : List Nat) (ds : List Nat) (l l' : List Bool) (i : Nat) : Bool := T.1 && freeT T.2 l i && readyAt T.2 l i && closedT T.2 l && lastW T.2 B l ds i && (l.set i true == l')
theorem take_ofW {B : List Nat} (hT : rtab md ops = T) (hB : waitsOk T.2 B = true) (h : takeW T B ds l.toList l'.toList i = true) : takeB md ops ds l l' i = true := by
  refine take_of hT ?_
  simp only [takeW, takeT, Bool.and_eq_true] at h ⊢
  obtain ⟨⟨⟨⟨⟨h1, h2⟩, h3⟩, h4⟩, h5⟩, h6⟩ := h
  refine ⟨⟨⟨⟨⟨h1, h2⟩, h3⟩, h4⟩, ?_⟩, h6⟩
  unfold lastW at h5
  unfold lastT
  rw [List.all_eq_true] at h5 ⊢
  intro d hd
  have h7 := h5 d hd
  rw [Bool.or_eq_true, Bool.and_eq_true, decide_eq_true_eq] at h7
  rcases h7 with h7 | ⟨h8, h9⟩
  · rw [h7, Bool.true_or]
  · rw [reach_bit hB _ d h8 h8 h9, Bool.or_true]
theorem with_tabW {P : Program} {Q : Exit → Act → World → Prop} {S : World → Prop} {n : Nat} {a : Act} {w : World} {B : List Nat} (hT : rtab md ops = T) (hB : waitsOk T.2 B = true) (h : Aside0 (rtab md ops = T) → Aside0 (waitsOk T.2 B = true) → wpAnyLast P md ops Q S ds n l a w) : wpAnyLast P md ops Q S ds n l a w := h ⟨hT⟩ ⟨hB⟩
end
def opsIn : Code → Nat → Option (Array Oper)
  | .region id ops _, k => if id == k then some ops else none
  | .seq a b, k => match opsIn a k with
    | some o => some o
    | none => opsIn b k
  | .cond _ a b, k => match opsIn a k with
    | some o => some o
    | none => opsIn b k
  | .block _ c, k => opsIn c k
  | .loop c, k => opsIn c k
  | .scope c, k => opsIn c k
  | .rangeFunc _ _ a b, k => match opsIn a k with
    | some o => some o
    | none => opsIn b k
  | _, _ => none
def opsOf (f : Func) (k : Nat) : Array Oper := ((f.body.bind fun c => opsIn c k)).getD #[]
end Go.Proofs.YtbgefpeicmbgiaaW.PrintLast
end


section
namespace Go.Proofs.YtbgefpeicmbgiaaW.PrintWords
open Go.RowKit
namespace Kd
def tag {α : Type} (f : Nat → Nat) (d : Kd α) : Kd (α × Nat) where
  sz := d.sz
  E := d.E
  K := fun w x cs => d.K w x.1 cs
  M := fun w base ok x cs => d.M w base (fun k => ok k ∧ f k = x.2) x.1 cs
  K_len := fun h => d.K_len h
  K_one := fun h => d.K_one h
  K_below := fun hb h => d.K_below hb h
  K_of_M := fun h => d.K_of_M h
  M_mono := fun hok h => d.M_mono (fun k hk => ⟨hok k hk.1, hk.2⟩) h
  M_bound := fun h => d.M_mono (fun _ hk => ⟨⟨hk.1.1, hk.2⟩, hk.1.2⟩) (d.M_bound h)
  M_move := fun hm h => d.M_move (fun k hk => hm k hk.1) h
  M_lower := fun hb h => d.M_lower hb h
def raw (sz : Nat) : Kd (List Value) where
  sz := sz
  E := []
  K := fun _ x cs => cs = x ∧ cs.length = sz ∧ ∀ u ∈ cs, u.oneCell' = true
  M := fun _ _ _ x cs => cs = x ∧ cs.length = sz ∧ ∀ u ∈ cs, u.oneCell' = true
  K_len := fun h => h.2.1
  K_one := fun h => h.2.2
  K_below := fun _ h => h
  K_of_M := fun h => h
  M_mono := fun _ h => h
  M_bound := fun h => h
  M_move := fun _ h => h
  M_lower := fun _ h => h
def S {α : Type} (d : Kd α) (e : Nat) (w : World) (base : Nat) (ok : Nat → Prop) (v : Value) (xs : List α) : Prop := ∃ f, (tag f d).R e w base ok v xs.zipIdx
def gap {α : Type} (f : Nat → Nat) (d : Kd α) (i : Nat) (c : List Value) : Kd (α × Nat) where
  sz := d.sz
  E := d.E
  K := fun w x cs => (x.2 = i → cs = c ∧ cs.length = d.sz ∧ ∀ u ∈ cs, u.oneCell' = true) ∧ (x.2 ≠ i → d.K w x.1 cs)
  M := fun w base ok x cs => (x.2 = i → cs = c ∧ cs.length = d.sz ∧ ∀ u ∈ cs, u.oneCell' = true) ∧ (x.2 ≠ i → d.M w base (fun k => ok k ∧ f k = x.2) x.1 cs)
  K_len := fun {w x cs} h => by
    by_cases hx : x.2 = i
    · exact (h.1 hx).2.1
    · exact d.K_len (h.2 hx)
  K_one := fun {w x cs} h => by
    by_cases hx : x.2 = i
    · exact (h.1 hx).2.2
    · exact d.K_one (h.2 hx)
  K_below := fun hb h => ⟨h.1, fun hx => d.K_below hb (h.2 hx)⟩
  K_of_M := fun h => ⟨h.1, fun hx => d.K_of_M (h.2 hx)⟩
  M_mono := fun hok h => ⟨h.1, fun hx => d.M_mono (fun k hk => ⟨hok k hk.1, hk.2⟩) (h.2 hx)⟩
  M_bound := fun h => ⟨h.1, fun hx => d.M_mono (fun _ hk => ⟨⟨hk.1.1, hk.2⟩, hk.1.2⟩) (d.M_bound (h.2 hx))⟩
  M_move := fun hm h => ⟨h.1, fun hx => d.M_move (fun k hk => hm k hk.1) (h.2 hx)⟩
  M_lower := fun hb h => ⟨h.1, fun hx => d.M_lower hb (h.2 hx)⟩
def H {α : Type} (d : Kd α) (e : Nat) (w : World) (base : Nat) (ok : Nat → Prop) (v : Value) (xs : List α) (i : Int) (oki : Nat → Prop) (c : List Value) : Prop :=
  (∀ k, oki k → ok k) ∧ ∃ f, (gap f d i.toNat c).R e w base (fun k => ok k ∧ ¬ oki k) v xs.zipIdx
end Kd
end Go.Proofs.YtbgefpeicmbgiaaW.PrintWords
end


section
namespace Go.Proofs.YtbgefpeicmbgiaaW.PrintWords
open Go.RowKit
namespace Kd
structure Heap {α : Type} (d : Kd α) : Prop where
  K : ∀ {w w1 : World} {x : α} {cs : List Value}, (∀ k, k < w.heap.size → w1.heap[k]? = w.heap[k]?) → d.K w x cs → d.K w1 x cs
theorem cell_heap {w w1 : World} (hb : ∀ k, k < w.heap.size → w1.heap[k]? = w.heap[k]?) {a : Addr} {v : Value} (h : w.cell? a = some v) : w1.cell? a = some v := by
  have := hb a.block (World.block_lt_of_cell? w a h)
  simpa [World.cell?, this] using h
theorem Heap.C {α : Type} {d : Kd α} (hd : Heap d) {w w1 : World} {A : Option Addr} {n : Nat} {xs : List α} (hb : ∀ k, k < w.heap.size → w1.heap[k]? = w.heap[k]?) (h : d.C w A n xs) : d.C w1 A n xs :=
  ⟨h.1, h.2.1, fun hn => by
    obtain ⟨ad, e, hc⟩ := h.2.2 hn
    refine ⟨ad, e, fun j p hj => ?_⟩
    obtain ⟨c, hs, hr, hcell⟩ := hc j p hj
    exact ⟨c, hs, hd.K hb hr, fun i u hu => cell_heap hb (hcell i u hu)⟩⟩
end Kd
end Go.Proofs.YtbgefpeicmbgiaaW.PrintWords
end
section
namespace Go.Proofs.YtbgefpeicmbgiaaW.PrintWords
open Go.RowKit
def Kept (w W : World) (S : Nat → Prop) : Prop := w.heap.size ≤ W.heap.size ∧ ∀ i, i < w.heap.size → ¬ S i → W.heap[i]? = w.heap[i]?
section
variable {w W W2 : World} {S S2 S' : Nat → Prop}
theorem Kept.refl (w : World) (S : Nat → Prop) : Kept w w S := ⟨Nat.le_refl _, fun _ _ _ => rfl⟩
theorem Kept.of_below (h : Below w.heap.size w W) (S : Nat → Prop) : Kept w W S := ⟨h.size, fun i hi _ => h.block i hi⟩
theorem Kept.mono (h : Kept w W S) (hs : ∀ k, S k → S' k) : Kept w W S' := ⟨h.1, fun i hi hn => h.2 i hi (fun hk => hn (hs i hk))⟩
theorem Kept.then_ (h : Kept w W S) (k : Kept W W2 S2) (hs : ∀ k, S2 k → S k ∨ w.heap.size ≤ k) : Kept w W2 S :=
  ⟨Nat.le_trans h.1 k.1, fun i hi hn => (k.2 i (Nat.lt_of_lt_of_le hi h.1) (fun h2 => (hs i h2).elim hn (fun h3 => by omega))).trans (h.2 i hi hn)⟩
theorem Kept.below (h : Kept w W S) (hb : Below W.heap.size W W2) : Kept w W2 S := h.then_ (Kept.of_below hb (fun _ => False)) (fun _ hk => hk.elim)
theorem Kept.alloc (h : Kept w W S) (o : Obj) : Kept w (W.alloc o) S := h.below (below_alloc (Below.refl _ _) o)
theorem Kept.drew (h : Kept w W S) : Kept w W.drew S := h
theorem Kept.drewN (h : Kept w W S) (m : Nat) : Kept w (W.drewN m) S := h
theorem Kept.setCell (h : Kept w W S) {p : Addr} (hp : S p.block ∨ w.heap.size ≤ p.block) (u : Value) : Kept w (W.setCell p u) S :=
  h.then_ (S2 := fun k => k = p.block) ⟨by simp [World.setCell], fun i _ hn => Below.heap_setCell W p u i hn⟩ (fun k hk => by rw [hk]; exact hp)
end
end Go.Proofs.YtbgefpeicmbgiaaW.PrintWords
end
section
namespace Go.Proofs.YtbgefpeicmbgiaaW.PrintWords
open Go.RowKit
def Foot (P : World → Prop) (W : World) (ok : Nat → Prop) : Prop := ∀ W' : World, (∀ k, ok k → k < W.heap.size → W'.heap[k]? = W.heap[k]?) → P W'
namespace Foot
variable {P Q : World → Prop} {W W1 : World} {ok ok' : Nat → Prop}
theorem mono (h : Foot P W ok) (hok : ∀ k, ok k → ok' k) : Foot P W ok' := fun W' hW => h W' (fun k hk hlt => hW k (hok k hk) hlt)
end Foot
namespace Kd
def F {α : Type} (d : Kd α) (W : World) (ok : Nat → Prop) (A : Option Addr) (n : Nat) (xs : List α) : Prop := Foot (fun W => d.C W A n xs) W ok
def FK {α : Type} (d : Kd α) (W : World) (ok : Nat → Prop) (x : α) (c : List Value) : Prop := Foot (fun W => d.K W x c) W ok
end Kd
end Go.Proofs.YtbgefpeicmbgiaaW.PrintWords
end
section
namespace Go.Proofs.YtbgefpeicmbgiaaW.PrintWords
open Go.RowKit
namespace Kd
section
variable {α : Type} {d : Kd α} {e base n cc g : Nat} {ok ok' okp S : Nat → Prop} {w w1 W W1 : World} {A : Option Addr} {u v v1 : Value} {xs : List α} {x : α} {c : List Value}
def N {α : Type} (d : Kd α) (e : Nat) (w : World) (base : Nat) (ok : Nat → Prop) (v : Value) (xs : List α) : Prop :=
  (∀ k, v.ownBlock = some k → ok k) ∧ ∃ rows : List (List Value), rows.length = xs.length ∧ (raw d.sz).R e w base (fun k => some k = v.ownBlock) v rows ∧ ∀ (j : Nat) (x : α) (c : List Value), xs[j]? = some x → rows[j]? = some c → FK d w (fun k => ok k ∧ some k ≠ v.ownBlock) x c
end
end Kd
end Go.Proofs.YtbgefpeicmbgiaaW.PrintWords
end



section
namespace Go.Proofs.YtbgefpeicmbgiaaW.PrintWords
theorem Reps.one {α : Type} {R : α → List Value → Prop} {ps : List α} {cs : List Value} {p : α} {v : Value} (hp : R p [v]) (h : Reps R 1 ps cs) : Reps R 1 (p :: ps) (v :: cs) := by
  refine ⟨by simp [h.1], fun j q hq => ?_⟩
  cases j with
  | zero =>
    simp only [List.getElem?_cons_zero, Option.some.injEq] at hq
    subst hq
    simpa using hp
  | succ j =>
    simp only [List.getElem?_cons_succ] at hq
    have h1 := h.2 j q hq
    simpa [Nat.mul_one] using h1
theorem Reps.front {α : Type} {R : α → List Value → Prop} {size : Nat} {ps : List α} {cs c all : List Value} {p : α} (hp : R p c) (hc : c.length = size) (h : Reps R size ps cs) (ha : c ++ cs = all) : Reps R size (p :: ps) all := by
  subst ha
  refine ⟨by rw [List.length_append, hc, h.1, List.length_cons, Nat.succ_mul, Nat.add_comm], fun j q hq => ?_⟩
  cases j with
  | zero =>
    simp only [List.getElem?_cons_zero, Option.some.injEq] at hq
    subst hq
    rw [Nat.zero_mul, List.drop_zero, List.take_append_of_le_length (by omega), List.take_of_length_le (by omega)]
    exact hp
  | succ j =>
    simp only [List.getElem?_cons_succ] at hq
    have h1 := h.2 j q hq
    rw [Nat.succ_mul, List.drop_append, List.drop_of_length_le (by rw [hc]; exact Nat.le_add_left _ _), List.nil_append, hc, Nat.add_sub_cancel]
    exact h1
theorem Reps.c2 {α : Type} {R : α → List Value → Prop} {ps : List α} {cs : List Value} {p : α} {va vb : Value} (hp : R p [va, vb]) (h : Reps R 2 ps cs) : Reps R 2 (p :: ps) (va :: vb :: cs) := Reps.front hp rfl h rfl
theorem Reps.c3 {α : Type} {R : α → List Value → Prop} {ps : List α} {cs : List Value} {p : α} {va vb vc : Value} (hp : R p [va, vb, vc]) (h : Reps R 3 ps cs) : Reps R 3 (p :: ps) (va :: vb :: vc :: cs) := Reps.front hp rfl h rfl
theorem Reps.c4 {α : Type} {R : α → List Value → Prop} {ps : List α} {cs : List Value} {p : α} {va vb vc vd : Value} (hp : R p [va, vb, vc, vd]) (h : Reps R 4 ps cs) : Reps R 4 (p :: ps) (va :: vb :: vc :: vd :: cs) := Reps.front hp rfl h rfl
theorem Reps.c5 {α : Type} {R : α → List Value → Prop} {ps : List α} {cs : List Value} {p : α} {va vb vc vd ve : Value} (hp : R p [va, vb, vc, vd, ve]) (h : Reps R 5 ps cs) : Reps R 5 (p :: ps) (va :: vb :: vc :: vd :: ve :: cs) := Reps.front hp rfl h rfl
theorem Reps.c6 {α : Type} {R : α → List Value → Prop} {ps : List α} {cs : List Value} {p : α} {va vb vc vd ve vf : Value} (hp : R p [va, vb, vc, vd, ve, vf]) (h : Reps R 6 ps cs) : Reps R 6 (p :: ps) (va :: vb :: vc :: vd :: ve :: vf :: cs) := Reps.front hp rfl h rfl
theorem Reps.c7 {α : Type} {R : α → List Value → Prop} {ps : List α} {cs : List Value} {p : α} {va vb vc vd ve vf vg : Value} (hp : R p [va, vb, vc, vd, ve, vf, vg]) (h : Reps R 7 ps cs) : Reps R 7 (p :: ps) (va :: vb :: vc :: vd :: ve :: vf :: vg :: cs) := Reps.front hp rfl h rfl
theorem Reps.c8 {α : Type} {R : α → List Value → Prop} {ps : List α} {cs : List Value} {p : α} {va vb vc vd ve vf vg vh : Value} (hp : R p [va, vb, vc, vd, ve, vf, vg, vh]) (h : Reps R 8 ps cs) : Reps R 8 (p :: ps) (va :: vb :: vc :: vd :: ve :: vf :: vg :: vh :: cs) := Reps.front hp rfl h rfl
theorem Reps.c9 {α : Type} {R : α → List Value → Prop} {ps : List α} {cs : List Value} {p : α} {va vb vc vd ve vf vg vh vi : Value} (hp : R p [va, vb, vc, vd, ve, vf, vg, vh, vi]) (h : Reps R 9 ps cs) : Reps R 9 (p :: ps) (va :: vb :: vc :: vd :: ve :: vf :: vg :: vh :: vi :: cs) := Reps.front hp rfl h rfl
theorem Reps.c10 {α : Type} {R : α → List Value → Prop} {ps : List α} {cs : List Value} {p : α} {va vb vc vd ve vf vg vh vi vj : Value} (hp : R p [va, vb, vc, vd, ve, vf, vg, vh, vi, vj]) (h : Reps R 10 ps cs) : Reps R 10 (p :: ps) (va :: vb :: vc :: vd :: ve :: vf :: vg :: vh :: vi :: vj :: cs) := Reps.front hp rfl h rfl
end Go.Proofs.YtbgefpeicmbgiaaW.PrintWords
end
section
namespace Go.Proofs.YtbgefpeicmbgiaaW.PrintLast
def up (b : Nat → Bool) (i : Nat) : Nat → Bool := fun j => if j = i then true else b j
def lof (n : Nat) (O : List Nat) (b : Nat → Bool) : List Bool := (List.range n).map fun j => if O.contains j then b j else true
end Go.Proofs.YtbgefpeicmbgiaaW.PrintLast
end



section
namespace Go.Proofs.YtbgefpeicmbgiaaW.PrintMore
open Go.RowKit Go.Proofs.YtbgefpeicmbgiaaW.PrintWords
theorem max2_int (k k' : IntKind) (x y : Int) : Builtin.max2 (.int k x) (.int k' y) = pure (.int k (if x < y then y else x)) := by simp only [Builtin.max2, gt_iff_lt]
theorem min2_int (k k' : IntKind) (x y : Int) : Builtin.min2 (.int k x) (.int k' y) = pure (.int k (if y < x then y else x)) := by simp only [Builtin.min2]
theorem max_two (ats : Array TypeId) (ty : TypeId) (a b : Value) : Builtin.max_ ats ty #[a, b] = (Builtin.max2 a b >>= fun s => pure s) := by simp only [Builtin.max_, List.foldlM_cons, List.foldlM_nil]
theorem min_two (ats : Array TypeId) (ty : TypeId) (a b : Value) : Builtin.min_ ats ty #[a, b] = (Builtin.min2 a b >>= fun s => pure s) := by simp only [Builtin.min_, List.foldlM_cons, List.foldlM_nil]
theorem max_three (ats : Array TypeId) (ty : TypeId) (a b c : Value) : Builtin.max_ ats ty #[a, b, c] = (Builtin.max2 a b >>= fun s => Builtin.max2 s c >>= fun s => pure s) := by simp only [Builtin.max_, List.foldlM_cons, List.foldlM_nil]
theorem min_three (ats : Array TypeId) (ty : TypeId) (a b c : Value) : Builtin.min_ ats ty #[a, b, c] = (Builtin.min2 a b >>= fun s => Builtin.min2 s c >>= fun s => pure s) := by simp only [Builtin.min_, List.foldlM_cons, List.foldlM_nil]
theorem max_four (ats : Array TypeId) (ty : TypeId) (a b c d : Value) : Builtin.max_ ats ty #[a, b, c, d] = (Builtin.max2 a b >>= fun s => Builtin.max2 s c >>= fun s => Builtin.max2 s d >>= fun s => pure s) := by simp only [Builtin.max_, List.foldlM_cons, List.foldlM_nil]
theorem min_four (ats : Array TypeId) (ty : TypeId) (a b c d : Value) : Builtin.min_ ats ty #[a, b, c, d] = (Builtin.min2 a b >>= fun s => Builtin.min2 s c >>= fun s => Builtin.min2 s d >>= fun s => pure s) := by simp only [Builtin.min_, List.foldlM_cons, List.foldlM_nil]
end Go.Proofs.YtbgefpeicmbgiaaW.PrintMore
namespace Go.Proofs.YtbgefpeicmbgiaaW.PrintWords
open Go.RowKit
section
variable {P : Program} {ops : Array Oper} {rest : List Oper} {o : Oper} {a : Act} {Q : Exit → Act → World → Prop} {W : World}
theorem gate_callee {f : FuncId} {as_ : Array Operand} {ts : Array TypeId} (_ho : o.op = .call { callee := .value (.func f), args := as_, argTypes := ts }) (h : wpList P ops Q (o :: rest) a W) : wpList P ops Q (o :: rest) a W := h
end
def mx (a b : Int) : Int := if a < b then b else a
end Go.Proofs.YtbgefpeicmbgiaaW.PrintWords
end

section
namespace Go.Proofs.Ytbgefpeicmbgiaa.X
open Go.RowKit Go.Proofs.YtbgefpeicmbgiaaW.PrintWords Go.Proofs.YtbgefpeicmbgiaaW.PrintLast Go.Proofs.YtbgefpeicmbgiaaW.PrintMore
theorem kV {Q P : Prop} (h : Aside0 Q) (p : Q → P := by intro h_; (with_reducible repeat (first | apply Kd.V_alloc | apply Kd.V_drewN | apply Kd.V_drew)); exact h_) : P := p h.out
theorem kR {Q P : Prop} (h : Aside0 Q) (p : Q → P := by intro h_; (with_reducible repeat (first | apply Kd.R_alloc | apply Kd.R_drewN | apply Kd.R_drew)); exact h_) : P := p h.out
theorem kH {Q P : Prop} (h : Aside0 Q) (p : Q → P := by intro h_; repeat (first | (with_reducible first | exact h_ | apply below_alloc | apply pw_below_drewN | apply below_drew1) | exact h_)) : P := p h.out
theorem kHs {Q G P : Prop} (h : Aside0 Q) (g : Aside0 G) (p : Q → G → P := by intro h_ g_; repeat (first | (with_reducible first | exact h_ | apply below_alloc | apply pw_below_drewN | apply below_drew1 | refine below_set ?_ g_) | exact h_)) : P := p h.out g.out
theorem kB {Q P : Prop} (h : Aside0 Q) (p : Q → P := by intro h_; (with_reducible repeat (first | refine blk_drewN ?_ _ | refine blk_drew ?_ | refine blk_alloc ?_ _)); exact h_) : P := p h.out
theorem kHt {Q G F P : Prop} (h : Aside0 Q) (g : Aside0 G) (f : Aside0 F) (p : Q → G → F → P := by intro h_ g_ f_; repeat (first | (with_reducible first | exact h_ | apply below_alloc | apply pw_below_drewN | apply below_drew1 | refine below_set ?_ g_ | refine below_set ?_ f_) | exact h_)) : P := p h.out g.out f.out
theorem RSq {P : Prop} (p : P := by first | rfl | (simp; done) | (simp [*]; done) | (simp [wrap64]; done)) : P := p
theorem ASq {P : Prop} (p : P := by first | (with_reducible assumption) | assumption) : P := p
theorem kC {Q P : Prop} (h : Q) (p : Q → P := by intro h_; repeat (first | exact h_ | (with_reducible refine Kd.C_alloc ?_ _) | (with_reducible refine Kd.C_drewN ?_ _) | (with_reducible refine Kd.C_drew ?_))) : P := p h
theorem LMq {P : Prop} (p : P := by (try simp only [List.map_toArray, List.map_cons, List.map_nil]); first | done | rfl | (simp only [List.length_drop, List.length_take]; rfl)) : P := p
theorem APq {P : Prop} (p : P := by simp only [Act.put, List.setIfInBounds_toArray, List.set_cons_zero, List.set_cons_succ, i64_w, i32_w]; rfl) : P := p
theorem PAq {P : Prop} (p : P := by simp only [putAll, Act.put, List.setIfInBounds_toArray, List.set_cons_zero, List.set_cons_succ] <;> rfl) : P := p
theorem gsz {w W : World} {g : Nat} (e : g = W.heap.size) (h : Aside0 (Below w.heap.size w W)) : Aside0 (w.heap.size ≤ g) := ⟨by rw [e]; exact below_size h.out⟩
theorem gne {W : World} {g g' : Nat} {o : Obj} (e : g = W.heap.size) (h : Aside0 (W.heap[g']? = some o)) : Aside0 (g' ≠ g) := ⟨by rw [e]; exact Nat.ne_of_lt (blk_lt h.out)⟩
theorem gen {W : World} {g g' : Nat} {o : Obj} (e : g = W.heap.size) (h : Aside0 (W.heap[g']? = some o)) : Aside0 (g ≠ g') := ⟨by rw [e]; exact Nat.ne_of_gt (blk_lt h.out)⟩
theorem bc {w : World} {g : Nat} {t : TypeId} {cs : Array Value} (h : Aside0 (w.heap[g]? = some (.cells cs t (0, 0)))) (i : Nat) {v : Option Value} (e : cs[i]? = v := by rfl) : w.cell? ⟨g, i, none⟩ = v := (blk_cell h.out i).trans e
theorem W1q {w : World} {g : Nat} {t : TypeId} {a0 : Value} (h : Aside0 (w.heap[g]? = some (.cells #[a0] t (0, 0)))) : w.cell? ⟨g, 0, none⟩ = some a0 ∧ w.frozen? ⟨g, 0, none⟩ = false := ⟨bc h 0, blk_frozen h.out 0⟩
theorem W2q {w : World} {g : Nat} {t : TypeId} {a0 a1 : Value} (h : Aside0 (w.heap[g]? = some (.cells #[a0, a1] t (0, 0)))) : w.cell? ⟨g, 0, none⟩ = some a0 ∧ w.cell? ⟨g, 1, none⟩ = some a1 ∧ w.frozen? ⟨g, 0, none⟩ = false ∧ w.frozen? ⟨g, 1, none⟩ = false := ⟨bc h 0, bc h 1, blk_frozen h.out 0, blk_frozen h.out 1⟩
theorem W3q {w : World} {g : Nat} {t : TypeId} {a0 a1 a2 : Value} (h : Aside0 (w.heap[g]? = some (.cells #[a0, a1, a2] t (0, 0)))) : w.cell? ⟨g, 0, none⟩ = some a0 ∧ w.cell? ⟨g, 1, none⟩ = some a1 ∧ w.cell? ⟨g, 2, none⟩ = some a2 ∧ w.frozen? ⟨g, 0, none⟩ = false ∧ w.frozen? ⟨g, 1, none⟩ = false ∧ w.frozen? ⟨g, 2, none⟩ = false := ⟨bc h 0, bc h 1, bc h 2, blk_frozen h.out 0, blk_frozen h.out 1, blk_frozen h.out 2⟩
theorem W4q {w : World} {g : Nat} {t : TypeId} {a0 a1 a2 a3 : Value} (h : Aside0 (w.heap[g]? = some (.cells #[a0, a1, a2, a3] t (0, 0)))) : w.cell? ⟨g, 0, none⟩ = some a0 ∧ w.cell? ⟨g, 1, none⟩ = some a1 ∧ w.cell? ⟨g, 2, none⟩ = some a2 ∧ w.cell? ⟨g, 3, none⟩ = some a3 ∧ w.frozen? ⟨g, 0, none⟩ = false ∧ w.frozen? ⟨g, 1, none⟩ = false ∧ w.frozen? ⟨g, 2, none⟩ = false ∧ w.frozen? ⟨g, 3, none⟩ = false := ⟨bc h 0, bc h 1, bc h 2, bc h 3, blk_frozen h.out 0, blk_frozen h.out 1, blk_frozen h.out 2, blk_frozen h.out 3⟩
theorem W5q {w : World} {g : Nat} {t : TypeId} {a0 a1 a2 a3 a4 : Value} (h : Aside0 (w.heap[g]? = some (.cells #[a0, a1, a2, a3, a4] t (0, 0)))) : w.cell? ⟨g, 0, none⟩ = some a0 ∧ w.cell? ⟨g, 1, none⟩ = some a1 ∧ w.cell? ⟨g, 2, none⟩ = some a2 ∧ w.cell? ⟨g, 3, none⟩ = some a3 ∧ w.cell? ⟨g, 4, none⟩ = some a4 ∧ w.frozen? ⟨g, 0, none⟩ = false ∧ w.frozen? ⟨g, 1, none⟩ = false ∧ w.frozen? ⟨g, 2, none⟩ = false ∧ w.frozen? ⟨g, 3, none⟩ = false ∧ w.frozen? ⟨g, 4, none⟩ = false := ⟨bc h 0, bc h 1, bc h 2, bc h 3, bc h 4, blk_frozen h.out 0, blk_frozen h.out 1, blk_frozen h.out 2, blk_frozen h.out 3, blk_frozen h.out 4⟩
theorem W6q {w : World} {g : Nat} {t : TypeId} {a0 a1 a2 a3 a4 a5 : Value} (h : Aside0 (w.heap[g]? = some (.cells #[a0, a1, a2, a3, a4, a5] t (0, 0)))) : w.cell? ⟨g, 0, none⟩ = some a0 ∧ w.cell? ⟨g, 1, none⟩ = some a1 ∧ w.cell? ⟨g, 2, none⟩ = some a2 ∧ w.cell? ⟨g, 3, none⟩ = some a3 ∧ w.cell? ⟨g, 4, none⟩ = some a4 ∧ w.cell? ⟨g, 5, none⟩ = some a5 ∧ w.frozen? ⟨g, 0, none⟩ = false ∧ w.frozen? ⟨g, 1, none⟩ = false ∧ w.frozen? ⟨g, 2, none⟩ = false ∧ w.frozen? ⟨g, 3, none⟩ = false ∧ w.frozen? ⟨g, 4, none⟩ = false ∧ w.frozen? ⟨g, 5, none⟩ = false := ⟨bc h 0, bc h 1, bc h 2, bc h 3, bc h 4, bc h 5, blk_frozen h.out 0, blk_frozen h.out 1, blk_frozen h.out 2, blk_frozen h.out 3, blk_frozen h.out 4, blk_frozen h.out 5⟩
theorem W7q {w : World} {g : Nat} {t : TypeId} {a0 a1 a2 a3 a4 a5 a6 : Value} (h : Aside0 (w.heap[g]? = some (.cells #[a0, a1, a2, a3, a4, a5, a6] t (0, 0)))) : w.cell? ⟨g, 0, none⟩ = some a0 ∧ w.cell? ⟨g, 1, none⟩ = some a1 ∧ w.cell? ⟨g, 2, none⟩ = some a2 ∧ w.cell? ⟨g, 3, none⟩ = some a3 ∧ w.cell? ⟨g, 4, none⟩ = some a4 ∧ w.cell? ⟨g, 5, none⟩ = some a5 ∧ w.cell? ⟨g, 6, none⟩ = some a6 ∧ w.frozen? ⟨g, 0, none⟩ = false ∧ w.frozen? ⟨g, 1, none⟩ = false ∧ w.frozen? ⟨g, 2, none⟩ = false ∧ w.frozen? ⟨g, 3, none⟩ = false ∧ w.frozen? ⟨g, 4, none⟩ = false ∧ w.frozen? ⟨g, 5, none⟩ = false ∧ w.frozen? ⟨g, 6, none⟩ = false := ⟨bc h 0, bc h 1, bc h 2, bc h 3, bc h 4, bc h 5, bc h 6, blk_frozen h.out 0, blk_frozen h.out 1, blk_frozen h.out 2, blk_frozen h.out 3, blk_frozen h.out 4, blk_frozen h.out 5, blk_frozen h.out 6⟩
theorem W8q {w : World} {g : Nat} {t : TypeId} {a0 a1 a2 a3 a4 a5 a6 a7 : Value} (h : Aside0 (w.heap[g]? = some (.cells #[a0, a1, a2, a3, a4, a5, a6, a7] t (0, 0)))) : w.cell? ⟨g, 0, none⟩ = some a0 ∧ w.cell? ⟨g, 1, none⟩ = some a1 ∧ w.cell? ⟨g, 2, none⟩ = some a2 ∧ w.cell? ⟨g, 3, none⟩ = some a3 ∧ w.cell? ⟨g, 4, none⟩ = some a4 ∧ w.cell? ⟨g, 5, none⟩ = some a5 ∧ w.cell? ⟨g, 6, none⟩ = some a6 ∧ w.cell? ⟨g, 7, none⟩ = some a7 ∧ w.frozen? ⟨g, 0, none⟩ = false ∧ w.frozen? ⟨g, 1, none⟩ = false ∧ w.frozen? ⟨g, 2, none⟩ = false ∧ w.frozen? ⟨g, 3, none⟩ = false ∧ w.frozen? ⟨g, 4, none⟩ = false ∧ w.frozen? ⟨g, 5, none⟩ = false ∧ w.frozen? ⟨g, 6, none⟩ = false ∧ w.frozen? ⟨g, 7, none⟩ = false := ⟨bc h 0, bc h 1, bc h 2, bc h 3, bc h 4, bc h 5, bc h 6, bc h 7, blk_frozen h.out 0, blk_frozen h.out 1, blk_frozen h.out 2, blk_frozen h.out 3, blk_frozen h.out 4, blk_frozen h.out 5, blk_frozen h.out 6, blk_frozen h.out 7⟩
theorem kF {Q P : Prop} (h : Aside0 Q) (p : Q → P := by intro h_; repeat (first | (with_reducible exact h_) | (with_reducible refine blk_drewN ?_ _) | (with_reducible refine blk_drew ?_) | (with_reducible refine blk_alloc ?_ _) | (with_reducible refine blk_far ?_ (Aside0.out (by assumption)) _) | ((with_reducible refine blk_put (cs := ?_) ?_ _ _ ?_); rotate_left) | exact h_ | rfl)) : P := p h.out
attribute [local go_sem] max2_int min2_int max_two min_two max_three min_three max_four min_four   
set_option linter.unusedVariables false
set_option linter.unusedSimpArgs false
def errW : Option Int → Value
 | none => .nilIface
 | some c => .iface 119 (.int .i64 c)
theorem errW_none : errW none = .nilIface := rfl
theorem errW_some (c : Int) : errW (some c) = .iface 119 (.int .i64 c) := rfl
end Go.Proofs.Ytbgefpeicmbgiaa.X
end
section
namespace Go.Proofs.Ytbgefpeicmbgiaa.X
open Go.RowKit Go.Proofs.YtbgefpeicmbgiaaW.PrintWords Go.Proofs.YtbgefpeicmbgiaaW.PrintLast Go.Proofs.YtbgefpeicmbgiaaW.PrintMore
attribute [local go_sem] max2_int min2_int max_two min_two max_three min_three max_four min_four   
set_option linter.unusedVariables false
set_option linter.unusedSimpArgs false
def rnd_Round.f (s_m : Bool) (s_x : Int) (s0 s1 s2 s3 : Int) (s_o : Bool) (m : Int) : Option (Int × Int) := if okW s0 s1 s2 s3 = true ∧ (nW s0 s1 s2 s3) < 2 ^ 254 ∧ -131072 ≤ s_x ∧ s_x ≤ 131072 then (some ((rRound s_m (rX s_o s_x) (rS s_o (nW s0 s1 s2 s3)) m).1, (rRound s_m (rX s_o s_x) (rS s_o (nW s0 s1 s2 s3)) m).2)) else none
theorem rnd_Round.eq {s : Nat} (hs : s < T256) (s_m : Bool) (s_x : Int) (s_o : Bool) (m : Int) (p0 : s < 2 ^ 254) (p1 : -131072 ≤ s_x) (p2 : s_x ≤ 131072) : rnd_Round.f s_m s_x (l0 s) (l1 s) (l2 s) (l3 s) s_o m = (some ((rRound s_m (rX s_o s_x) (rS s_o s) m).1, (rRound s_m (rX s_o s_x) (rS s_o s) m).2)) := by
 unfold rnd_Round.f
 rw [nW_l hs]; rw [if_pos (⟨okW_l hs, p0, p1, p2⟩)]
set_option maxRecDepth 100000 in
theorem rnd_Round.calls (s_m : Bool) (s_x : Int) (s0 s1 s2 s3 : Int) (s_o : Bool) (m : Int) (r1 : Int) (r2 : Int) (w : World) (h : rnd_Round.f s_m s_x s0 s1 s2 s3 s_o m = some (r1, r2)) :
 Calls Try.prog 30 #[.agg #[.bool s_m, .int .i64 s_x, .int .u64 s0, .int .u64 s1, .int .u64 s2, .int .u64 s3, .bool s_o], .int .i64 m] w fun e w' => e = .returned (.tuple #[.int .u64 r1, .int .u8 r2]) ∧ Below w.heap.size w w' := by
 unfold rnd_Round.f at h
 split at h
 case isFalse => exact absurd h (by simp)
 case isTrue hp =>
  obtain ⟨ks, p0, p1, p2⟩ := hp; skip; obtain ⟨s, hs, rfl, rfl, rfl, rfl⟩ := okW_ex ks
  simp only [nW_l hs] at h p0
  simp only [Option.some.injEq, Prod.mk.injEq] at h
  obtain ⟨rfl, rfl⟩ := h; refine Calls.mono (r_round s_m s_o s_x m s p0 p1 p2 w) ?_; rintro e w' ⟨he, hb⟩; exact ⟨he, hb⟩
def wide_Of.f (n : Int) : Option (Int × Int × Int × Int) := if inU n = true then (some (l0 (n.toNat), l1 (n.toNat), l2 (n.toNat), l3 (n.toNat))) else none
theorem wide_Of.eq  (n : Int) (p0 : inU n = true) : wide_Of.f n = (some (l0 (n.toNat), l1 (n.toNat), l2 (n.toNat), l3 (n.toNat))) := by
 unfold wide_Of.f
 rw [if_pos (p0)]
set_option maxRecDepth 100000 in
theorem wide_Of.calls (n : Int) (r1 : Int) (r2 : Int) (r3 : Int) (r4 : Int) (w : World) (h : wide_Of.f n = some (r1, r2, r3, r4)) :
 Calls Try.prog 31 #[.int .u64 n] w fun e w' => e = .returned (.agg #[.int .u64 r1, .int .u64 r2, .int .u64 r3, .int .u64 r4]) ∧ Below w.heap.size w w' := by
 unfold wide_Of.f at h
 split at h
 case isFalse => exact absurd h (by simp)
 case isTrue hp =>
  have p0 := hp; clear hp
  simp only [Option.some.injEq, Prod.mk.injEq] at h
  obtain ⟨rfl, rfl, rfl, rfl⟩ := h; refine Calls.mono (wof n (inU_U p0) w) ?_; rintro e w' ⟨he, hb⟩; exact ⟨he, hb⟩
def pat_IsNaN.f (p : Int) : Option (Bool) := if inU p = true then (some (decide (3 < pC p))) else none
theorem pat_IsNaN.eq  (p : Int) (p0 : inU p = true) : pat_IsNaN.f p = (some (decide (3 < pC p))) := by
 unfold pat_IsNaN.f
 rw [if_pos (p0)]
set_option maxRecDepth 100000 in
theorem pat_IsNaN.calls (p : Int) (r : Bool) (w : World) (h : pat_IsNaN.f p = some r) :
 Calls Try.prog 45 #[.int .u64 p] w fun e w' => e = .returned (.bool r) ∧ Below w.heap.size w w' := by
 unfold pat_IsNaN.f at h
 split at h
 case isFalse => exact absurd h (by simp)
 case isTrue hp =>
  have p0 := hp; clear hp
  simp only [Option.some.injEq] at h
  subst h; refine Calls.mono (p_isnan p (inU_U p0) w) ?_; rintro e w' ⟨he, hb⟩; exact ⟨he, hb⟩
def pat_Take.f (p : Int) : Option (Bool × Int × Int × Int) := if inU p = true then (some (pM p, pC p, pX p, pS p)) else none
theorem pat_Take.eq  (p : Int) (p0 : inU p = true) : pat_Take.f p = (some (pM p, pC p, pX p, pS p)) := by
 unfold pat_Take.f
 rw [if_pos (p0)]
set_option maxRecDepth 100000 in
theorem pat_Take.calls (p : Int) (r1 : Bool) (r2 : Int) (r3 : Int) (r4 : Int) (w : World) (h : pat_Take.f p = some (r1, r2, r3, r4)) :
 Calls Try.prog 83 #[.int .u64 p] w fun e w' => e = .returned (.agg #[.bool r1, .int .i64 r2, .int .i64 r3, .int .u64 r4]) ∧ Below w.heap.size w w' := by
 unfold pat_Take.f at h
 split at h
 case isFalse => exact absurd h (by simp)
 case isTrue hp =>
  have p0 := hp; clear hp
  simp only [Option.some.injEq, Prod.mk.injEq] at h
  obtain ⟨rfl, rfl, rfl, rfl⟩ := h; refine Calls.mono (take p (inU_U p0) w) ?_; rintro e w' ⟨he, hb⟩; exact ⟨he, hb⟩
def rnd_Of.f (p : Int) : Option (Bool × Int × Int × Int × Int × Int × Bool × Option Int) := if inU p = true then (if pC p < 3 then some (pM p, pX p, l0 ((pS p).toNat), l1 ((pS p).toNat), l2 ((pS p).toNat), l3 ((pS p).toNat), false, none) else some (false, 0, 0, 0, 0, 0, false, some 1)) else none
theorem rnd_Of.eq  (p : Int) (p0 : inU p = true) : rnd_Of.f p = (if pC p < 3 then some (pM p, pX p, l0 ((pS p).toNat), l1 ((pS p).toNat), l2 ((pS p).toNat), l3 ((pS p).toNat), false, none) else some (false, 0, 0, 0, 0, 0, false, some 1)) := by
 unfold rnd_Of.f
 rw [if_pos (p0)]
set_option maxRecDepth 100000 in
theorem rnd_Of.calls (p : Int) (r1 : Bool) (r2 : Int) (r3 : Int) (r4 : Int) (r5 : Int) (r6 : Int) (r7 : Bool) (r8 : Option Int) (w : World) (h : rnd_Of.f p = some (r1, r2, r3, r4, r5, r6, r7, r8)) :
 Calls Try.prog 49 #[.int .u64 p] w fun e w' => e = .returned (.tuple #[.agg #[.bool r1, .int .i64 r2, .int .u64 r3, .int .u64 r4, .int .u64 r5, .int .u64 r6, .bool r7], errW r8]) ∧ Below w.heap.size w w' := by
 unfold rnd_Of.f at h
 split at h
 case isFalse => exact absurd h (by simp)
 case isTrue hp =>
  have p0 := hp; clear hp
  by_cases q : pC p < 3
  · rw [if_pos q] at h
    simp only [Option.some.injEq, Prod.mk.injEq] at h
    obtain ⟨rfl, rfl, rfl, rfl, rfl, rfl, rfl, rfl⟩ := h; refine Calls.mono (r_of p (inU_U p0) q w) ?_; rintro e w' ⟨he, hb⟩; exact ⟨he, hb⟩
  rw [if_neg q] at h
  simp only [Option.some.injEq, Prod.mk.injEq] at h
  obtain ⟨rfl, rfl, rfl, rfl, rfl, rfl, rfl, rfl⟩ := h; refine Calls.mono (r_of_no p (inU_U p0) q w) ?_; rintro e w' ⟨he, hb⟩; exact ⟨he, hb⟩
def pat_Class.f (p : Int) : Option (Int) := if inU p = true then (some (pC p)) else none
theorem pat_Class.eq  (p : Int) (p0 : inU p = true) : pat_Class.f p = (some (pC p)) := by
 unfold pat_Class.f
 rw [if_pos (p0)]
set_option maxRecDepth 100000 in
theorem pat_Class.calls (p : Int) (r : Int) (w : World) (h : pat_Class.f p = some r) :
 Calls Try.prog 80 #[.int .u64 p] w fun e w' => e = .returned (.int .i64 r) ∧ Below w.heap.size w w' := by
 unfold pat_Class.f at h
 split at h
 case isFalse => exact absurd h (by simp)
 case isTrue hp =>
  have p0 := hp; clear hp
  simp only [Option.some.injEq] at h
  subst h; refine Calls.mono (p_class p (inU_U p0) w) ?_; rintro e w' ⟨he, hb⟩; exact ⟨he, hb⟩
def rnd_Num_near.f (s_m : Bool) (s_x : Int) (s0 s1 s2 s3 : Int) (s_o : Bool) : Option (Bool × Int × Int × Int × Int × Int × Bool) := if okW s0 s1 s2 s3 = true ∧ -131072 ≤ s_x ∧ s_x ≤ 131072 then (some (s_m, s_x, l0 ((nW s0 s1 s2 s3)), l1 ((nW s0 s1 s2 s3)), l2 ((nW s0 s1 s2 s3)), l3 ((nW s0 s1 s2 s3)), s_o)) else none
def rnd_Num_exact.f (s_m : Bool) (s_x : Int) (s0 s1 s2 s3 : Int) (s_o : Bool) : Option (Bool × Int × Int × Int × Int × Int × Bool) := if okW s0 s1 s2 s3 = true ∧ (nW s0 s1 s2 s3) < 2 ^ 254 ∧ -131072 ≤ s_x ∧ s_x ≤ 131072 then (if s_o = true then some (s_m, s_x - 1, l0 (2 * (nW s0 s1 s2 s3) + 1), l1 (2 * (nW s0 s1 s2 s3) + 1), l2 (2 * (nW s0 s1 s2 s3) + 1), l3 (2 * (nW s0 s1 s2 s3) + 1), false) else some (s_m, s_x, l0 ((nW s0 s1 s2 s3)), l1 ((nW s0 s1 s2 s3)), l2 ((nW s0 s1 s2 s3)), l3 ((nW s0 s1 s2 s3)), false)) else none
def wide_Len.f (a0 a1 a2 a3 : Int) : Option (Int) := if okW a0 a1 a2 a3 = true then (some (blen (nW a0 a1 a2 a3) : Int)) else none
theorem wide_Len.eq {a : Nat} (ha : a < T256)   : wide_Len.f (l0 a) (l1 a) (l2 a) (l3 a) = (some (blen a : Int)) := by
 unfold wide_Len.f
 rw [nW_l ha]; rw [if_pos (okW_l ha)]
set_option maxRecDepth 100000 in
theorem wide_Len.calls (a0 a1 a2 a3 : Int) (r : Int) (w : World) (h : wide_Len.f a0 a1 a2 a3 = some r) :
 Calls Try.prog 62 #[.agg #[.int .u64 a0, .int .u64 a1, .int .u64 a2, .int .u64 a3]] w fun e w' => e = .returned (.int .i64 r) ∧ Below w.heap.size w w' := by
 unfold wide_Len.f at h
 split at h
 case isFalse => exact absurd h (by simp)
 case isTrue hp =>
  have ka := hp; clear hp; obtain ⟨a, ha, rfl, rfl, rfl, rfl⟩ := okW_ex ka
  simp only [nW_l ha] at h 
  simp only [Option.some.injEq] at h
  subst h; refine Calls.mono (wlen a ha w) ?_; rintro e w' ⟨he, hb⟩; exact ⟨he, hb⟩
def wide_Add.f (a0 a1 a2 a3 : Int) (b0 b1 b2 b3 : Int) : Option (Int × Int × Int × Int × Bool) := if okW a0 a1 a2 a3 = true ∧ okW b0 b1 b2 b3 = true then (some (l0 (((nW a0 a1 a2 a3) + (nW b0 b1 b2 b3)) % T256), l1 (((nW a0 a1 a2 a3) + (nW b0 b1 b2 b3)) % T256), l2 (((nW a0 a1 a2 a3) + (nW b0 b1 b2 b3)) % T256), l3 (((nW a0 a1 a2 a3) + (nW b0 b1 b2 b3)) % T256), decide (T256 ≤ (nW a0 a1 a2 a3) + (nW b0 b1 b2 b3)))) else none
theorem wide_Add.eq {a : Nat} (ha : a < T256) {b : Nat} (hb : b < T256)    : wide_Add.f (l0 a) (l1 a) (l2 a) (l3 a) (l0 b) (l1 b) (l2 b) (l3 b) = (some (l0 ((a + b) % T256), l1 ((a + b) % T256), l2 ((a + b) % T256), l3 ((a + b) % T256), decide (T256 ≤ a + b))) := by
 unfold wide_Add.f
 rw [nW_l ha, nW_l hb]; rw [if_pos (⟨okW_l ha, okW_l hb⟩)]
set_option maxRecDepth 100000 in
theorem wide_Add.calls (a0 a1 a2 a3 : Int) (b0 b1 b2 b3 : Int) (r1 : Int) (r2 : Int) (r3 : Int) (r4 : Int) (r5 : Bool) (w : World) (h : wide_Add.f a0 a1 a2 a3 b0 b1 b2 b3 = some (r1, r2, r3, r4, r5)) :
 Calls Try.prog 87 #[.agg #[.int .u64 a0, .int .u64 a1, .int .u64 a2, .int .u64 a3], .agg #[.int .u64 b0, .int .u64 b1, .int .u64 b2, .int .u64 b3]] w fun e w' => e = .returned (.tuple #[.agg #[.int .u64 r1, .int .u64 r2, .int .u64 r3, .int .u64 r4], .bool r5]) ∧ Below w.heap.size w w' := by
 unfold wide_Add.f at h
 split at h
 case isFalse => exact absurd h (by simp)
 case isTrue hp =>
  obtain ⟨ka, kb⟩ := hp; skip; obtain ⟨a, ha, rfl, rfl, rfl, rfl⟩ := okW_ex ka
  simp only [nW_l ha] at h 
  obtain ⟨b, hb, rfl, rfl, rfl, rfl⟩ := okW_ex kb
  simp only [nW_l hb] at h 
  simp only [Option.some.injEq, Prod.mk.injEq] at h
  obtain ⟨rfl, rfl, rfl, rfl, rfl⟩ := h; refine Calls.mono (wadd a b ha hb w) ?_; rintro e w' ⟨n, o, hd, he, hb⟩; obtain ⟨rfl, rfl⟩ := hd.out; exact ⟨he, hb⟩
def wide_Shl.f (a0 a1 a2 a3 : Int) (n : Int) : Option (Int × Int × Int × Int) := if okW a0 a1 a2 a3 = true then (some (l0 ((nW a0 a1 a2 a3) * 2 ^ n.toNat % T256), l1 ((nW a0 a1 a2 a3) * 2 ^ n.toNat % T256), l2 ((nW a0 a1 a2 a3) * 2 ^ n.toNat % T256), l3 ((nW a0 a1 a2 a3) * 2 ^ n.toNat % T256))) else none
theorem wide_Shl.eq {a : Nat} (ha : a < T256)  (n : Int)  : wide_Shl.f (l0 a) (l1 a) (l2 a) (l3 a) n = (some (l0 (a * 2 ^ n.toNat % T256), l1 (a * 2 ^ n.toNat % T256), l2 (a * 2 ^ n.toNat % T256), l3 (a * 2 ^ n.toNat % T256))) := by
 unfold wide_Shl.f
 rw [nW_l ha]; rw [if_pos (okW_l ha)]
set_option maxRecDepth 100000 in
theorem wide_Shl.calls (a0 a1 a2 a3 : Int) (n : Int) (r1 : Int) (r2 : Int) (r3 : Int) (r4 : Int) (w : World) (h : wide_Shl.f a0 a1 a2 a3 n = some (r1, r2, r3, r4)) :
 Calls Try.prog 88 #[.agg #[.int .u64 a0, .int .u64 a1, .int .u64 a2, .int .u64 a3], .int .i64 n] w fun e w' => e = .returned (.agg #[.int .u64 r1, .int .u64 r2, .int .u64 r3, .int .u64 r4]) ∧ Below w.heap.size w w' := by
 unfold wide_Shl.f at h
 split at h
 case isFalse => exact absurd h (by simp)
 case isTrue hp =>
  have ka := hp; clear hp; obtain ⟨a, ha, rfl, rfl, rfl, rfl⟩ := okW_ex ka
  simp only [nW_l ha] at h 
  simp only [Option.some.injEq, Prod.mk.injEq] at h
  obtain ⟨rfl, rfl, rfl, rfl⟩ := h; refine Calls.mono (wshl a ha n w) ?_; rintro e w' ⟨m, hm, he, hb⟩; obtain rfl := hm.out; exact ⟨he, hb⟩
def rnd_Num_cut.f (s_m : Bool) (s_x : Int) (s0 s1 s2 s3 : Int) (s_o : Bool) (n : Int) : Option (Int × Int × Int × Int × Bool × Bool) := if okW s0 s1 s2 s3 = true ∧ s_o = false ∧ -300000 ≤ s_x ∧ s_x ≤ 300000 ∧ -300000 ≤ n ∧ n ≤ 300000 then (some (l0 (cutQ (nW s0 s1 s2 s3) s_x n), l1 (cutQ (nW s0 s1 s2 s3) s_x n), l2 (cutQ (nW s0 s1 s2 s3) s_x n), l3 (cutQ (nW s0 s1 s2 s3) s_x n), cutH (nW s0 s1 s2 s3) s_x n, cutR (nW s0 s1 s2 s3) s_x n)) else none
def rnd_up.f (m : Int) (a : Bool) (b : Bool) (c : Bool) (d : Bool) : Option (Bool) := some (upB m a b c d)
def r3_NaN.f (p : Int) : Option (Bool) := if inU p = true then (some (decide (3 < pC p))) else none
def r3_Finite.f (p : Int) : Option (Bool) := if inU p = true then (some (decide (pC p < 3))) else none
def r3_Take.f (p : Int) : Option (Bool × Int × Int × Int) := if inU p = true then (some (pM p, pC p, pX p, pS p)) else none
def pat_Abs.f (p : Int) : Option (Int) := if inU p = true then (some (pA p)) else none
theorem pat_Abs.eq  (p : Int) (p0 : inU p = true) : pat_Abs.f p = (some (pA p)) := by
 unfold pat_Abs.f
 rw [if_pos (p0)]
set_option maxRecDepth 100000 in
theorem pat_Abs.calls (p : Int) (r : Int) (w : World) (h : pat_Abs.f p = some r) :
 Calls Try.prog 79 #[.int .u64 p] w fun e w' => e = .returned (.int .u64 r) ∧ Below w.heap.size w w' := by
 unfold pat_Abs.f at h
 split at h
 case isFalse => exact absurd h (by simp)
 case isTrue hp =>
  have p0 := hp; clear hp
  simp only [Option.some.injEq] at h
  subst h; refine Calls.mono (p_abs p (inU_U p0) w) ?_; rintro e w' ⟨he, hb⟩; exact ⟨he, hb⟩
def pat_Finite.f (p : Int) : Option (Bool) := if inU p = true then (some (decide (pC p < 3))) else none
theorem pat_Finite.eq  (p : Int) (p0 : inU p = true) : pat_Finite.f p = (some (decide (pC p < 3))) := by
 unfold pat_Finite.f
 rw [if_pos (p0)]
set_option maxRecDepth 100000 in
theorem pat_Finite.calls (p : Int) (r : Bool) (w : World) (h : pat_Finite.f p = some r) :
 Calls Try.prog 47 #[.int .u64 p] w fun e w' => e = .returned (.bool r) ∧ Below w.heap.size w w' := by
 unfold pat_Finite.f at h
 split at h
 case isFalse => exact absurd h (by simp)
 case isTrue hp =>
  have p0 := hp; clear hp
  simp only [Option.some.injEq] at h
  subst h; refine Calls.mono (p_finite p (inU_U p0) w) ?_; rintro e w' ⟨he, hb⟩; exact ⟨he, hb⟩
def wide_Sub.f (a0 a1 a2 a3 : Int) (b0 b1 b2 b3 : Int) : Option (Int × Int × Int × Int × Bool) := if okW a0 a1 a2 a3 = true ∧ okW b0 b1 b2 b3 = true then (some (l0 (((nW a0 a1 a2 a3) + T256 - (nW b0 b1 b2 b3)) % T256), l1 (((nW a0 a1 a2 a3) + T256 - (nW b0 b1 b2 b3)) % T256), l2 (((nW a0 a1 a2 a3) + T256 - (nW b0 b1 b2 b3)) % T256), l3 (((nW a0 a1 a2 a3) + T256 - (nW b0 b1 b2 b3)) % T256), decide ((nW a0 a1 a2 a3) < (nW b0 b1 b2 b3)))) else none
theorem wide_Sub.eq {a : Nat} (ha : a < T256) {b : Nat} (hb : b < T256)    : wide_Sub.f (l0 a) (l1 a) (l2 a) (l3 a) (l0 b) (l1 b) (l2 b) (l3 b) = (some (l0 ((a + T256 - b) % T256), l1 ((a + T256 - b) % T256), l2 ((a + T256 - b) % T256), l3 ((a + T256 - b) % T256), decide (a < b))) := by
 unfold wide_Sub.f
 rw [nW_l ha, nW_l hb]; rw [if_pos (⟨okW_l ha, okW_l hb⟩)]
set_option maxRecDepth 100000 in
theorem wide_Sub.calls (a0 a1 a2 a3 : Int) (b0 b1 b2 b3 : Int) (r1 : Int) (r2 : Int) (r3 : Int) (r4 : Int) (r5 : Bool) (w : World) (h : wide_Sub.f a0 a1 a2 a3 b0 b1 b2 b3 = some (r1, r2, r3, r4, r5)) :
 Calls Try.prog 100 #[.agg #[.int .u64 a0, .int .u64 a1, .int .u64 a2, .int .u64 a3], .agg #[.int .u64 b0, .int .u64 b1, .int .u64 b2, .int .u64 b3]] w fun e w' => e = .returned (.tuple #[.agg #[.int .u64 r1, .int .u64 r2, .int .u64 r3, .int .u64 r4], .bool r5]) ∧ Below w.heap.size w w' := by
 unfold wide_Sub.f at h
 split at h
 case isFalse => exact absurd h (by simp)
 case isTrue hp =>
  obtain ⟨ka, kb⟩ := hp; skip; obtain ⟨a, ha, rfl, rfl, rfl, rfl⟩ := okW_ex ka
  simp only [nW_l ha] at h 
  obtain ⟨b, hb, rfl, rfl, rfl, rfl⟩ := okW_ex kb
  simp only [nW_l hb] at h 
  simp only [Option.some.injEq, Prod.mk.injEq] at h
  obtain ⟨rfl, rfl, rfl, rfl, rfl⟩ := h; refine Calls.mono (wsub a b ha hb w) ?_; rintro e w' ⟨n, o, hd, he, hb⟩; obtain ⟨rfl, rfl⟩ := hd.out; exact ⟨he, hb⟩
def wide_Cmp.f (a0 a1 a2 a3 : Int) (b0 b1 b2 b3 : Int) : Option (Int) := if okW a0 a1 a2 a3 = true ∧ okW b0 b1 b2 b3 = true then (some (cmpI (nW a0 a1 a2 a3) (nW b0 b1 b2 b3))) else none
theorem wide_Cmp.eq {a : Nat} (ha : a < T256) {b : Nat} (hb : b < T256)    : wide_Cmp.f (l0 a) (l1 a) (l2 a) (l3 a) (l0 b) (l1 b) (l2 b) (l3 b) = (some (cmpI a b)) := by
 unfold wide_Cmp.f
 rw [nW_l ha, nW_l hb]; rw [if_pos (⟨okW_l ha, okW_l hb⟩)]
set_option maxRecDepth 100000 in
theorem wide_Cmp.calls (a0 a1 a2 a3 : Int) (b0 b1 b2 b3 : Int) (r : Int) (w : World) (h : wide_Cmp.f a0 a1 a2 a3 b0 b1 b2 b3 = some r) :
 Calls Try.prog 103 #[.agg #[.int .u64 a0, .int .u64 a1, .int .u64 a2, .int .u64 a3], .agg #[.int .u64 b0, .int .u64 b1, .int .u64 b2, .int .u64 b3]] w fun e w' => e = .returned (.int .i64 r) ∧ Below w.heap.size w w' := by
 unfold wide_Cmp.f at h
 split at h
 case isFalse => exact absurd h (by simp)
 case isTrue hp =>
  obtain ⟨ka, kb⟩ := hp; skip; obtain ⟨a, ha, rfl, rfl, rfl, rfl⟩ := okW_ex ka
  simp only [nW_l ha] at h 
  obtain ⟨b, hb, rfl, rfl, rfl, rfl⟩ := okW_ex kb
  simp only [nW_l hb] at h 
  simp only [Option.some.injEq] at h
  subst h; refine Calls.mono (wcmp a b ha hb w) ?_; rintro e w' ⟨he, hb⟩; exact ⟨he, hb⟩
def wide_Shr.f (a0 a1 a2 a3 : Int) (n : Int) : Option (Int × Int × Int × Int × Bool) := if okW a0 a1 a2 a3 = true then (some (l0 ((nW a0 a1 a2 a3) / 2 ^ n.toNat), l1 ((nW a0 a1 a2 a3) / 2 ^ n.toNat), l2 ((nW a0 a1 a2 a3) / 2 ^ n.toNat), l3 ((nW a0 a1 a2 a3) / 2 ^ n.toNat), decide ((nW a0 a1 a2 a3) % 2 ^ n.toNat ≠ 0))) else none
theorem wide_Shr.eq {a : Nat} (ha : a < T256)  (n : Int)  : wide_Shr.f (l0 a) (l1 a) (l2 a) (l3 a) n = (some (l0 (a / 2 ^ n.toNat), l1 (a / 2 ^ n.toNat), l2 (a / 2 ^ n.toNat), l3 (a / 2 ^ n.toNat), decide (a % 2 ^ n.toNat ≠ 0))) := by
 unfold wide_Shr.f
 rw [nW_l ha]; rw [if_pos (okW_l ha)]
set_option maxRecDepth 100000 in
theorem wide_Shr.calls (a0 a1 a2 a3 : Int) (n : Int) (r1 : Int) (r2 : Int) (r3 : Int) (r4 : Int) (r5 : Bool) (w : World) (h : wide_Shr.f a0 a1 a2 a3 n = some (r1, r2, r3, r4, r5)) :
 Calls Try.prog 65 #[.agg #[.int .u64 a0, .int .u64 a1, .int .u64 a2, .int .u64 a3], .int .i64 n] w fun e w' => e = .returned (.tuple #[.agg #[.int .u64 r1, .int .u64 r2, .int .u64 r3, .int .u64 r4], .bool r5]) ∧ Below w.heap.size w w' := by
 unfold wide_Shr.f at h
 split at h
 case isFalse => exact absurd h (by simp)
 case isTrue hp =>
  have ka := hp; clear hp; obtain ⟨a, ha, rfl, rfl, rfl, rfl⟩ := okW_ex ka
  simp only [nW_l ha] at h 
  simp only [Option.some.injEq, Prod.mk.injEq] at h
  obtain ⟨rfl, rfl, rfl, rfl, rfl⟩ := h; refine Calls.mono (wshr a ha n w) ?_; rintro e w' ⟨m, o, hd, he, hb⟩; obtain ⟨rfl, rfl⟩ := hd.out; exact ⟨he, hb⟩
def wide_Mul.f (a0 a1 a2 a3 : Int) (b0 b1 b2 b3 : Int) : Option (Int × Int × Int × Int × Int × Int × Int × Int) := if okW a0 a1 a2 a3 = true ∧ okW b0 b1 b2 b3 = true ∧ (nW a0 a1 a2 a3) < 18446744073709551616 ∧ (nW b0 b1 b2 b3) < 18446744073709551616 then (some (l0 ((nW a0 a1 a2 a3) * (nW b0 b1 b2 b3)), l1 ((nW a0 a1 a2 a3) * (nW b0 b1 b2 b3)), l2 ((nW a0 a1 a2 a3) * (nW b0 b1 b2 b3)), l3 ((nW a0 a1 a2 a3) * (nW b0 b1 b2 b3)), l0 (0), l1 (0), l2 (0), l3 (0))) else none
theorem wide_Mul.eq {a : Nat} (ha : a < T256) {b : Nat} (hb : b < T256)   (p0 : a < 18446744073709551616) (p1 : b < 18446744073709551616) : wide_Mul.f (l0 a) (l1 a) (l2 a) (l3 a) (l0 b) (l1 b) (l2 b) (l3 b) = (some (l0 (a * b), l1 (a * b), l2 (a * b), l3 (a * b), l0 (0), l1 (0), l2 (0), l3 (0))) := by
 unfold wide_Mul.f
 rw [nW_l ha, nW_l hb]; rw [if_pos (⟨okW_l ha, okW_l hb, p0, p1⟩)]
set_option maxRecDepth 100000 in
theorem wide_Mul.calls (a0 a1 a2 a3 : Int) (b0 b1 b2 b3 : Int) (r1 : Int) (r2 : Int) (r3 : Int) (r4 : Int) (r5 : Int) (r6 : Int) (r7 : Int) (r8 : Int) (w : World) (h : wide_Mul.f a0 a1 a2 a3 b0 b1 b2 b3 = some (r1, r2, r3, r4, r5, r6, r7, r8)) :
 Calls Try.prog 85 #[.agg #[.int .u64 a0, .int .u64 a1, .int .u64 a2, .int .u64 a3], .agg #[.int .u64 b0, .int .u64 b1, .int .u64 b2, .int .u64 b3]] w fun e w' => e = .returned (.tuple #[.agg #[.int .u64 r1, .int .u64 r2, .int .u64 r3, .int .u64 r4], .agg #[.int .u64 r5, .int .u64 r6, .int .u64 r7, .int .u64 r8]]) ∧ Below w.heap.size w w' := by
 unfold wide_Mul.f at h
 split at h
 case isFalse => exact absurd h (by simp)
 case isTrue hp =>
  obtain ⟨ka, kb, p0, p1⟩ := hp; skip; obtain ⟨a, ha, rfl, rfl, rfl, rfl⟩ := okW_ex ka
  simp only [nW_l ha] at h p0
  obtain ⟨b, hb, rfl, rfl, rfl, rfl⟩ := okW_ex kb
  simp only [nW_l hb] at h p1
  simp only [Option.some.injEq, Prod.mk.injEq] at h
  obtain ⟨rfl, rfl, rfl, rfl, rfl, rfl, rfl, rfl⟩ := h; refine Calls.mono (wmul a b p0 p1 w) ?_; rintro e w' ⟨he, hb⟩; exact ⟨he, hb⟩
def r3_Abs.f (p : Int) : Option (Int) := if inU p = true then (some (pA p)) else none
end Go.Proofs.Ytbgefpeicmbgiaa.X
end
section
namespace Go.Proofs.Ytbgefpeicmbgiaa.X
open Go.RowKit Go.Proofs.YtbgefpeicmbgiaaW.PrintWords Go.Proofs.YtbgefpeicmbgiaaW.PrintLast Go.Proofs.YtbgefpeicmbgiaaW.PrintMore
attribute [local go_sem] max2_int min2_int max_two min_two max_three min_three max_four min_four   
set_option linter.unusedVariables false
set_option linter.unusedSimpArgs false
def prod_loud.l0 : Nat → List Int → Int → Int → Option (Int)
 | 0, _, _, _ => none
 | k + 1, x5, x6, x7 => if x7 < x6 then (if 0 ≤ x7 then (if x7 < (x5.length : Int) then ((pat_Class.f (rd x5 x7)).bind fun q1 => (if q1 = 5 then (some 1) else (prod_loud.l0 k x5 x6 (wrap64 (x7 + 1))))) else (none)) else (none)) else (some 0)
def prod_loud.f (k : Nat) (l0 : List Int) : Option (Int) := prod_loud.l0 k l0 (l0.length : Int) 0
theorem prod_loud.mono_l : ∀ k, (∀ y0 y1 y2, LeO (prod_loud.l0 k y0 y1 y2) (prod_loud.l0 (k + 1) y0 y1 y2))
 | 0 => fun _ _ _ r h => by simp [prod_loud.l0] at h
 | k + 1 => by
  have ih0 := prod_loud.mono_l k
  · intro y0 y1 y2
    unfold prod_loud.l0
    repeat' first
    | (with_reducible exact ih0 _ _ _)
    | (with_reducible exact LeO.refl _)
    | (with_reducible exact LeO.none _)
    | (with_reducible refine LeO.ite ?_ ?_)
    | (with_reducible refine LeO.bind ?_ (fun _ => ?_))
    | exact ih0 _ _ _
    | exact LeO.none _
    | refine LeO.ite ?_ ?_
    | refine LeO.bind ?_ (fun _ => ?_)
theorem prod_loud.mono : ∀ a0 k, LeO (prod_loud.f k a0) (prod_loud.f (k + 1) a0) := by
 intro a0 k; have ih0 := prod_loud.mono_l k
 unfold prod_loud.f
 repeat' first
  | (with_reducible exact ih0 _ _ _)
  | (with_reducible exact LeO.refl _)
  | (with_reducible exact LeO.none _)
  | (with_reducible refine LeO.ite ?_ ?_)
  | (with_reducible refine LeO.bind ?_ (fun _ => ?_))
  | exact ih0 _ _ _
  | exact LeO.none _
  | refine LeO.ite ?_ ?_
  | refine LeO.bind ?_ (fun _ => ?_)
set_option maxHeartbeats 8000000 in
set_option maxRecDepth 100000 in
theorem prod_loud.calls (k : Nat) (A0 : Option Addr) (c0 : Nat) (l0 : List Int) (r : Int) (w : World) (hr0 : Kd.C (Kd.int .u64) w A0 l0.length l0) (hc0 : l0.length ≤ c0) (h : prod_loud.f k l0 = some r) :
 Calls Try.prog 46 #[.slice A0 l0.length c0] w fun e w' => e = .returned (.int .u8 r) ∧ Below w.heap.size w w' := by
 have HR0 := Aside0.mk hr0; have HC0 := Aside0.mk hc0; clear hr0 hc0; have HB := Aside0.mk (Below.refl w.heap.size w); have H : (prod_loud.l0 k l0 (l0.length : Int) 0) = some r := h; clear h; have H' := Aside0.mk H; clear H
 go_enter Try.func46, Try.ntmps46
 go_wp2
 go_loopg [7] k (fun kq v7 w' => ∃ (q0 : Int), v7 = .int .i64 q0 ∧ Aside0 (prod_loud.l0 kq l0 (l0.length : Int) q0 = some r) ∧ Aside0 (kq ≤ k) ∧ Aside0 (Below w.heap.size w w'))
 case atStart => exact ⟨(0), RSq, (by first | exact H' | (subst_vars; exact H')), ⟨Nat.le_refl _⟩, ⟨kH HB⟩⟩
 case round =>
  clear H'; obtain ⟨q0, rfl, HA, HK1, HB⟩ := hrel
  cases gk with
  | zero => exact absurd HA.out (by simp [prod_loud.l0])
  | succ k1 =>
   have H := HA.out; clear HA
   simp only [prod_loud.l0] at H
   by_cases c2 : q0 < (l0.length : Int)
   · rw [if_pos c2] at H
     have q3 : decide (q0 < (l0.length : Int)) = true := decide_eq_true c2; clear c2
     by_cases c3 : 0 ≤ q0
     · rw [if_pos c3] at H
       have c3b0 : decide (0 ≤ q0) = true := decide_eq_true c3; clear c3
       by_cases c4 : q0 < (l0.length : Int)
       · rw [if_pos c4] at H
         have c4b0 : decide (q0 < (l0.length : Int)) = true := decide_eq_true c4; clear c4; replace H := Option.bind_eq_some_iff.mp H; obtain ⟨q1, A50, H⟩ := H; replace H : (if q1 = 5 then (some 1) else (prod_loud.l0 k1 l0 (l0.length : Int) (wrap64 (q0 + 1)))) = some r := H; have A5 := Aside0.mk A50; clear A50
         by_cases c6 : q1 = 5
         · rw [if_pos c6] at H
           have q4 : (q1 == 5) = true := beq_iff_eq.mpr c6; have q5 : (q1 != 5) = false := bne_eq_false_iff_eq.mpr c6; clear c6; obtain rfl := Option.some.inj H; have p444 : 0 ≤ (q0 : Int) := of_decide_eq_true ASq; have q444 : q0 < (l0.length : Int) := of_decide_eq_true ASq; obtain ⟨ad444, e444, q2⟩ := Kd.at_int HR0.out q0 p444 q444
           cases e444
           replace q2 := (HB.out.cell (World.block_lt_of_cell? w _ q2)).trans q2; replace p444 := eq_true p444; replace q444 := eq_true q444
           go_wp2_with (first | ((with_reducible refine gate_callee (f := 80) rfl ?_); refine goesL_ (some 12) rfl rfl Try.func80 (by kernel_rfl) rfl #[.int .u64 (rd l0 q0)] rfl LMq ?_; (with_reducible refine (pat_Class.calls (rd l0 q0) q1 _ A5.out).mono ?_); rintro e w7 ⟨rfl, hb⟩; refine ⟨_, rfl, ?_⟩; replace HB := Aside0.mk (below_step (kH HB) hb); (try clear hb); (try clear hb2); (try clear hk); (try clear hi)))
           go_ret
           exact ⟨by first | rfl | (simp [errW_none, errW_some] <;> rfl) | (simp [*, errW_none, errW_some] <;> rfl), kH HB⟩
         rw [if_neg c6] at H
         have q4 : (q1 == 5) = false := beq_eq_false_iff_ne.mpr c6; have q5 : (q1 != 5) = true := bne_iff_ne.mpr c6; have H' := Aside0.mk H; clear H; have p444 : 0 ≤ (q0 : Int) := of_decide_eq_true ASq; have q444 : q0 < (l0.length : Int) := of_decide_eq_true ASq; obtain ⟨ad444, e444, q2⟩ := Kd.at_int HR0.out q0 p444 q444
         cases e444
         replace q2 := (HB.out.cell (World.block_lt_of_cell? w _ q2)).trans q2; replace p444 := eq_true p444; replace q444 := eq_true q444
         go_wp2_with (first | ((with_reducible refine gate_callee (f := 80) rfl ?_); refine goesL_ (some 12) rfl rfl Try.func80 (by kernel_rfl) rfl #[.int .u64 (rd l0 q0)] rfl LMq ?_; (with_reducible refine (pat_Class.calls (rd l0 q0) q1 _ A5.out).mono ?_); rintro e w8 ⟨rfl, hb⟩; refine ⟨_, rfl, ?_⟩; replace HB := Aside0.mk (below_step (kH HB) hb); (try clear hb); (try clear hb2); (try clear hk); (try clear hi)))
         go_roundg k1
         case measure => have := HK1.out; omega
         case rel => exact ⟨(wrap64 (q0 + 1)), RSq, (by first | exact H' | (subst_vars; exact H')), ⟨by have := HK1.out; omega⟩, ⟨kH HB⟩⟩
       rw [if_neg c4] at H
       exact absurd H (by simp)
     rw [if_neg c3] at H
     exact absurd H (by simp)
   rw [if_neg c2] at H
   have q3 : decide (q0 < (l0.length : Int)) = false := decide_eq_false c2; clear c2; obtain rfl := Option.some.inj H
   go_wp2
   go_ret
   exact ⟨by first | rfl | (simp [errW_none, errW_some] <;> rfl) | (simp [*, errW_none, errW_some] <;> rfl), kH HB⟩
end Go.Proofs.Ytbgefpeicmbgiaa.X
end
section
namespace Go.Proofs.Ytbgefpeicmbgiaa.X
open Go.RowKit Go.Proofs.YtbgefpeicmbgiaaW.PrintWords Go.Proofs.YtbgefpeicmbgiaaW.PrintLast Go.Proofs.YtbgefpeicmbgiaaW.PrintMore
attribute [local go_sem] max2_int min2_int max_two min_two max_three min_three max_four min_four   
set_option linter.unusedVariables false
set_option linter.unusedSimpArgs false
def prod_nothing.f (a0 : Int) (a1 : Int) : Option (Bool) := (pat_Abs.f a0).bind fun q0 => ((pat_Abs.f a1).bind fun q1 => (if q0 = 0 then (if q1 = 9218868437227405312 then (some true) else (if q0 = 9218868437227405312 then (some (q1 == 0)) else (some false))) else (if q0 = 9218868437227405312 then (some (q1 == 0)) else (some false))))
set_option maxHeartbeats 8000000 in
set_option maxRecDepth 100000 in
theorem prod_nothing.calls (a0 : Int) (a1 : Int) (r : Bool) (w : World) (h : prod_nothing.f a0 a1 = some r) :
 Calls Try.prog 44 #[.int .u64 a0, .int .u64 a1] w fun e w' => e = .returned (.bool r) ∧ Below w.heap.size w w' := by
 have HB := Aside0.mk (Below.refl w.heap.size w); have H : ((pat_Abs.f a0).bind fun q0 => ((pat_Abs.f a1).bind fun q1 => (if q0 = 0 then (if q1 = 9218868437227405312 then (some true) else (if q0 = 9218868437227405312 then (some (q1 == 0)) else (some false))) else (if q0 = 9218868437227405312 then (some (q1 == 0)) else (some false))))) = some r := h; clear h; replace H := Option.bind_eq_some_iff.mp H; obtain ⟨q0, A30, H⟩ := H; replace H : ((pat_Abs.f a1).bind fun q1 => (if q0 = 0 then (if q1 = 9218868437227405312 then (some true) else (if q0 = 9218868437227405312 then (some (q1 == 0)) else (some false))) else (if q0 = 9218868437227405312 then (some (q1 == 0)) else (some false)))) = some r := H; have A3 := Aside0.mk A30; clear A30; replace H := Option.bind_eq_some_iff.mp H; obtain ⟨q1, A40, H⟩ := H; replace H : (if q0 = 0 then (if q1 = 9218868437227405312 then (some true) else (if q0 = 9218868437227405312 then (some (q1 == 0)) else (some false))) else (if q0 = 9218868437227405312 then (some (q1 == 0)) else (some false))) = some r := H; have A4 := Aside0.mk A40; clear A40
 by_cases c5 : q0 = 0
 · rw [if_pos c5] at H
   have q2 : (q0 == 0) = true := beq_iff_eq.mpr c5; have q3 : (q0 != 0) = false := bne_eq_false_iff_eq.mpr c5; clear c5
   by_cases c6 : q1 = 9218868437227405312
   · rw [if_pos c6] at H
     have q4 : (q1 == 9218868437227405312) = true := beq_iff_eq.mpr c6; have q5 : (q1 != 9218868437227405312) = false := bne_eq_false_iff_eq.mpr c6; clear c6; obtain rfl := Option.some.inj H
     go_enter Try.func44, Try.ntmps44
     go_wp2_with (first | ((with_reducible refine gate_callee (f := 79) rfl ?_); refine goesL_ (some 8) rfl rfl Try.func79 (by kernel_rfl) rfl #[.int .u64 a0] rfl LMq ?_; (with_reducible refine (pat_Abs.calls a0 q0 _ A3.out).mono ?_); rintro e w7 ⟨rfl, hb⟩; refine ⟨_, rfl, ?_⟩; replace HB := Aside0.mk (below_step (kH HB) hb); (try clear hb); (try clear hb2); (try clear hk); (try clear hi)) | ((with_reducible refine gate_callee (f := 79) rfl ?_); refine goesL_ (some 10) rfl rfl Try.func79 (by kernel_rfl) rfl #[.int .u64 a1] rfl LMq ?_; (with_reducible refine (pat_Abs.calls a1 q1 _ A4.out).mono ?_); rintro e w8 ⟨rfl, hb⟩; refine ⟨_, rfl, ?_⟩; replace HB := Aside0.mk (below_step (kH HB) hb); (try clear hb); (try clear hb2); (try clear hk); (try clear hi)))
     go_ret
     exact ⟨by first | rfl | (simp [errW_none, errW_some] <;> rfl) | (simp [*, errW_none, errW_some] <;> rfl), kH HB⟩
   rw [if_neg c6] at H
   have q4 : (q1 == 9218868437227405312) = false := beq_eq_false_iff_ne.mpr c6; have q5 : (q1 != 9218868437227405312) = true := bne_iff_ne.mpr c6
   by_cases c9 : q0 = 9218868437227405312
   · rw [if_pos c9] at H
     have q6 : (q0 == 9218868437227405312) = true := beq_iff_eq.mpr c9; have q7 : (q0 != 9218868437227405312) = false := bne_eq_false_iff_eq.mpr c9; clear c9; obtain rfl := Option.some.inj H
     go_enter Try.func44, Try.ntmps44
     go_wp2_with (first | ((with_reducible refine gate_callee (f := 79) rfl ?_); refine goesL_ (some 8) rfl rfl Try.func79 (by kernel_rfl) rfl #[.int .u64 a0] rfl LMq ?_; (with_reducible refine (pat_Abs.calls a0 q0 _ A3.out).mono ?_); rintro e w10 ⟨rfl, hb⟩; refine ⟨_, rfl, ?_⟩; replace HB := Aside0.mk (below_step (kH HB) hb); (try clear hb); (try clear hb2); (try clear hk); (try clear hi)) | ((with_reducible refine gate_callee (f := 79) rfl ?_); refine goesL_ (some 10) rfl rfl Try.func79 (by kernel_rfl) rfl #[.int .u64 a1] rfl LMq ?_; (with_reducible refine (pat_Abs.calls a1 q1 _ A4.out).mono ?_); rintro e w11 ⟨rfl, hb⟩; refine ⟨_, rfl, ?_⟩; replace HB := Aside0.mk (below_step (kH HB) hb); (try clear hb); (try clear hb2); (try clear hk); (try clear hi)))
     go_ret
     exact ⟨by first | rfl | (simp [errW_none, errW_some] <;> rfl) | (simp [*, errW_none, errW_some] <;> rfl), kH HB⟩
   rw [if_neg c9] at H
   have q6 : (q0 == 9218868437227405312) = false := beq_eq_false_iff_ne.mpr c9; have q7 : (q0 != 9218868437227405312) = true := bne_iff_ne.mpr c9; obtain rfl := Option.some.inj H
   go_enter Try.func44, Try.ntmps44
   go_wp2_with (first | ((with_reducible refine gate_callee (f := 79) rfl ?_); refine goesL_ (some 8) rfl rfl Try.func79 (by kernel_rfl) rfl #[.int .u64 a0] rfl LMq ?_; (with_reducible refine (pat_Abs.calls a0 q0 _ A3.out).mono ?_); rintro e w12 ⟨rfl, hb⟩; refine ⟨_, rfl, ?_⟩; replace HB := Aside0.mk (below_step (kH HB) hb); (try clear hb); (try clear hb2); (try clear hk); (try clear hi)) | ((with_reducible refine gate_callee (f := 79) rfl ?_); refine goesL_ (some 10) rfl rfl Try.func79 (by kernel_rfl) rfl #[.int .u64 a1] rfl LMq ?_; (with_reducible refine (pat_Abs.calls a1 q1 _ A4.out).mono ?_); rintro e w13 ⟨rfl, hb⟩; refine ⟨_, rfl, ?_⟩; replace HB := Aside0.mk (below_step (kH HB) hb); (try clear hb); (try clear hb2); (try clear hk); (try clear hi)))
   go_ret
   exact ⟨by first | rfl | (simp [errW_none, errW_some] <;> rfl) | (simp [*, errW_none, errW_some] <;> rfl), kH HB⟩
 rw [if_neg c5] at H
 have q2 : (q0 == 0) = false := beq_eq_false_iff_ne.mpr c5; have q3 : (q0 != 0) = true := bne_iff_ne.mpr c5
 by_cases c14 : q0 = 9218868437227405312
 · rw [if_pos c14] at H
   have q8 : (q0 == 9218868437227405312) = true := beq_iff_eq.mpr c14; have q9 : (q0 != 9218868437227405312) = false := bne_eq_false_iff_eq.mpr c14; clear c14; obtain rfl := Option.some.inj H
   go_enter Try.func44, Try.ntmps44
   go_wp2_with (first | ((with_reducible refine gate_callee (f := 79) rfl ?_); refine goesL_ (some 8) rfl rfl Try.func79 (by kernel_rfl) rfl #[.int .u64 a0] rfl LMq ?_; (with_reducible refine (pat_Abs.calls a0 q0 _ A3.out).mono ?_); rintro e w15 ⟨rfl, hb⟩; refine ⟨_, rfl, ?_⟩; replace HB := Aside0.mk (below_step (kH HB) hb); (try clear hb); (try clear hb2); (try clear hk); (try clear hi)) | ((with_reducible refine gate_callee (f := 79) rfl ?_); refine goesL_ (some 10) rfl rfl Try.func79 (by kernel_rfl) rfl #[.int .u64 a1] rfl LMq ?_; (with_reducible refine (pat_Abs.calls a1 q1 _ A4.out).mono ?_); rintro e w16 ⟨rfl, hb⟩; refine ⟨_, rfl, ?_⟩; replace HB := Aside0.mk (below_step (kH HB) hb); (try clear hb); (try clear hb2); (try clear hk); (try clear hi)))
   go_ret
   exact ⟨by first | rfl | (simp [errW_none, errW_some] <;> rfl) | (simp [*, errW_none, errW_some] <;> rfl), kH HB⟩
 rw [if_neg c14] at H
 have q8 : (q0 == 9218868437227405312) = false := beq_eq_false_iff_ne.mpr c14; have q9 : (q0 != 9218868437227405312) = true := bne_iff_ne.mpr c14; obtain rfl := Option.some.inj H
 go_enter Try.func44, Try.ntmps44
 go_wp2_with (first | ((with_reducible refine gate_callee (f := 79) rfl ?_); refine goesL_ (some 8) rfl rfl Try.func79 (by kernel_rfl) rfl #[.int .u64 a0] rfl LMq ?_; (with_reducible refine (pat_Abs.calls a0 q0 _ A3.out).mono ?_); rintro e w17 ⟨rfl, hb⟩; refine ⟨_, rfl, ?_⟩; replace HB := Aside0.mk (below_step (kH HB) hb); (try clear hb); (try clear hb2); (try clear hk); (try clear hi)) | ((with_reducible refine gate_callee (f := 79) rfl ?_); refine goesL_ (some 10) rfl rfl Try.func79 (by kernel_rfl) rfl #[.int .u64 a1] rfl LMq ?_; (with_reducible refine (pat_Abs.calls a1 q1 _ A4.out).mono ?_); rintro e w18 ⟨rfl, hb⟩; refine ⟨_, rfl, ?_⟩; replace HB := Aside0.mk (below_step (kH HB) hb); (try clear hb); (try clear hb2); (try clear hk); (try clear hi)))
 go_ret
 exact ⟨by first | rfl | (simp [errW_none, errW_some] <;> rfl) | (simp [*, errW_none, errW_some] <;> rfl), kH HB⟩
end Go.Proofs.Ytbgefpeicmbgiaa.X
end
section
namespace Go.Proofs.Ytbgefpeicmbgiaa.X
open Go.RowKit Go.Proofs.YtbgefpeicmbgiaaW.PrintWords Go.Proofs.YtbgefpeicmbgiaaW.PrintLast Go.Proofs.YtbgefpeicmbgiaaW.PrintMore
attribute [local go_sem] max2_int min2_int max_two min_two max_three min_three max_four min_four   
set_option linter.unusedVariables false
set_option linter.unusedSimpArgs false
def prod_sign.f (a0 : Int) (a1 : Int) : Option (Int) := some (Go.bits .and .u64 (Go.bits .xor .u64 a0 a1) 9223372036854775808)
set_option maxHeartbeats 8000000 in
set_option maxRecDepth 100000 in
theorem prod_sign.calls (a0 : Int) (a1 : Int) (r : Int) (w : World) (h : prod_sign.f a0 a1 = some r) :
 Calls Try.prog 43 #[.int .u64 a0, .int .u64 a1] w fun e w' => e = .returned (.int .u64 r) ∧ Drawn0 w w' := by
 have H : (some (Go.bits .and .u64 (Go.bits .xor .u64 a0 a1) 9223372036854775808)) = some r := h; clear h; obtain rfl := Option.some.inj H
 go_enter Try.func43, Try.ntmps43
 go_wp2
 go_ret
 exact ⟨by first | rfl | (simp; done) | (simp [*]; done) | (simp [wrap64]; done), by repeat (first | exact Drawn0.refl _ | apply Drawn0.step)⟩
end Go.Proofs.Ytbgefpeicmbgiaa.X
end
section
namespace Go.Proofs.Ytbgefpeicmbgiaa.X
open Go.RowKit Go.Proofs.YtbgefpeicmbgiaaW.PrintWords Go.Proofs.YtbgefpeicmbgiaaW.PrintLast Go.Proofs.YtbgefpeicmbgiaaW.PrintMore
attribute [local go_sem] max2_int min2_int max_two min_two max_three min_three max_four min_four   
set_option linter.unusedVariables false
set_option linter.unusedSimpArgs false
set_option linter.unusedSimpArgs false in
theorem eqA58 (d : Nat) (w : World) (x0 y0 : Int) (x1 y1 : Int) (x2 y2 : Int) (x3 y3 : Int) :
 (Op.equalIn (d + 2) 58 (.agg #[.int .u64 x0, .int .u64 x1, .int .u64 x2, .int .u64 x3]) (.agg #[.int .u64 y0, .int .u64 y1, .int .u64 y2, .int .u64 y3])).run Try.prog w = .ok (x0 == y0 && (x1 == y1 && (x2 == y2 && (x3 == y3)))) w := by
 have hs : ∀ w, (sizeOf 22).run Try.prog w = .ok 1 w := fun w => by kernel_rfl
 have h1 : ∀ (x y : Int) w, (Op.equalIn (d + 1) 22 (.int .u64 x) (.int .u64 y)).run Try.prog w = .ok (x == y) w := fun x y w => run_equalIn_int w d 22 .u64 .u64 x y Try.underlying22
 have p0 : ∀ (x0 x1 x2 x3 : Int) (w : World), (part 22 #[.int .u64 x0, .int .u64 x1, .int .u64 x2, .int .u64 x3] 0).run Try.prog w = .ok (.int .u64 x0) w := fun _ _ _ _  w => by kernel_rfl
 have p1 : ∀ (x0 x1 x2 x3 : Int) (w : World), (part 22 #[.int .u64 x0, .int .u64 x1, .int .u64 x2, .int .u64 x3] 1).run Try.prog w = .ok (.int .u64 x1) w := fun _ _ _ _  w => by kernel_rfl
 have p2 : ∀ (x0 x1 x2 x3 : Int) (w : World), (part 22 #[.int .u64 x0, .int .u64 x1, .int .u64 x2, .int .u64 x3] 2).run Try.prog w = .ok (.int .u64 x2) w := fun _ _ _ _  w => by kernel_rfl
 have p3 : ∀ (x0 x1 x2 x3 : Int) (w : World), (part 22 #[.int .u64 x0, .int .u64 x1, .int .u64 x2, .int .u64 x3] 3).run Try.prog w = .ok (.int .u64 x3) w := fun _ _ _ _  w => by kernel_rfl
 have hr : List.range' 0 4 1 = [0, 1, 2, 3] := rfl
 unfold Op.equalIn
 simp only [Sem.run_bind, run_underlying Try.underlying58, Result.andThen_ok, hs, Std.Legacy.Range.forIn_eq_forIn_range', Std.Legacy.Range.size, List.forIn_cons, List.forIn_nil, hr, Nat.sub_zero, Nat.add_sub_cancel, Nat.div_one, Nat.mul_one, Nat.zero_mul, p0, p1, p2, p3, h1, Sem.run_ite, Sem.run_pure]
 cases hx0 : (x0 == y0) <;> simp only [Result.andThen_ok, Bool.not_true, Bool.not_false, Bool.false_eq_true, if_true, if_false, Sem.run_pure, Bool.false_and, Bool.true_and, Sem.run_bind, p0, p1, p2, p3, h1, Sem.run_ite]
 cases hx1 : (x1 == y1) <;> simp only [Result.andThen_ok, Bool.not_true, Bool.not_false, Bool.false_eq_true, if_true, if_false, Sem.run_pure, Bool.false_and, Bool.true_and, Sem.run_bind, p0, p1, p2, p3, h1, Sem.run_ite]
 cases hx2 : (x2 == y2) <;> simp only [Result.andThen_ok, Bool.not_true, Bool.not_false, Bool.false_eq_true, if_true, if_false, Sem.run_pure, Bool.false_and, Bool.true_and, Sem.run_bind, p0, p1, p2, p3, h1, Sem.run_ite]
 cases hx3 : (x3 == y3) <;> simp only [Result.andThen_ok, Bool.not_true, Bool.not_false, Bool.false_eq_true, if_true, if_false, Sem.run_pure, Bool.false_and, Bool.true_and, Sem.run_bind, p0, p1, p2, p3, h1, Sem.run_ite]
end Go.Proofs.Ytbgefpeicmbgiaa.X
end
section
namespace Go.Proofs.Ytbgefpeicmbgiaa.X
open Go.RowKit Go.Proofs.YtbgefpeicmbgiaaW.PrintWords Go.Proofs.YtbgefpeicmbgiaaW.PrintLast Go.Proofs.YtbgefpeicmbgiaaW.PrintMore
attribute [local go_sem] max2_int min2_int max_two min_two max_three min_three max_four min_four   
set_option linter.unusedVariables false
set_option linter.unusedSimpArgs false
def sums_nought.f (a0 : Bool) (a1 : Bool) (a2 : Int) : Option (Bool × Int × Int × Int × Int × Int × Bool) := if (a0 == a1) = true then (some (a0, 0, 0, 0, 0, 0, false)) else (some ((a2 == 4), 0, 0, 0, 0, 0, false))
set_option maxHeartbeats 8000000 in
set_option maxRecDepth 100000 in
theorem sums_nought.calls (a0 : Bool) (a1 : Bool) (a2 : Int) (r1 : Bool) (r2 : Int) (r3 : Int) (r4 : Int) (r5 : Int) (r6 : Int) (r7 : Bool) (w : World) (h : sums_nought.f a0 a1 a2 = some (r1, r2, r3, r4, r5, r6, r7)) :
 Calls Try.prog 94 #[.bool a0, .bool a1, .int .i64 a2] w fun e w' => e = .returned (.agg #[.bool r1, .int .i64 r2, .int .u64 r3, .int .u64 r4, .int .u64 r5, .int .u64 r6, .bool r7]) ∧ Below w.heap.size w w' := by
 have hu61 := Try.underlying61; have HB := Aside0.mk (Below.refl w.heap.size w); have H : (if (a0 == a1) = true then (some (a0, 0, 0, 0, 0, 0, false)) else (some ((a2 == 4), 0, 0, 0, 0, 0, false))) = some (r1, r2, r3, r4, r5, r6, r7) := h; clear h
 by_cases c4 : (a0 == a1) = true
 · rw [if_pos c4] at H
   have q3 : (a0 == a1) = true := c4
   (try (have q4 : decide (a0 = a1) = true := by simpa using c4))
   (try (have q5 : (a0 == a1) = true := by simpa using c4))
   clear c4
   simp only [Option.some.injEq, Prod.mk.injEq] at H
   obtain ⟨rfl, rfl, rfl, rfl, rfl, rfl, rfl⟩ := H
   go_enter Try.func94, Try.ntmps94
   go_wp2_with (first | ((with_reducible refine gate_dst (N := 6) rfl ?_); refine box_event ?hg (N := 6) ?hd (cs := #[.bool false, .int .i64 0, .int .u64 0, .int .u64 0, .int .u64 0, .int .u64 0, .bool false]) (t := 61) ?hr ?_; (case hd => rfl); (case hg => rfl); (case hr => first | (go_simp; done) | (go_simp; rfl)); intro q0 hg w5 hbox hb; have q1 := Aside0.mk (hbox); have q6 := Aside0.mk ((by rw [hg]; exact (below_size (kH HB)) : w.heap.size ≤ q0)); have q2 := Aside0.mk ((by rw [hg]; exact (below_size (kH HB)) : w.heap.size ≤ q0)); replace HB := Aside0.mk (below_step (kH HB) hb); clear hb hbox hg; obtain ⟨_, _, _, _, _, _, _, _, _, _, _, _, _, _⟩ := W7q q1))
   refine bodyPost_ret (results_cell_row rfl _ _ q0 61 #[.bool a0, .int .i64 0, .int .u64 0, .int .u64 0, .int .u64 0, .int .u64 0, .bool false] (0, 0) _ rfl (kF q1) Try.underlying61 rfl (by kernel_rfl)) rfl ?_; exact ⟨by first | rfl | (simp [errW_none, errW_some] <;> rfl) | (simp [*, errW_none, errW_some] <;> rfl), kHs HB q2⟩
 rw [if_neg c4] at H
 have q3 : (a0 == a1) = false := by simpa using c4
 (try (have q4 : decide (a0 = a1) = false := by simpa using c4))
 (try (have q5 : (a0 == a1) = false := by simpa using c4))
 (try (have c4b3 : ¬ (a0 = a1) := by simpa using c4))
 clear c4
 simp only [Option.some.injEq, Prod.mk.injEq] at H
 obtain ⟨rfl, rfl, rfl, rfl, rfl, rfl, rfl⟩ := H
 go_enter Try.func94, Try.ntmps94
 go_wp2_with (first | ((with_reducible refine gate_dst (N := 6) rfl ?_); refine box_event ?hg (N := 6) ?hd (cs := #[.bool false, .int .i64 0, .int .u64 0, .int .u64 0, .int .u64 0, .int .u64 0, .bool false]) (t := 61) ?hr ?_; (case hd => rfl); (case hg => rfl); (case hr => first | (go_simp; done) | (go_simp; rfl)); intro q0 hg w7 hbox hb; have q1 := Aside0.mk (hbox); have q6 := Aside0.mk ((by rw [hg]; exact (below_size (kH HB)) : w.heap.size ≤ q0)); have q2 := Aside0.mk ((by rw [hg]; exact (below_size (kH HB)) : w.heap.size ≤ q0)); replace HB := Aside0.mk (below_step (kH HB) hb); clear hb hbox hg; obtain ⟨_, _, _, _, _, _, _, _, _, _, _, _, _, _⟩ := W7q q1))
 refine bodyPost_ret (results_cell_row rfl _ _ q0 61 #[.bool (a2 == 4), .int .i64 0, .int .u64 0, .int .u64 0, .int .u64 0, .int .u64 0, .bool false] (0, 0) _ rfl (kF q1) Try.underlying61 rfl (by kernel_rfl)) rfl ?_; exact ⟨by first | rfl | (simp [errW_none, errW_some] <;> rfl) | (simp [*, errW_none, errW_some] <;> rfl), kHs HB q2⟩
end Go.Proofs.Ytbgefpeicmbgiaa.X
end
section
namespace Go.Proofs.Ytbgefpeicmbgiaa.X
open Go.RowKit Go.Proofs.YtbgefpeicmbgiaaW.PrintWords Go.Proofs.YtbgefpeicmbgiaaW.PrintLast Go.Proofs.YtbgefpeicmbgiaaW.PrintMore
attribute [local go_sem] max2_int min2_int max_two min_two max_three min_three max_four min_four   
set_option linter.unusedVariables false
set_option linter.unusedSimpArgs false
def sums_none.l0 : Nat → List Int → Int → Int → Option (Int × Int)
 | 0, _, _, _ => none
 | k + 1, x6, x7, x8 => if x8 < x7 then (if 0 ≤ x8 then (if x8 < (x6.length : Int) then ((pat_Class.f (rd x6 x8)).bind fun q1 => (if q1 = 5 then (some (9221120237041090560, 1)) else (sums_none.l0 k x6 x7 (wrap64 (x8 + 1))))) else (none)) else (none)) else (some (9221120237041090560, 0))
def sums_none.f (k : Nat) (l0 : List Int) : Option (Int × Int) := sums_none.l0 k l0 (l0.length : Int) 0
theorem sums_none.mono_l : ∀ k, (∀ y0 y1 y2, LeO (sums_none.l0 k y0 y1 y2) (sums_none.l0 (k + 1) y0 y1 y2))
 | 0 => fun _ _ _ r h => by simp [sums_none.l0] at h
 | k + 1 => by
  have ih0 := sums_none.mono_l k
  · intro y0 y1 y2
    unfold sums_none.l0
    repeat' first
    | (with_reducible exact ih0 _ _ _)
    | (with_reducible exact LeO.refl _)
    | (with_reducible exact LeO.none _)
    | (with_reducible refine LeO.ite ?_ ?_)
    | (with_reducible refine LeO.bind ?_ (fun _ => ?_))
    | exact ih0 _ _ _
    | exact LeO.none _
    | refine LeO.ite ?_ ?_
    | refine LeO.bind ?_ (fun _ => ?_)
theorem sums_none.mono : ∀ a0 k, LeO (sums_none.f k a0) (sums_none.f (k + 1) a0) := by
 intro a0 k; have ih0 := sums_none.mono_l k
 unfold sums_none.f
 repeat' first
  | (with_reducible exact ih0 _ _ _)
  | (with_reducible exact LeO.refl _)
  | (with_reducible exact LeO.none _)
  | (with_reducible refine LeO.ite ?_ ?_)
  | (with_reducible refine LeO.bind ?_ (fun _ => ?_))
  | exact ih0 _ _ _
  | exact LeO.none _
  | refine LeO.ite ?_ ?_
  | refine LeO.bind ?_ (fun _ => ?_)
set_option maxHeartbeats 8000000 in
set_option maxRecDepth 100000 in
theorem sums_none.calls (k : Nat) (A0 : Option Addr) (c0 : Nat) (l0 : List Int) (r1 : Int) (r2 : Int) (w : World) (hr0 : Kd.C (Kd.int .u64) w A0 l0.length l0) (hc0 : l0.length ≤ c0) (h : sums_none.f k l0 = some (r1, r2)) :
 Calls Try.prog 81 #[.slice A0 l0.length c0] w fun e w' => e = .returned (.tuple #[.int .u64 r1, .int .u8 r2]) ∧ Below w.heap.size w w' := by
 have HR0 := Aside0.mk hr0; have HC0 := Aside0.mk hc0; clear hr0 hc0; have HB := Aside0.mk (Below.refl w.heap.size w); have H : (sums_none.l0 k l0 (l0.length : Int) 0) = some (r1, r2) := h; clear h; have H' := Aside0.mk H; clear H
 go_enter Try.func81, Try.ntmps81
 go_wp2
 go_loopg [8] k (fun kq v8 w' => ∃ (q0 : Int), v8 = .int .i64 q0 ∧ Aside0 (sums_none.l0 kq l0 (l0.length : Int) q0 = some (r1, r2)) ∧ Aside0 (kq ≤ k) ∧ Aside0 (Below w.heap.size w w'))
 case atStart => exact ⟨(0), RSq, (by first | exact H' | (subst_vars; exact H')), ⟨Nat.le_refl _⟩, ⟨kH HB⟩⟩
 case round =>
  clear H'; obtain ⟨q0, rfl, HA, HK1, HB⟩ := hrel
  cases gk with
  | zero => exact absurd HA.out (by simp [sums_none.l0])
  | succ k1 =>
   have H := HA.out; clear HA
   simp only [sums_none.l0] at H
   by_cases c2 : q0 < (l0.length : Int)
   · rw [if_pos c2] at H
     have q3 : decide (q0 < (l0.length : Int)) = true := decide_eq_true c2; clear c2
     by_cases c3 : 0 ≤ q0
     · rw [if_pos c3] at H
       have c3b0 : decide (0 ≤ q0) = true := decide_eq_true c3; clear c3
       by_cases c4 : q0 < (l0.length : Int)
       · rw [if_pos c4] at H
         have c4b0 : decide (q0 < (l0.length : Int)) = true := decide_eq_true c4; clear c4; replace H := Option.bind_eq_some_iff.mp H; obtain ⟨q1, A50, H⟩ := H; replace H : (if q1 = 5 then (some (9221120237041090560, 1)) else (sums_none.l0 k1 l0 (l0.length : Int) (wrap64 (q0 + 1)))) = some (r1, r2) := H; have A5 := Aside0.mk A50; clear A50
         by_cases c6 : q1 = 5
         · rw [if_pos c6] at H
           have q4 : (q1 == 5) = true := beq_iff_eq.mpr c6; have q5 : (q1 != 5) = false := bne_eq_false_iff_eq.mpr c6; clear c6
           simp only [Option.some.injEq, Prod.mk.injEq] at H
           obtain ⟨rfl, rfl⟩ := H; have p446 : 0 ≤ (q0 : Int) := of_decide_eq_true ASq; have q446 : q0 < (l0.length : Int) := of_decide_eq_true ASq; obtain ⟨ad446, e446, q2⟩ := Kd.at_int HR0.out q0 p446 q446
           cases e446
           replace q2 := (HB.out.cell (World.block_lt_of_cell? w _ q2)).trans q2; replace p446 := eq_true p446; replace q446 := eq_true q446
           go_wp2_with (first | ((with_reducible refine gate_callee (f := 80) rfl ?_); refine goesL_ (some 13) rfl rfl Try.func80 (by kernel_rfl) rfl #[.int .u64 (rd l0 q0)] rfl LMq ?_; (with_reducible refine (pat_Class.calls (rd l0 q0) q1 _ A5.out).mono ?_); rintro e w7 ⟨rfl, hb⟩; refine ⟨_, rfl, ?_⟩; replace HB := Aside0.mk (below_step (kH HB) hb); (try clear hb); (try clear hb2); (try clear hk); (try clear hi)))
           go_ret2
           exact ⟨by first | rfl | (simp [errW_none, errW_some] <;> rfl) | (simp [*, errW_none, errW_some] <;> rfl), kH HB⟩
         rw [if_neg c6] at H
         have q4 : (q1 == 5) = false := beq_eq_false_iff_ne.mpr c6; have q5 : (q1 != 5) = true := bne_iff_ne.mpr c6; have H' := Aside0.mk H; clear H; have p446 : 0 ≤ (q0 : Int) := of_decide_eq_true ASq; have q446 : q0 < (l0.length : Int) := of_decide_eq_true ASq; obtain ⟨ad446, e446, q2⟩ := Kd.at_int HR0.out q0 p446 q446
         cases e446
         replace q2 := (HB.out.cell (World.block_lt_of_cell? w _ q2)).trans q2; replace p446 := eq_true p446; replace q446 := eq_true q446
         go_wp2_with (first | ((with_reducible refine gate_callee (f := 80) rfl ?_); refine goesL_ (some 13) rfl rfl Try.func80 (by kernel_rfl) rfl #[.int .u64 (rd l0 q0)] rfl LMq ?_; (with_reducible refine (pat_Class.calls (rd l0 q0) q1 _ A5.out).mono ?_); rintro e w8 ⟨rfl, hb⟩; refine ⟨_, rfl, ?_⟩; replace HB := Aside0.mk (below_step (kH HB) hb); (try clear hb); (try clear hb2); (try clear hk); (try clear hi)))
         go_roundg k1
         case measure => have := HK1.out; omega
         case rel => exact ⟨(wrap64 (q0 + 1)), RSq, (by first | exact H' | (subst_vars; exact H')), ⟨by have := HK1.out; omega⟩, ⟨kH HB⟩⟩
       rw [if_neg c4] at H
       exact absurd H (by simp)
     rw [if_neg c3] at H
     exact absurd H (by simp)
   rw [if_neg c2] at H
   have q3 : decide (q0 < (l0.length : Int)) = false := decide_eq_false c2; clear c2
   simp only [Option.some.injEq, Prod.mk.injEq] at H
   obtain ⟨rfl, rfl⟩ := H
   go_wp2
   go_ret2
   exact ⟨by first | rfl | (simp [errW_none, errW_some] <;> rfl) | (simp [*, errW_none, errW_some] <;> rfl), kH HB⟩
end Go.Proofs.Ytbgefpeicmbgiaa.X
end
section
namespace Go.Proofs.Ytbgefpeicmbgiaa.X
open Go.RowKit Go.Proofs.YtbgefpeicmbgiaaW.PrintWords Go.Proofs.YtbgefpeicmbgiaaW.PrintLast Go.Proofs.YtbgefpeicmbgiaaW.PrintMore
attribute [local go_sem] max2_int min2_int max_two min_two max_three min_three max_four min_four   
set_option linter.unusedVariables false
set_option linter.unusedSimpArgs false
def sums_right.f (q8 : Bool) (q0 : Int) (q1 : Int) (q2 : Int) (q3 : Int) (q4 : Int) (qa : Bool) : Option (Bool) := (wide_Len.f q1 q2 q3 q4).bind fun q7 => (if q7 ≤ 128 then (if qa = true then (some false) else (if q0 ≥ (-100000) then (some (decide (q0 ≤ 100000))) else (some false))) else (some false))
set_option maxHeartbeats 8000000 in
set_option maxRecDepth 100000 in
theorem sums_right.calls (q8 : Bool) (q0 : Int) (q1 : Int) (q2 : Int) (q3 : Int) (q4 : Int) (qa : Bool) (r : Bool) (w : World) (h : sums_right.f q8 q0 q1 q2 q3 q4 qa = some r) :
 Calls Try.prog 84 #[.agg #[.bool q8, .int .i64 q0, .int .u64 q1, .int .u64 q2, .int .u64 q3, .int .u64 q4, .bool qa]] w fun e w' => e = .returned (.bool r) ∧ Below w.heap.size w w' := by
 have hu61 := Try.underlying61; have hu58 := Try.underlying58; have HB := Aside0.mk (Below.refl w.heap.size w); have H : ((wide_Len.f q1 q2 q3 q4).bind fun q7 => (if q7 ≤ 128 then (if qa = true then (some false) else (if q0 ≥ (-100000) then (some (decide (q0 ≤ 100000))) else (some false))) else (some false))) = some r := h; clear h; replace H := Option.bind_eq_some_iff.mp H; obtain ⟨q7, A20, H⟩ := H; replace H : (if q7 ≤ 128 then (if qa = true then (some false) else (if q0 ≥ (-100000) then (some (decide (q0 ≤ 100000))) else (some false))) else (some false)) = some r := H; have A2 := Aside0.mk A20; clear A20
 by_cases c3 : q7 ≤ 128
 · rw [if_pos c3] at H
   have qc : decide (q7 ≤ 128) = true := decide_eq_true c3; clear c3
   by_cases c4 : qa = true
   · subst c4
     have H1 : (some false) = some r := by rw [if_pos rfl] at H; exact H
     clear H; have H := H1; clear H1; obtain rfl := Option.some.inj H
     go_enter Try.func84, Try.ntmps84
     go_wp2_with (first | ((with_reducible refine gate_dst (N := 1) rfl ?_); refine box_event ?hg (N := 1) ?hd (cs := #[.bool q8, .int .i64 q0, .int .u64 q1, .int .u64 q2, .int .u64 q3, .int .u64 q4, .bool true]) (t := 61) ?hr ?_; (case hd => rfl); (case hg => rfl); (case hr => first | (go_simp; done) | (go_simp; rfl)); intro q6 hg w5 hbox hb; have q5 := Aside0.mk (hbox); have qb := Aside0.mk ((by rw [hg]; exact (below_size (kH HB)) : w.heap.size ≤ q6)); have q9 := Aside0.mk ((by rw [hg]; exact (below_size (kH HB)) : w.heap.size ≤ q6)); replace HB := Aside0.mk (below_step (kH HB) hb); clear hb hbox hg; obtain ⟨_, _, _, _, _, _, _, _, _, _, _, _, _, _⟩ := W7q q5) | ((with_reducible refine gate_callee (f := 62) rfl ?_); refine goesL_ (some 5) rfl rfl Try.func62 (by kernel_rfl) rfl #[.agg #[.int .u64 q1, .int .u64 q2, .int .u64 q3, .int .u64 q4]] rfl LMq ?_; (with_reducible refine (wide_Len.calls q1 q2 q3 q4 q7 _ A2.out).mono ?_); rintro e w7 ⟨rfl, hb⟩; refine ⟨_, rfl, ?_⟩; replace q5 := Aside0.mk (blk_below (g := q6) (o := .cells #[.bool q8, .int .i64 q0, .int .u64 q1, .int .u64 q2, .int .u64 q3, .int .u64 q4, .bool true] 61 (0, 0)) (kB q5) hb); replace HB := Aside0.mk (below_step (kHs HB q9) hb); (try clear hb); (try clear hb2); (try clear hk); (try clear hi); obtain ⟨_, _, _, _, _, _, _, _, _, _, _, _, _, _⟩ := W7q q5))
     go_ret
     exact ⟨by first | rfl | (simp [errW_none, errW_some] <;> rfl) | (simp [*, errW_none, errW_some] <;> rfl), kHs HB q9⟩
   replace c4 := Bool.eq_false_iff.mpr c4; subst c4
   have H1 : (if q0 ≥ (-100000) then (some (decide (q0 ≤ 100000))) else (some false)) = some r := by rw [if_neg (show ¬ (false = true) by decide)] at H; exact H
   clear H; have H := H1; clear H1
   by_cases c9 : q0 ≥ (-100000)
   · rw [if_pos c9] at H
     have qd : decide ((-100000) ≤ q0) = true := decide_eq_true c9; clear c9; obtain rfl := Option.some.inj H
     go_enter Try.func84, Try.ntmps84
     go_wp2_with (first | ((with_reducible refine gate_dst (N := 1) rfl ?_); refine box_event ?hg (N := 1) ?hd (cs := #[.bool q8, .int .i64 q0, .int .u64 q1, .int .u64 q2, .int .u64 q3, .int .u64 q4, .bool false]) (t := 61) ?hr ?_; (case hd => rfl); (case hg => rfl); (case hr => first | (go_simp; done) | (go_simp; rfl)); intro q6 hg w10 hbox hb; have q5 := Aside0.mk (hbox); have qb := Aside0.mk ((by rw [hg]; exact (below_size (kH HB)) : w.heap.size ≤ q6)); have q9 := Aside0.mk ((by rw [hg]; exact (below_size (kH HB)) : w.heap.size ≤ q6)); replace HB := Aside0.mk (below_step (kH HB) hb); clear hb hbox hg; obtain ⟨_, _, _, _, _, _, _, _, _, _, _, _, _, _⟩ := W7q q5) | ((with_reducible refine gate_callee (f := 62) rfl ?_); refine goesL_ (some 5) rfl rfl Try.func62 (by kernel_rfl) rfl #[.agg #[.int .u64 q1, .int .u64 q2, .int .u64 q3, .int .u64 q4]] rfl LMq ?_; (with_reducible refine (wide_Len.calls q1 q2 q3 q4 q7 _ A2.out).mono ?_); rintro e w12 ⟨rfl, hb⟩; refine ⟨_, rfl, ?_⟩; replace q5 := Aside0.mk (blk_below (g := q6) (o := .cells #[.bool q8, .int .i64 q0, .int .u64 q1, .int .u64 q2, .int .u64 q3, .int .u64 q4, .bool false] 61 (0, 0)) (kB q5) hb); replace HB := Aside0.mk (below_step (kHs HB q9) hb); (try clear hb); (try clear hb2); (try clear hk); (try clear hi); obtain ⟨_, _, _, _, _, _, _, _, _, _, _, _, _, _⟩ := W7q q5))
     go_ret
     exact ⟨by first | rfl | (simp [errW_none, errW_some] <;> rfl) | (simp [*, errW_none, errW_some] <;> rfl), kHs HB q9⟩
   rw [if_neg c9] at H
   have qd : decide ((-100000) ≤ q0) = false := decide_eq_false c9; clear c9; obtain rfl := Option.some.inj H
   go_enter Try.func84, Try.ntmps84
   go_wp2_with (first | ((with_reducible refine gate_dst (N := 1) rfl ?_); refine box_event ?hg (N := 1) ?hd (cs := #[.bool q8, .int .i64 q0, .int .u64 q1, .int .u64 q2, .int .u64 q3, .int .u64 q4, .bool false]) (t := 61) ?hr ?_; (case hd => rfl); (case hg => rfl); (case hr => first | (go_simp; done) | (go_simp; rfl)); intro q6 hg w14 hbox hb; have q5 := Aside0.mk (hbox); have qb := Aside0.mk ((by rw [hg]; exact (below_size (kH HB)) : w.heap.size ≤ q6)); have q9 := Aside0.mk ((by rw [hg]; exact (below_size (kH HB)) : w.heap.size ≤ q6)); replace HB := Aside0.mk (below_step (kH HB) hb); clear hb hbox hg; obtain ⟨_, _, _, _, _, _, _, _, _, _, _, _, _, _⟩ := W7q q5) | ((with_reducible refine gate_callee (f := 62) rfl ?_); refine goesL_ (some 5) rfl rfl Try.func62 (by kernel_rfl) rfl #[.agg #[.int .u64 q1, .int .u64 q2, .int .u64 q3, .int .u64 q4]] rfl LMq ?_; (with_reducible refine (wide_Len.calls q1 q2 q3 q4 q7 _ A2.out).mono ?_); rintro e w16 ⟨rfl, hb⟩; refine ⟨_, rfl, ?_⟩; replace q5 := Aside0.mk (blk_below (g := q6) (o := .cells #[.bool q8, .int .i64 q0, .int .u64 q1, .int .u64 q2, .int .u64 q3, .int .u64 q4, .bool false] 61 (0, 0)) (kB q5) hb); replace HB := Aside0.mk (below_step (kHs HB q9) hb); (try clear hb); (try clear hb2); (try clear hk); (try clear hi); obtain ⟨_, _, _, _, _, _, _, _, _, _, _, _, _, _⟩ := W7q q5))
   go_ret
   exact ⟨by first | rfl | (simp [errW_none, errW_some] <;> rfl) | (simp [*, errW_none, errW_some] <;> rfl), kHs HB q9⟩
 rw [if_neg c3] at H
 have qc : decide (q7 ≤ 128) = false := decide_eq_false c3; clear c3; obtain rfl := Option.some.inj H
 go_enter Try.func84, Try.ntmps84
 go_wp2_with (first | ((with_reducible refine gate_dst (N := 1) rfl ?_); refine box_event ?hg (N := 1) ?hd (cs := #[.bool q8, .int .i64 q0, .int .u64 q1, .int .u64 q2, .int .u64 q3, .int .u64 q4, .bool qa]) (t := 61) ?hr ?_; (case hd => rfl); (case hg => rfl); (case hr => first | (go_simp; done) | (go_simp; rfl)); intro q6 hg w18 hbox hb; have q5 := Aside0.mk (hbox); have qb := Aside0.mk ((by rw [hg]; exact (below_size (kH HB)) : w.heap.size ≤ q6)); have q9 := Aside0.mk ((by rw [hg]; exact (below_size (kH HB)) : w.heap.size ≤ q6)); replace HB := Aside0.mk (below_step (kH HB) hb); clear hb hbox hg; obtain ⟨_, _, _, _, _, _, _, _, _, _, _, _, _, _⟩ := W7q q5) | ((with_reducible refine gate_callee (f := 62) rfl ?_); refine goesL_ (some 5) rfl rfl Try.func62 (by kernel_rfl) rfl #[.agg #[.int .u64 q1, .int .u64 q2, .int .u64 q3, .int .u64 q4]] rfl LMq ?_; (with_reducible refine (wide_Len.calls q1 q2 q3 q4 q7 _ A2.out).mono ?_); rintro e w20 ⟨rfl, hb⟩; refine ⟨_, rfl, ?_⟩; replace q5 := Aside0.mk (blk_below (g := q6) (o := .cells #[.bool q8, .int .i64 q0, .int .u64 q1, .int .u64 q2, .int .u64 q3, .int .u64 q4, .bool qa] 61 (0, 0)) (kB q5) hb); replace HB := Aside0.mk (below_step (kHs HB q9) hb); (try clear hb); (try clear hb2); (try clear hk); (try clear hi)))
 go_ret
 exact ⟨by first | rfl | (simp [errW_none, errW_some] <;> rfl) | (simp [*, errW_none, errW_some] <;> rfl), kHs HB q9⟩
end Go.Proofs.Ytbgefpeicmbgiaa.X
end
section
namespace Go.Proofs.Ytbgefpeicmbgiaa
set_option linter.unusedVariables false
set_option linter.unusedSimpArgs false
open Go.RowKit
theorem blen_mul_pow {s : Nat} (hs : s ≠ 0) (k : Nat) : blen (s * 2 ^ k) = blen s + k := by
  have h1 := blen_le hs
  have h2 := blen_lt s
  have h3 := blen_pos hs
  have e : blen s + k = (blen s - 1 + k) + 1 := by omega
  rw [e]
  refine blen_eq ?_ ?_
  · rw [Nat.pow_add]; exact Nat.mul_le_mul_right _ h1
  · rw [show blen s - 1 + k + 1 = blen s + k by omega, Nat.pow_add]
    exact Nat.mul_lt_mul_of_pos_right h2 (Nat.two_pow_pos k)
theorem rN_ge (x : Int) (s : Nat) : -1074 ≤ rN x s := by unfold rN; split <;> omega
theorem rN_cases (x : Int) (s : Nat) : rN x s = -1074 ∧ x + (blen s : Int) - 53 ≤ -1074 ∨ rN x s = x + (blen s : Int) - 53 ∧ -1074 ≤ x + (blen s : Int) - 53 := by
  unfold rN rTop; split <;> omega
theorem cutQ53_lt {s : Nat} {x : Int} (hs : s ≠ 0) : cutQ s x (rN x s) < 2 ^ 53 := by
  have hb : x + (blen s : Int) - rN x s ≤ 53 := by rcases rN_cases x s with h | h <;> omega
  have h2 := blen_lt s
  unfold cutQ
  split
  · next h =>
    have h3 : s * 2 ^ (x - rN x s).toNat < 2 ^ 53 := by
      refine Nat.lt_of_lt_of_le (Nat.mul_lt_mul_of_pos_right h2 (Nat.two_pow_pos _)) ?_
      rw [← Nat.pow_add]
      exact Nat.pow_le_pow_right (by omega) (by omega)
    exact Nat.lt_of_le_of_lt (Nat.mod_le _ _) h3
  · next h =>
    refine Nat.div_lt_of_lt_mul ?_
    rw [← Nat.pow_add]
    exact Nat.lt_of_lt_of_le h2 (Nat.pow_le_pow_right (by omega) (by omega))
theorem cutQ_no_mod {s : Nat} {x : Int} (hs : s ≠ 0) (h : rN x s ≤ x) : cutQ s x (rN x s) = s * 2 ^ (x - rN x s).toNat := by
  have hb : x + (blen s : Int) - rN x s ≤ 53 := by rcases rN_cases x s with h | h <;> omega
  have h2 := blen_lt s
  have h3 : s * 2 ^ (x - rN x s).toNat < 2 ^ 53 := by
    refine Nat.lt_of_lt_of_le (Nat.mul_lt_mul_of_pos_right h2 (Nat.two_pow_pos _)) ?_
    rw [← Nat.pow_add]
    exact Nat.pow_le_pow_right (by omega) (by omega)
  unfold cutQ
  rw [if_pos h, T256_eq]
  exact Nat.mod_eq_of_lt (Nat.lt_trans h3 (by decide))
theorem cutQ_ge {s : Nat} {x : Int} (hs : s ≠ 0) (hn : -1074 < rN x s) : 2 ^ 52 ≤ cutQ s x (rN x s) := by
  have hb : rN x s = x + (blen s : Int) - 53 := by rcases rN_cases x s with h | h <;> omega
  have h1 := blen_le hs
  have hp := blen_pos hs
  by_cases h : rN x s ≤ x
  · rw [cutQ_no_mod hs h]
    refine Nat.le_trans ?_ (Nat.mul_le_mul_right _ h1)
    rw [← Nat.pow_add]
    exact Nat.pow_le_pow_right (by omega) (by omega)
  · unfold cutQ
    rw [if_neg h, Nat.le_div_iff_mul_le (Nat.two_pow_pos _), ← Nat.pow_add]
    exact Nat.le_trans (Nat.pow_le_pow_right (by omega) (by omega)) h1
def uu (mi : Bool) (x : Int) (s : Nat) (m : Int) : Nat := if upB m mi (decide (cutQ s x (rN x s) % 2 = 1)) (cutH s x (rN x s)) (cutR s x (rN x s)) = true then 1 else 0
def PQ (mi : Bool) (x : Int) (s : Nat) (m : Int) : Int := ((cutQ s x (rN x s) + uu mi x s m : Nat) : Int) + (rN x s + 1074) * 4503599627370496
theorem uu_le (mi : Bool) (x : Int) (s : Nat) (m : Int) : uu mi x s m ≤ 1 := by unfold uu; split <;> omega
theorem l0_small {n : Nat} (h : n < 18446744073709551616) : l0 n = (n : Int) := by unfold l0; omega
theorem round_eq (mi : Bool) (x : Int) (s : Nat) (m : Int) (hs : s ≠ 0) : rRound mi x s m = if 9218868437227405312 ≤ PQ mi x s m then (overP mi m, 20) else (PQ mi x s m + sg mi, rFlag mi x s m) := by
  have hlt := cutQ53_lt (x := x) hs
  have hge := cutQ_ge (x := x) hs
  have hn := rN_ge x s
  have hu := uu_le mi x s m
  have eQ : rQ mi x s m = cutQ s x (rN x s) + uu mi x s m := by
    unfold rQ rTo
    rw [Nat.mod_eq_of_lt]
    · rfl
    · show cutQ s x (rN x s) + uu mi x s m < T256
      rw [T256_eq]
      exact Nat.lt_of_le_of_lt (show _ ≤ 2 ^ 53 by omega) (by decide)
  have eP : PQ mi x s m = ((rQ mi x s m : Nat) : Int) + (rN x s + 1074) * 4503599627370496 := by unfold PQ; rw [eQ]
  unfold rRound
  rw [if_neg hs]
  rw [show (2 : Nat) ^ 53 = 9007199254740992 from rfl] at hlt
  rw [show (2 : Nat) ^ 52 = 4503599627370496 from rfl] at hge
  generalize hq : rQ mi x s m = q at *
  generalize hnn : rN x s = n at *
  generalize PQ mi x s m = P at *
  by_cases hb : 53 < blen q
  · have hq53 : q = 9007199254740992 := by
      have : ¬ q < 2 ^ 53 := fun h => by have := blen_le_iff.2 h; omega
      rw [show (2 : Nat) ^ 53 = 9007199254740992 from rfl] at this
      omega
    have e1 : rQ2 mi x s m = 4503599627370496 := by unfold rQ2; rw [hq, if_pos hb, hq53]
    have e2 : rN2 mi x s m = n + 1 := by unfold rN2; rw [hq, hnn, if_pos hb]
    rw [e1, e2]
    by_cases ho : 971 < n + 1
    · rw [if_pos ho, if_pos (by omega)]
    · rw [if_neg ho, if_neg (by omega)]
      congr 1
      unfold rP
      rw [l0_small (by decide), if_pos (by decide), IntKind.wrap_u64]
      unfold pA
      omega
  · have hq53 : q < 9007199254740992 := blen_le_iff.1 (show blen q ≤ 53 by omega)
    have e1 : rQ2 mi x s m = q := by unfold rQ2; rw [hq, if_neg hb]
    have e2 : rN2 mi x s m = n := by unfold rN2; rw [hq, hnn, if_neg hb]
    rw [e1, e2]
    by_cases ho : 971 < n
    · rw [if_pos ho, if_pos (by omega)]
    · rw [if_neg ho, if_neg (by omega)]
      congr 1
      unfold rP
      rw [l0_small (by omega)]
      by_cases h52 : (4503599627370496 : Int) ≤ q
      · rw [if_pos h52, IntKind.wrap_u64]
        unfold pA
        omega
      · rw [if_neg h52]
        unfold pA
        omega
theorem upB_no (m : Int) (a b : Bool) : upB m a b false false = false := by
  unfold upB
  repeat' split
  all_goals first | rfl | (cases a <;> rfl)
theorem pat_parts {p : Int} (hp : U p) (hf : pC p < 3) : (0 < pE p ∧ pE p < 2047 ∧ pX p = pE p - 1075 ∧ pS p = pF p + 4503599627370496 ∨ pE p = 0 ∧ pX p = -1074 ∧ pS p = pF p) ∧ p = pE p * 4503599627370496 + pF p + sg (pM p) := by
  have h1 := pE_bd p
  have h2 := pF_bd p
  have hE : pE p ≠ 2047 := by
    intro h
    unfold pC at hf
    rw [if_pos h] at hf
    split at hf
    · omega
    · split at hf <;> omega
  refine ⟨?_, ?_⟩
  · unfold pX pS
    rw [if_neg hE, if_neg hE]
    by_cases h : 0 < pE p
    · rw [if_pos h, if_pos h]; left; omega
    · rw [if_neg h, if_neg h]; right; omega
  · unfold pE pF pM sg
    unfold U at hp
    by_cases h : 9223372036854775808 ≤ p
    · rw [decide_eq_true h, if_pos rfl]; omega
    · rw [decide_eq_false h, if_neg (by decide)]; omega
theorem round_exact {p : Int} (hp : U p) (hf : pC p < 3) (k : Nat) (m : Int) : rRound (pM p) (pX p - k) ((pS p).toNat * 2 ^ k) m = (p, 0) := by
  obtain ⟨hc, hpe⟩ := pat_parts hp hf
  have hF := pF_bd p
  by_cases h0 : pS p = 0
  · have e : (pS p).toNat * 2 ^ k = 0 := by rw [h0]; simp
    unfold rRound
    rw [if_pos e]
    have : pE p * 4503599627370496 + pF p = 0 := by omega
    rw [this, Int.zero_add] at hpe
    rw [← hpe]
  · generalize hS : (pS p).toNat = S at *
    have hS0 : S ≠ 0 := by omega
    have hs : S * 2 ^ k ≠ 0 := Nat.mul_ne_zero hS0 (Nat.ne_of_gt (Nat.two_pow_pos k))
    have hb := blen_mul_pow hS0 k
    have hN : rN (pX p - k) (S * 2 ^ k) = pX p := by
      unfold rN rTop
      rw [hb]
      rcases hc with ⟨g0, g1, g2, g3⟩ | ⟨g0, g1, g2⟩
      · have : blen S = 52 + 1 := blen_eq (by rw [show (2 : Nat) ^ 52 = 4503599627370496 from rfl]; omega) (by rw [show (2 : Nat) ^ (52 + 1) = 9007199254740992 from rfl]; omega)
        rw [this]
        split <;> omega
      · have : blen S ≤ 52 := blen_le_iff.2 (by rw [show (2 : Nat) ^ 52 = 4503599627370496 from rfl]; omega)
        split <;> omega
    have hQ : cutQ (S * 2 ^ k) (pX p - k) (pX p) = S := by
      unfold cutQ
      by_cases hk : k = 0
      · subst hk
        rw [if_pos (by omega), show (pX p - ((0 : Nat) : Int) - pX p).toNat = 0 by omega, Nat.pow_zero, Nat.mul_one, Nat.mul_one, T256_eq]
        refine Nat.mod_eq_of_lt (Nat.lt_of_lt_of_le (show S < 2 ^ 53 from ?_) (show 2 ^ 53 ≤ 2 ^ 256 by decide))
        rw [show (2 : Nat) ^ 53 = 9007199254740992 from rfl]
        omega
      · rw [if_neg (by omega), show (pX p - (pX p - (k : Int))).toNat = k by omega]
        exact Nat.mul_div_cancel _ (Nat.two_pow_pos k)
    have hH : cutH (S * 2 ^ k) (pX p - k) (pX p) = false ∧ cutR (S * 2 ^ k) (pX p - k) (pX p) = false := by
      unfold cutH cutR
      by_cases hk : k = 0
      · subst hk
        rw [if_pos (by omega), if_pos (by omega)]
        exact ⟨rfl, rfl⟩
      · rw [if_neg (by omega), if_neg (by omega), show (pX p - (pX p - (k : Int)) - 1).toNat = k - 1 by omega]
        have e : S * 2 ^ k = (S * 2) * 2 ^ (k - 1) := by rw [Nat.mul_assoc, ← Nat.pow_succ']; congr 2; omega
        rw [e, Nat.mul_div_cancel _ (Nat.two_pow_pos _), Nat.mul_mod_left, Nat.mul_mod_left]
        exact ⟨by decide, by decide⟩
    have hu : uu (pM p) (pX p - k) (S * 2 ^ k) m = 0 := by
      unfold uu
      rw [hN, hH.1, hH.2, upB_no]
      rfl
    have hP : PQ (pM p) (pX p - k) (S * 2 ^ k) m = pE p * 4503599627370496 + pF p := by
      unfold PQ
      rw [hN, hQ, hu]
      omega
    have hfl : rFlag (pM p) (pX p - k) (S * 2 ^ k) m = 0 := by
      unfold rFlag rOdd
      rw [hN, hH.1, hH.2]
      rfl
    rw [round_eq _ _ _ _ hs, hP, hfl, if_neg (by omega), ← hpe]
theorem PQ_ge (mi : Bool) (x : Int) (s : Nat) (m : Int) : 0 ≤ PQ mi x s m := by unfold PQ; have := rN_ge x s; omega
theorem rFlag_cases (mi : Bool) (x : Int) (s : Nat) (m : Int) : rFlag mi x s m = 0 ∧ rOdd s x (rN x s) = false ∨ (rFlag mi x s m = 16 ∨ rFlag mi x s m = 24) ∧ rOdd s x (rN x s) = true := by
  unfold rFlag
  cases h : rOdd s x (rN x s)
  · left; simp
  · right
    simp only [if_true, and_true]
    split <;> simp
theorem uu_exact (mi : Bool) (x : Int) (s : Nat) (m : Int) (h : rOdd s x (rN x s) = false) : uu mi x s m = 0 := by
  unfold rOdd at h
  unfold uu
  rw [(Bool.or_eq_false_iff.1 h).1, (Bool.or_eq_false_iff.1 h).2, upB_no]
  rfl
end Go.Proofs.Ytbgefpeicmbgiaa
end
section
namespace Go.Proofs.Ytbgefpeicmbgiaa
set_option linter.unusedVariables false
set_option linter.unusedSimpArgs false
open Go.RowKit
theorem blen_div {s k : Nat} (h : s / 2 ^ k ≠ 0) : blen s = blen (s / 2 ^ k) + k := by rw [blen_shift s k h, Nat.add_comm]
def SameAt (x1 : Int) (s1 : Nat) (x2 : Int) (s2 : Nat) (n : Int) : Prop := cutQ s1 x1 n = cutQ s2 x2 n ∧ cutH s1 x1 n = cutH s2 x2 n ∧ cutR s1 x1 n = cutR s2 x2 n
theorem round_same {x1 x2 : Int} {s1 s2 : Nat} (hz : s1 = 0 ↔ s2 = 0) (hb : s1 ≠ 0 → x1 + (blen s1 : Int) = x2 + (blen s2 : Int))
    (h : s1 ≠ 0 → ∀ n, x1 + (blen s1 : Int) - 53 ≤ n → SameAt x1 s1 x2 s2 n) (mi : Bool) (m : Int) : rRound mi x1 s1 m = rRound mi x2 s2 m := by
  by_cases z : s1 = 0
  · unfold rRound; rw [if_pos z, if_pos (hz.1 z)]
  · have z2 : s2 ≠ 0 := fun g => z (hz.2 g)
    have hb := hb z
    have hN : rN x2 s2 = rN x1 s1 := by unfold rN rTop; rw [hb]
    have hn : x1 + (blen s1 : Int) - 53 ≤ rN x1 s1 := by rcases rN_cases x1 s1 with g | g <;> omega
    obtain ⟨a1, a2, a3⟩ := h z _ hn
    obtain ⟨b1, b2, b3⟩ := h z (x1 + (blen s1 : Int) - 53) (Int.le_refl _)
    have ht : rTiny mi x1 s1 (rTop x1 s1) m = rTiny mi x2 s2 (rTop x2 s2) m := by
      unfold rTiny
      rw [show rTop x2 s2 = rTop x1 s1 by unfold rTop; rw [hb]]
      have e : rTo mi x1 s1 (rTop x1 s1 - 53) m = rTo mi x2 s2 (rTop x1 s1 - 53) m := by
        unfold rTo rTop
        rw [b1, b2, b3]
      rw [e]
    have hP : PQ mi x1 s1 m = PQ mi x2 s2 m := by unfold PQ uu; rw [hN, a1, a2, a3]
    have hF : rFlag mi x1 s1 m = rFlag mi x2 s2 m := by unfold rFlag rOdd; rw [hN, a2, a3, ht]
    rw [round_eq _ _ _ _ z, round_eq _ _ _ _ z2, hP, hF]
theorem round_scale (mi : Bool) (x : Int) (s k : Nat) (m : Int) : rRound mi (x - k) (s * 2 ^ k) m = rRound mi x s m := by
  have hk := Nat.two_pow_pos k
  refine round_same ⟨fun h => ?_, fun h => by rw [h, Nat.zero_mul]⟩ (fun h => ?_) (fun h n hn => ?_) mi m
  · rcases Nat.mul_eq_zero.1 h with g | g
    · exact g
    · omega
  · have : s ≠ 0 := fun g => h (by rw [g, Nat.zero_mul])
    rw [blen_mul_pow this]; omega
  · have hs : s ≠ 0 := fun g => h (by rw [g, Nat.zero_mul])
    rw [blen_mul_pow hs] at hn
    unfold SameAt cutQ cutH cutR
    by_cases c1 : n ≤ x - k
    · rw [if_pos c1, if_pos c1, if_pos c1, if_pos (by omega), if_pos (by omega), if_pos (by omega), Nat.mul_assoc, ← Nat.pow_add, show k + (x - (k : Int) - n).toNat = (x - n).toNat by omega]
      exact ⟨rfl, rfl, rfl⟩
    · rw [if_neg c1, if_neg c1, if_neg c1]
      by_cases c2 : n ≤ x
      · obtain ⟨j, hj⟩ : ∃ j, (n - (x - (k : Int))).toNat = j + 1 := ⟨(n - (x - (k : Int))).toNat - 1, by omega⟩
        have hkj : k = (x - n).toNat + (j + 1) := by omega
        have hl := blen_lt s
        have hlt : s * 2 ^ (x - n).toNat < T256 := by
          have h1 : s * 2 ^ (x - n).toNat < 2 ^ (blen s + (x - n).toNat) := by rw [Nat.pow_add]; exact Nat.mul_lt_mul_of_pos_right hl (Nat.two_pow_pos _)
          refine Nat.lt_of_lt_of_le h1 ?_
          rw [T256_eq]
          exact Nat.pow_le_pow_right (by omega) (by omega)
        rw [if_pos c2, if_pos c2, if_pos c2, hj, show (n - (x - (k : Int)) - 1).toNat = j by omega, Nat.mod_eq_of_lt hlt]
        have e1 : s * 2 ^ k = s * 2 ^ (x - n).toNat * 2 * 2 ^ j := by rw [hkj, Nat.pow_add, Nat.pow_succ]; simp only [Nat.mul_assoc, Nat.mul_comm 2]
        have e2 : s * 2 ^ k = s * 2 ^ (x - n).toNat * 2 ^ (j + 1) := by rw [e1, Nat.pow_succ, Nat.mul_assoc _ 2, Nat.mul_comm 2]
        refine ⟨by rw [e2]; exact Nat.mul_div_cancel _ (Nat.two_pow_pos _), ?_, ?_⟩
        · rw [e1, Nat.mul_div_cancel _ (Nat.two_pow_pos _), Nat.mul_mod_left]; rfl
        · rw [e1, Nat.mul_mod_left]; rfl
      · obtain ⟨j, hj⟩ : ∃ j, (n - x).toNat = j + 1 := ⟨(n - x).toNat - 1, by omega⟩
        rw [if_neg c2, if_neg c2, if_neg c2, hj, show (n - x - 1).toNat = j by omega, show (n - (x - (k : Int))).toNat = j + 1 + k by omega, show (n - (x - (k : Int)) - 1).toNat = j + k by omega]
        rw [Nat.pow_add, Nat.pow_add 2 j k, Nat.mul_div_mul_right _ _ hk, Nat.mul_div_mul_right _ _ hk, Nat.mul_mod_mul_right]
        refine ⟨rfl, rfl, ?_⟩
        rw [Bool.eq_iff_iff]
        simp only [decide_eq_true_eq, ne_eq, Nat.mul_eq_zero]
        omega
theorem round_sticky (mi : Bool) (x : Int) (s j : Nat) (m : Int) (hq : 2 ^ 54 ≤ s / 2 ^ (j + 1)) : rRound mi (x + j) (2 * (s / 2 ^ (j + 1)) + if s % 2 ^ (j + 1) ≠ 0 then 1 else 0) m = rRound mi x s m := by
  generalize hqq : s / 2 ^ (j + 1) = q at *
  generalize ht : (if s % 2 ^ (j + 1) ≠ 0 then 1 else 0) = t
  have ht1 : t ≤ 1 := by rw [← ht]; split <;> omega
  have htz : t = 0 ↔ s % 2 ^ (j + 1) = 0 := by rw [← ht]; split <;> omega
  have hq0 : q ≠ 0 := by omega
  have b1 : blen s = blen q + (j + 1) := by rw [← hqq]; exact blen_div (by rw [hqq]; exact hq0)
  have b2 : blen (2 * q + t) = blen q + 1 := by
    have := blen_div (s := 2 * q + t) (k := 1) (by rw [Nat.pow_one]; omega)
    rw [Nat.pow_one, show (2 * q + t) / 2 = q by omega] at this
    exact this
  have b3 : 55 ≤ blen q := by
    rcases Nat.lt_or_ge (blen q) 55 with g | g
    · have := blen_le_iff.1 (show blen q ≤ 54 by omega); omega
    · exact g
  have hs0 : s ≠ 0 := fun g => hq0 (by rw [← hqq, g, Nat.zero_div])
  refine round_same ⟨fun h => by omega, fun h => absurd h hs0⟩ (fun _ => by rw [b1, b2]; omega) (fun _ n hn => ?_) mi m
  rw [b2] at hn
  obtain ⟨i, hi⟩ : ∃ i, (n - (x + (j : Int))).toNat = i + 2 := ⟨(n - (x + (j : Int))).toNat - 2, by omega⟩
  have e1 : (n - (x + (j : Int)) - 1).toNat = i + 1 := by omega
  have e2 : (n - x).toNat = (j + 1) + (i + 1) := by omega
  have e3 : (n - x - 1).toNat = (j + 1) + i := by omega
  unfold SameAt cutQ cutH cutR
  rw [if_neg (by omega), if_neg (by omega), if_neg (by omega), if_neg (by omega), if_neg (by omega), if_neg (by omega), hi, e1, e2, e3]
  have d1 : ∀ i, (2 * q + t) / 2 ^ (i + 1) = q / 2 ^ i := fun i => by rw [Nat.pow_succ', ← Nat.div_div_eq_div_mul, show (2 * q + t) / 2 = q by omega]
  have d2 : ∀ i, s / 2 ^ ((j + 1) + i) = q / 2 ^ i := fun i => by rw [Nat.pow_add, ← Nat.div_div_eq_div_mul, hqq]
  refine ⟨by rw [d1, d2], by rw [d1, d2], ?_⟩
  have m1 : (2 * q + t) % 2 ^ (i + 1) = t + 2 * (q % 2 ^ i) := by rw [Nat.pow_succ', Nat.mod_mul, show (2 * q + t) / 2 = q by omega]; omega
  have m2 : s % 2 ^ ((j + 1) + i) = s % 2 ^ (j + 1) + 2 ^ (j + 1) * (q % 2 ^ i) := by rw [Nat.pow_add, Nat.mod_mul, hqq]
  rw [m1, m2, Bool.eq_iff_iff]
  have hp := Nat.two_pow_pos (j + 1)
  simp only [decide_eq_true_eq, ne_eq, Nat.add_eq_zero_iff, Nat.mul_eq_zero]
  omega
end Go.Proofs.Ytbgefpeicmbgiaa
end
section
namespace Go.Proofs.Ytbgefpeicmbgiaa
set_option linter.unusedVariables false
set_option linter.unusedSimpArgs false
open Go.RowKit
theorem pS_T (a : Int) : (pS a).toNat < T256 := by have := pS_bd a; rw [T256_eq]; omega
theorem U_pS (a : Int) : U (pS a) := by have := pS_bd a; unfold U; omega
theorem U_wf {a : Int} (h : (Lit.int .u64 a).wf = true) : U a := by
  unfold Lit.wf at h
  simp only [Bool.and_eq_true, decide_eq_true_eq] at h
  exact h
theorem pN_sg {A : Int} (h0 : 0 ≤ A) (h1 : A < 9223372036854775808) (b : Bool) : pN (A + sg b) = A + sg (!b) := by
  unfold pN
  cases b
  · rw [show sg false = 0 from rfl, show sg (!false) = 9223372036854775808 from rfl, if_pos (by omega)]; omega
  · rw [show sg true = 9223372036854775808 from rfl, show sg (!true) = 0 from rfl, if_neg (by omega)]; omega
theorem one_parts : pC 4607182418800017408 = 2 ∧ pX 4607182418800017408 = -52 ∧ pS 4607182418800017408 = 4503599627370496 ∧ pM 4607182418800017408 = false := by decide
theorem zero_iff {a : Int} : pA a = 0 ↔ pC a = 0 := by
  have hE := pE_bd a
  have hF := pF_bd a
  have e : pA a = pE a * 4503599627370496 + pF a := by unfold pA pE pF; omega
  unfold pC
  rw [e]
  constructor
  · intro h
    rw [if_neg (by omega), if_neg (by omega), if_neg (by omega)]
  · intro h
    split at h
    · split at h; omega; split at h <;> omega
    · split at h; omega; split at h <;> omega
theorem inf_iff {a : Int} : pA a = 9218868437227405312 ↔ pC a = 3 := by
  have hE := pE_bd a
  have hF := pF_bd a
  have e : pA a = pE a * 4503599627370496 + pF a := by unfold pA pE pF; omega
  unfold pC
  rw [e]
  constructor
  · intro h
    rw [if_pos (by omega), if_pos (by omega)]
  · intro h
    split at h
    · split at h; omega; split at h <;> omega
    · split at h; omega; split at h <;> omega
theorem odd_cut {s : Nat} {e n : Int} (h : e < n) (ho : rOdd s e n = false) : cutQ s e n * 2 ^ (n - e).toNat = s := by
  unfold rOdd cutH cutR at ho
  rw [if_neg (by omega), if_neg (by omega)] at ho
  obtain ⟨k, hk⟩ : ∃ k, (n - e).toNat = k + 1 := ⟨(n - e).toNat - 1, by omega⟩
  rw [show (n - e - 1).toNat = k by omega] at ho
  obtain ⟨h1, h2⟩ := Bool.or_eq_false_iff.1 ho
  have h1 := of_decide_eq_false h1
  have h2 := of_decide_eq_false h2
  have g2 : s % 2 ^ k = 0 := by omega
  have g1 : s / 2 ^ k % 2 = 0 := by omega
  have hm : s % 2 ^ (k + 1) = 0 := by rw [Nat.pow_succ, Nat.mod_mul, g1, g2, Nat.mul_zero]
  unfold cutQ
  rw [if_neg (by omega), hk]
  exact Nat.div_mul_cancel (Nat.dvd_of_mod_eq_zero hm)
theorem sq_exact {x : Int} {s : Nat} {p m : Int} (hs : s ≠ 0) (h : rRound false x s m = (p, 0)) :
    U p ∧ pM p = false ∧ pC p ≠ 0 ∧ pC p < 3 ∧ pX p = rN x s ∧ (pS p).toNat = cutQ s x (rN x s) ∧ rOdd s x (rN x s) = false := by
  rw [round_eq _ _ _ _ hs] at h
  by_cases c : 9218868437227405312 ≤ PQ false x s m
  · rw [if_pos c] at h
    exact absurd (congrArg Prod.snd h) (by show ¬ (20 : Int) = 0; decide)
  · rw [if_neg c] at h
    have h1 : PQ false x s m + 0 = p := congrArg Prod.fst h
    have h2 : rFlag false x s m = 0 := congrArg Prod.snd h
    have ho : rOdd s x (rN x s) = false := by
      rcases rFlag_cases false x s m with ⟨_, g⟩ | ⟨g, _⟩
      · exact g
      · omega
    have hu := uu_exact false x s m ho
    have hl := cutQ53_lt (x := x) hs
    have hg := cutQ_ge (x := x) hs
    have hn := rN_ge x s
    have h0 : cutQ s x (rN x s) ≠ 0 := by
      intro z
      by_cases hc : rN x s ≤ x
      · have := cutQ_no_mod hs hc
        rw [z] at this
        have h3 : 0 < s * 2 ^ (x - rN x s).toNat := Nat.mul_pos (by omega) (Nat.two_pow_pos _)
        omega
      · have := odd_cut (show x < rN x s by omega) ho
        rw [z, Nat.zero_mul] at this
        exact hs this.symm
    unfold PQ at h1 c
    rw [hu] at h1 c
    rw [show (2 : Nat) ^ 53 = 9007199254740992 from rfl] at hl
    rw [show (2 : Nat) ^ 52 = 4503599627370496 from rfl] at hg
    generalize cutQ s x (rN x s) = q at *
    generalize rN x s = n at *
    refine ⟨by unfold U; omega, by unfold pM; exact decide_eq_false (by omega), ?_⟩
    by_cases big : 4503599627370496 ≤ q
    · have e1 : pE p = n + 1075 := by unfold pE; omega
      have e2 : pF p = (q : Int) - 4503599627370496 := by unfold pF; omega
      unfold pC pX pS
      rw [e1, e2, if_neg (by omega), if_pos (by omega), if_neg (by omega), if_pos (by omega), if_neg (by omega), if_pos (by omega)]
      refine ⟨by omega, by omega, by omega, by omega, ho⟩
    · have hn2 : n = -1074 := by
        rcases (show -1074 < n ∨ n ≤ -1074 by omega) with g | g
        · exact absurd (hg g) big
        · omega
      have e1 : pE p = 0 := by unfold pE; omega
      have e2 : pF p = (q : Int) := by unfold pF; omega
      unfold pC pX pS
      rw [e1, e2, if_neg (by omega), if_neg (by omega), if_pos (by omega), if_neg (by omega), if_neg (by omega), if_neg (by omega), if_neg (by omega)]
      refine ⟨by omega, by omega, by omega, by omega, ho⟩
theorem mod_two_pow (s k : Nat) : s % 2 ^ (k + 1) = s % 2 ^ k + 2 ^ k * (s / 2 ^ k % 2) := by rw [Nat.pow_succ, Nat.mod_mul]
theorem odd_of (s : Nat) {e n : Int} (h : e < n) : rOdd s e n = decide (s % 2 ^ (n - e).toNat ≠ 0) := by
  unfold rOdd cutH cutR
  rw [if_neg (by omega), if_neg (by omega)]
  obtain ⟨k, hk⟩ : ∃ k, (n - e).toNat = k + 1 := ⟨(n - e).toNat - 1, by omega⟩
  rw [hk, show (n - e - 1).toNat = k by omega, mod_two_pow]
  have hp := Nat.two_pow_pos k
  have h2 : s / 2 ^ k % 2 = 0 ∨ s / 2 ^ k % 2 = 1 := by omega
  rw [Bool.eq_iff_iff]
  simp only [Bool.or_eq_true, decide_eq_true_eq]
  rcases h2 with h2 | h2 <;> rw [h2] <;> omega
def md (m : Int) : Int := if m < 0 ∨ 4 < m then 0 else m
end Go.Proofs.Ytbgefpeicmbgiaa
end
section
namespace Go.Proofs.Ytbgefpeicmbgiaa
set_option linter.unusedVariables false
set_option linter.unusedSimpArgs false
open Go.RowKit
def pV (p : Int) : Nat := (pS p).toNat * 2 ^ (pX p + 1074).toNat
theorem pE_fin {p : Int} (h : pC p < 3) : pE p < 2047 := by
  have h1 := pE_bd p
  unfold pC at h
  rcases (show pE p = 2047 ∨ pE p < 2047 by omega) with g | g
  · rw [if_pos g] at h
    split at h
    · omega
    · split at h <;> omega
  · exact g
theorem pV_eq {p : Int} (h : pC p < 3) : pE p = 0 ∧ pV p = (pF p).toNat ∨ 0 < pE p ∧ pE p < 2047 ∧ pV p = ((pF p).toNat + 4503599627370496) * 2 ^ (pE p - 1).toNat := by
  have h1 := pE_bd p
  have h2 := pF_bd p
  have h3 := pE_fin h
  have hE : ¬ pE p = 2047 := by omega
  unfold pV pX pS
  rw [if_neg hE, if_neg hE]
  by_cases g : 0 < pE p
  · right
    rw [if_pos g, if_pos g, show (pE p - 1075 + 1074).toNat = (pE p - 1).toNat by omega, show (pF p + 4503599627370496).toNat = (pF p).toNat + 4503599627370496 by omega]
    exact ⟨g, h3, rfl⟩
  · left
    rw [if_neg g, if_neg g, show (-1074 + 1074 : Int).toNat = 0 from rfl, Nat.pow_zero, Nat.mul_one]
    exact ⟨by omega, rfl⟩
theorem pA_EF (p : Int) : pA p = pE p * 4503599627370496 + pF p := by unfold pA pE pF; omega
theorem pV_mono {a b : Int} (ha : pC a < 3) (hb : pC b < 3) (h : pA a < pA b) : pV a < pV b := by
  rw [pA_EF, pA_EF] at h
  have ea := pE_bd a
  have eb := pE_bd b
  have fa := pF_bd a
  have fb := pF_bd b
  rcases pV_eq ha with ⟨a1, a2⟩ | ⟨a1, a2, a3⟩
  · rcases pV_eq hb with ⟨b1, b2⟩ | ⟨b1, b2, b3⟩
    · rw [a2, b2]; rw [a1, b1] at h; omega
    · rw [a2, b3]
      refine Nat.lt_of_lt_of_le ?_ (Nat.le_mul_of_pos_right _ (Nat.two_pow_pos _))
      omega
  · rcases pV_eq hb with ⟨b1, b2⟩ | ⟨b1, b2, b3⟩
    · exfalso; rw [b1] at h; omega
    · rw [a3, b3]
      by_cases e : pE a = pE b
      · rw [e] at h ⊢
        exact Nat.mul_lt_mul_of_pos_right (by omega) (Nat.two_pow_pos _)
      · obtain ⟨k, hk⟩ : ∃ k, (pE b - 1).toNat = (pE a - 1).toNat + (k + 1) := ⟨(pE b - 1).toNat - (pE a - 1).toNat - 1, by omega⟩
        rw [hk, Nat.pow_add, Nat.pow_succ]
        have p1 := Nat.two_pow_pos (pE a - 1).toNat
        have p2 := Nat.two_pow_pos k
        generalize 2 ^ (pE a - 1).toNat = X at *
        generalize 2 ^ k = Y at *
        refine Nat.lt_of_lt_of_le (Nat.mul_lt_mul_of_pos_right (show (pF a).toNat + 4503599627370496 < 4503599627370496 * 2 by omega) p1) ?_
        rw [show ((pF b).toNat + 4503599627370496) * (X * (Y * 2)) = ((pF b).toNat + 4503599627370496) * (Y * 2) * X by simp only [Nat.mul_assoc, Nat.mul_comm X, Nat.mul_left_comm X]]
        exact Nat.mul_le_mul_right _ (Nat.mul_le_mul (by omega) (by omega))
theorem EF_inj {a b : Int} (h : pA a = pA b) : pE a = pE b ∧ pF a = pF b := by
  rw [pA_EF, pA_EF] at h
  have ea := pE_bd a
  have eb := pE_bd b
  have fa := pF_bd a
  have fb := pF_bd b
  omega
theorem pV_same {a b : Int} (h : pA a = pA b) : pV a = pV b := by
  obtain ⟨h1, h2⟩ := EF_inj h
  unfold pV pS pX
  rw [h1, h2]
theorem pV_lt_iff {a b : Int} (ha : pC a < 3) (hb : pC b < 3) : pV a < pV b ↔ pA a < pA b := by
  constructor
  · intro h
    rcases Int.lt_trichotomy (pA a) (pA b) with g | g | g
    · exact g
    · have := pV_same g; omega
    · have := pV_mono hb ha g; omega
  · exact pV_mono ha hb
theorem pV_le_iff {a b : Int} (ha : pC a < 3) (hb : pC b < 3) : pV a ≤ pV b ↔ pA a ≤ pA b := by
  have := pV_lt_iff hb ha
  omega
theorem pV_inj {a b : Int} (ha : pC a < 3) (hb : pC b < 3) (h : pV a = pV b) : pA a = pA b := by
  have h1 := pV_le_iff ha hb
  have h2 := pV_le_iff hb ha
  have := h1.1 (by omega)
  have := h2.1 (by omega)
  omega
theorem pA_self {p : Int} (h0 : 0 ≤ p) (h1 : p < 9223372036854775808) : pA p = p := by unfold pA; omega
theorem pA_sg {p : Int} (hp : U p) : p = pA p + sg (pM p) := by
  unfold U at hp
  unfold pA pM sg
  by_cases h : 9223372036854775808 ≤ p
  · rw [decide_eq_true h, if_pos rfl]; omega
  · rw [decide_eq_false h, if_neg (by decide)]; omega
theorem sgM {A : Int} (h0 : 0 ≤ A) (h1 : A < 9223372036854775808) (b : Bool) : pM (A + sg b) = b := by
  unfold pM
  cases b
  · exact decide_eq_false (by simp only [sg]; simp; omega)
  · exact decide_eq_true (by simp only [sg]; simp; omega)
theorem sgA {A : Int} (h0 : 0 ≤ A) (h1 : A < 9223372036854775808) (b : Bool) : pA (A + sg b) = A := by
  unfold pA
  cases b <;> simp only [sg] <;> simp <;> omega
theorem sgAA (A : Int) (b : Bool) : pA (A + sg b) = pA A := by
  unfold pA
  cases b <;> simp only [sg] <;> simp <;> omega
theorem C_same {a b : Int} (h : pA a = pA b) : pC a = pC b ∧ pX a = pX b ∧ pS a = pS b := by
  obtain ⟨h1, h2⟩ := EF_inj h
  unfold pC pX pS
  rw [h1, h2]
  exact ⟨rfl, rfl, rfl⟩
theorem sgU {A : Int} (h0 : 0 ≤ A) (h1 : A < 9223372036854775808) (b : Bool) : U (A + sg b) := by have := sg_bd b; unfold U; omega
theorem fin_of {p : Int} (h0 : 0 ≤ p) (h1 : p < 9218868437227405312) : pC p < 3 := (fin_iff p (by unfold U; omega)).1 (by rw [pA_self h0 (by omega)]; exact h1)
theorem pV_zero {p : Int} (h : pC p < 3) : pV p = 0 ↔ pA p = 0 := by
  have := pA_bd p
  constructor
  · intro g
    have z : pV 0 = 0 := by decide
    have := pV_inj h (show pC 0 < 3 by decide) (by rw [g, z])
    rw [this]; decide
  · intro g
    have z : pV 0 = 0 := by decide
    rw [← z]
    exact pV_same (by rw [g]; decide)
theorem cut_fit {s : Nat} {x n : Int} (h : n ≤ x) : cutH s x n = false ∧ cutR s x n = false := by
  unfold cutH cutR
  rw [if_pos h, if_pos h]
  exact ⟨rfl, rfl⟩
theorem round_fit {x : Int} {s : Nat} (hs : s < 2 ^ 53) (hx : -1074 ≤ x) (hx2 : x ≤ 971) :
    ∃ p, 0 ≤ p ∧ p < 9218868437227405312 ∧ pC p < 3 ∧ pV p = s * 2 ^ (x + 1074).toNat ∧ ∀ mi m, rRound mi x s m = (p + sg mi, 0) := by
  by_cases z : s = 0
  · refine ⟨0, by omega, by omega, by decide, ?_, fun mi m => ?_⟩
    · rw [z, Nat.zero_mul]; decide
    · unfold rRound; rw [if_pos z, Int.zero_add]
  · have hb : blen s ≤ 53 := blen_le_iff.2 hs
    have hN : rN x s ≤ x := by rcases rN_cases x s with h | h <;> omega
    obtain ⟨c1, c2⟩ := cut_fit (s := s) hN
    have ho : rOdd s x (rN x s) = false := by unfold rOdd; rw [c1, c2]; rfl
    have hQ := cutQ_no_mod z hN
    have hl := cutQ53_lt (x := x) z
    rw [show (2 : Nat) ^ 53 = 9007199254740992 from rfl] at hl
    have hn := rN_ge x s
    have hPQ : ∀ mi m, PQ mi x s m = ((cutQ s x (rN x s) : Nat) : Int) + (rN x s + 1074) * 4503599627370496 := fun mi m => by unfold PQ; rw [uu_exact _ _ _ _ ho]; rfl
    have hF : ∀ mi m, rFlag mi x s m = 0 := fun mi m => by
      rcases rFlag_cases mi x s m with g | g
      · exact g.1
      · rw [ho] at g; exact absurd g.2 (by decide)
    have e : ∀ mi m, rRound mi x s m = (((cutQ s x (rN x s) : Nat) : Int) + (rN x s + 1074) * 4503599627370496 + sg mi, 0) := fun mi m => by
      rw [round_eq _ _ _ _ z, hPQ, hF, if_neg (by omega)]
    have e0 := e false 0
    rw [show sg false = 0 from rfl, Int.add_zero] at e0
    obtain ⟨_, _, h3, h4, h5, h6, _⟩ := sq_exact z e0
    refine ⟨_, by omega, by omega, h4, ?_, e⟩
    unfold pV
    rw [h5, h6, hQ, Nat.mul_assoc, ← Nat.pow_add]
    congr 2
    omega
end Go.Proofs.Ytbgefpeicmbgiaa
end
section
namespace Go.Proofs.Ytbgefpeicmbgiaa
set_option linter.unusedVariables false
set_option linter.unusedSimpArgs false
open Go.RowKit
def sSum (mx : Bool) (ex : Int) (sx : Nat) (my : Bool) (ey : Int) (sy : Nat) (m : Int) : Bool × Int × Nat :=
  if sx = 0 then (if sy = 0 then (if mx = my then mx else decide (m = 4), ex, 0) else (my, ey, sy))
  else if sy = 0 then (mx, ex, sx)
  else if ey ≤ ex then
    (if mx = my then (my, ey, sx * 2 ^ (ex - ey).toNat + sy) else if sx * 2 ^ (ex - ey).toNat = sy then (decide (m = 4), ey, 0) else if sy < sx * 2 ^ (ex - ey).toNat then (mx, ey, sx * 2 ^ (ex - ey).toNat - sy) else (my, ey, sy - sx * 2 ^ (ex - ey).toNat))
  else
    (if mx = my then (mx, ex, sy * 2 ^ (ey - ex).toNat + sx) else if sy * 2 ^ (ey - ex).toNat = sx then (decide (m = 4), ex, 0) else if sx < sy * 2 ^ (ey - ex).toNat then (my, ex, sy * 2 ^ (ey - ex).toNat - sx) else (mx, ex, sx - sy * 2 ^ (ey - ex).toNat))
def rNum (mi : Bool) (e : Int) (s : Nat) (o : Bool) (m : Int) : Int × Int := rRound mi (rX o e) (rS o s) m
theorem rNum_false (mi : Bool) (e : Int) (s : Nat) (m : Int) : rNum mi e s false m = rRound mi e s m := rfl
theorem rNum_cut (mi : Bool) (e : Int) (s sh : Nat) (m : Int) (hq : 2 ^ 54 ≤ s / 2 ^ sh) : rNum mi (e + sh) (s / 2 ^ sh) (decide (s % 2 ^ sh ≠ 0)) m = rRound mi e s m := by
  by_cases z : s % 2 ^ sh = 0
  · rw [decide_eq_false (by omega), rNum_false]
    have h := round_scale mi (e + sh) (s / 2 ^ sh) sh m
    rw [show e + (sh : Int) - (sh : Int) = e by omega, Nat.div_mul_cancel (Nat.dvd_of_mod_eq_zero z)] at h
    exact h.symm
  · obtain ⟨j, hj⟩ : ∃ j, sh = j + 1 := by
      cases sh with
      | zero => rw [Nat.pow_zero, Nat.mod_one] at z; exact absurd rfl z
      | succ j => exact ⟨j, rfl⟩
    subst hj
    have h := round_sticky mi e s j m hq
    rw [if_pos z] at h
    rw [decide_eq_true z, ← h]
    unfold rNum rX rS
    rw [if_pos rfl, if_pos rfl, show e + ((j + 1 : Nat) : Int) - 1 = e + (j : Int) by omega]
theorem beside_add {S y sh : Nat} : (S * 2 ^ sh + y) / 2 ^ sh = S + y / 2 ^ sh ∧ (S * 2 ^ sh + y) % 2 ^ sh = y % 2 ^ sh := by
  have hp := Nat.two_pow_pos sh
  refine ⟨?_, ?_⟩
  · rw [Nat.add_comm, Nat.add_mul_div_right _ _ hp, Nat.add_comm]
  · rw [Nat.add_comm, Nat.add_mul_mod_self_right]
theorem beside_sub {S y sh : Nat} (h : y / 2 ^ sh < S) : (S * 2 ^ sh - y) / 2 ^ sh = S - y / 2 ^ sh - (if y % 2 ^ sh ≠ 0 then 1 else 0) ∧ ((S * 2 ^ sh - y) % 2 ^ sh ≠ 0 ↔ y % 2 ^ sh ≠ 0) := by
  have hp := Nat.two_pow_pos sh
  have hdm := Nat.div_add_mod y (2 ^ sh)
  have hml := Nat.mod_lt y hp
  generalize hq : y / 2 ^ sh = q at *
  generalize hr : y % 2 ^ sh = r at *
  generalize hP : 2 ^ sh = P at *
  obtain ⟨T, hT⟩ : ∃ T, S = q + 1 + T := ⟨S - q - 1, by omega⟩
  have e1 : S * P = P * q + P + T * P := by rw [hT, Nat.add_mul, Nat.add_mul, Nat.one_mul, Nat.mul_comm q P]
  by_cases z : r = 0
  · subst z
    have e : S * P - y = (T + 1) * P := by rw [Nat.add_mul, Nat.one_mul]; omega
    rw [e, Nat.mul_div_cancel _ hp, Nat.mul_mod_left, if_neg (by omega)]
    exact ⟨by omega, Iff.rfl⟩
  · have e : S * P - y = T * P + (P - r) := by omega
    rw [e, if_pos z]
    refine ⟨?_, ?_⟩
    · rw [Nat.add_comm, Nat.add_mul_div_right _ _ hp, Nat.div_eq_of_lt (by omega)]; omega
    · rw [Nat.add_comm, Nat.add_mul_mod_self_right, Nat.mod_eq_of_lt (by omega)]
      omega
end Go.Proofs.Ytbgefpeicmbgiaa
end
