import Derived.Laws.StructEq
import Derived.Laws.Slices
import Derived.Test.YthcgeekibomhiaaProg
import Derived.Below
import Derived.Deep.Draws
import Derived.Deep.AppendLies
import Derived.Maps.AppendAt
import Derived.OwnWalk
import Derived.Laws.BytesArg
import Derived.Laws.MakeOwn
import Derived.Laws.OwnMore
import Derived.Deep.OwnRows
import Derived.Tactics
import Derived.Lib.ConvBytes
import Derived.WalkKit
import Derived.KernelRfl
import Derived.RowKit3
import Derived.Deep.LoopGhost
import Derived.Deep.QuietTactic
import Derived.BigQuiet
import Derived.WideLaws
import Derived.Deep.DeepCutAuto
import Derived.Deep.CutBlock
import Derived.Deep.RegionHeld3
import Derived.Laws.Rows
import Derived.Lib.AppendStr
import Derived.ArgAppend
import Derived.Laws.IdiomCopy
import Derived.OrdersHeld
import Derived.Laws.BitsLemmas
import Derived.RowKit
import Derived.Test.YthcgeekibomhiaaKM0
import Derived.Test.YthcgeekibomhiaaKMDenM
import Derived.Test.YthcgeekibomhiaaKMBaseC
import Derived.Test.YthcgeekibomhiaaKMWWords
section
namespace Go.Proofs.YthcgeekibomhiaaW.PrintLast
open Go.Proofs.YthcgeekibomhiaaW.PrintWords (Aside0)
def needsOf (md : Region.Mode) (o : Oper) : List Nat := (o.after.toList.filter (fun e => Region.binds md e)).map (fun e => e.on)
def clashOf (md : Region.Mode) (ops : Array Oper) (i : Nat) (oi : Oper) : List Nat := (List.range ops.size).filter fun j => !(j == i) && match ops[j]? with
  | some oj => !(oj.after.any (fun e => Region.binds md e && e.on == i) || oi.apart ops oj)
  | none => false
def rtab (md : Region.Mode) (ops : Array Oper) : Bool × List (List Nat × List Nat) := (Region.noSelect ops, (List.range ops.size).map fun i => match ops[i]? with
  | some o => (needsOf md o, clashOf md ops i o)
  | none => ([], []))
def readyAt (T : List (List Nat × List Nat)) (l : List Bool) (i : Nat) : Bool := !l.getD i true && match T[i]? with
  | some r => r.1.all (fun j => l.getD j false)
  | none => false
def readyT (T : List (List Nat × List Nat)) (l : List Bool) : List Nat := (List.range T.length).filter (readyAt T l)
def freeT (T : List (List Nat × List Nat)) (l : List Bool) (i : Nat) : Bool := match T[i]? with
  | some r => r.2.all (fun j => l.getD j true)
  | none => false
def closedT (T : List (List Nat × List Nat)) (l : List Bool) : Bool := (List.range T.length).all fun j => !l.getD j false || match T[j]? with
  | some r => r.1.all (fun k => l.getD k false)
  | none => true
def reachT (T : List (List Nat × List Nat)) (i : Nat) : Nat → Nat → Bool
  | 0, _ => false
  | fuel + 1, d => match T[d]? with
    | some r => r.1.any fun j => j == i || reachT T i fuel j
    | none => false
def lastT (T : List (List Nat × List Nat)) (l : List Bool) (ds : List Nat) (i : Nat) : Bool := ds.all fun d => l.getD d true || reachT T i T.length d
section
variable {md : Region.Mode} {ops : Array Oper} {T : Bool × List (List Nat × List Nat)} {l l' li lj lk : Array Bool} {ds : List Nat} {i j k : Nat}
theorem gd (l : Array Bool) (j : Nat) (b : Bool) : l.getD j b = l.toList.getD j b := by simp [Array.getD_eq_getD_getElem?, List.getD_eq_getElem?_getD]
theorem needs_all (o : Oper) (p : Nat → Bool) : o.after.all (fun e => !Region.binds md e || p e.on) = (needsOf md o).all p := by
  unfold needsOf
  rw [← Array.all_toList]
  induction o.after.toList with
  | nil => rfl
  | cons e r ih =>
    rw [List.all_cons, ih, List.filter_cons]
    cases h : Region.binds md e <;> simp
theorem needs_any (o : Oper) (p : Nat → Bool) : o.after.any (fun e => Region.binds md e && p e.on) = (needsOf md o).any p := by
  unfold needsOf
  rw [← Array.any_toList]
  induction o.after.toList with
  | nil => rfl
  | cons e r ih =>
    rw [List.any_cons, ih, List.filter_cons]
    cases h : Region.binds md e <;> simp
theorem rtab_length : (rtab md ops).2.length = ops.size := by simp [rtab]
theorem rtab_some {o : Oper} (h : ops[i]? = some o) : (rtab md ops).2[i]? = some (needsOf md o, clashOf md ops i o) := by
  have hi := (Array.getElem?_eq_some_iff.1 h).1
  unfold rtab
  rw [List.getElem?_map, List.getElem?_range hi, Option.map_some, h]
theorem rtab_none (h : ops[i]? = none) : (rtab md ops).2[i]? = none := by
  have hi : ops.size ≤ i := Array.getElem?_eq_none_iff.1 h
  exact List.getElem?_eq_none (by rw [rtab_length]; exact hi)
theorem readyAt_eq : readyAt (rtab md ops).2 l.toList i = (!l.getD i true && ((ops[i]?).map (·.after.all fun e => !Region.binds md e || l.getD e.on false)).getD false) := by
  unfold readyAt
  rw [gd]
  cases h : ops[i]? with
  | none => rw [rtab_none h]; rfl
  | some o =>
    rw [rtab_some h]
    simp only [Option.map_some, Option.getD_some]
    rw [← needs_all]
    simp only [gd]
theorem ready_eq : Region.ready md ops l = readyT (rtab md ops).2 l.toList := by
  unfold Region.ready readyT
  rw [rtab_length]
  refine List.filter_congr (fun i _ => ?_)
  rw [readyAt_eq]
theorem free_eq : Region.free md ops l i = freeT (rtab md ops).2 l.toList i := by
  unfold Region.free freeT
  cases h : ops[i]? with
  | none => rw [rtab_none h]
  | some oi =>
    rw [rtab_some h]
    simp only [clashOf]
    rw [List.all_filter]
    congr 1
    funext j
    rw [gd]
    cases hj : ops[j]? with
    | none => cases (j == i) <;> cases (l.toList.getD j true) <;> simp
    | some oj =>
      cases (j == i) <;> cases (l.toList.getD j true) <;> cases (oj.after.any (fun e => Region.binds md e && e.on == i) || oi.apart ops oj) <;> simp_all
theorem closed_eq : Region.closedB md ops l = closedT (rtab md ops).2 l.toList := by
  unfold Region.closedB closedT
  rw [rtab_length]
  congr 1
  funext j
  rw [gd]
  cases h : ops[j]? with
  | none => rw [rtab_none h]
  | some o =>
    rw [rtab_some h]
    simp only
    rw [← needs_all]
    simp only [gd]
theorem reach_eq : ∀ (fuel d : Nat), Region.reachB md ops i fuel d = reachT (rtab md ops).2 i fuel d
  | 0, _ => rfl
  | fuel + 1, d => by
    unfold Region.reachB reachT
    cases h : ops[d]? with
    | none => rw [rtab_none h]
    | some o =>
      rw [rtab_some h]
      simp only
      rw [← needs_any]
      congr 1
      funext e
      rw [reach_eq fuel]
theorem last_eq : Region.lastB md ops l ds i = lastT (rtab md ops).2 l.toList ds i := by
  unfold Region.lastB lastT
  rw [rtab_length]
  congr 1
  funext d
  rw [gd, reach_eq]
theorem readyAt_mem (h : readyAt T.2 l.toList i = true) (hT : rtab md ops = T) : (Region.ready md ops l).contains i = true := by
  subst hT
  rw [ready_eq]
  unfold readyT
  rw [List.contains_iff_mem, List.mem_filter, List.mem_range]
  refine ⟨?_, h⟩
  unfold readyAt at h
  rw [Bool.and_eq_true] at h
  cases hq : (rtab md ops).2[i]? with
  | none => rw [hq] at h; simp at h
  | some r => exact (List.getElem?_eq_some_iff.1 hq).1
theorem set_of (h : (l.toList.set i true == l'.toList) = true) : (l.setIfInBounds i true == l') = true := by
  rw [beq_iff_eq] at h ⊢
  apply Array.ext'
  rw [Array.toList_setIfInBounds]
  exact h
def anyT (T : Bool × List (List Nat × List Nat)) (l l' : List Bool) (i : Nat) : Bool := T.1 && freeT T.2 l i && readyAt T.2 l i && (l.set i true == l')
theorem any_of (hT : rtab md ops = T) (h : anyT T l.toList l'.toList i = true) : anyB md ops l l' i = true := by
  simp only [anyT, Bool.and_eq_true] at h
  obtain ⟨⟨⟨h1, h2⟩, h3⟩, h4⟩ := h
  have h5 := readyAt_mem h3 hT
  have h6 := set_of h4
  subst hT
  simp only [anyB, Bool.and_eq_true]
  exact ⟨⟨⟨h1, by rw [free_eq]; exact h2⟩, h5⟩, h6⟩
def takeT (T : Bool × List (List Nat × List Nat)) (ds : List Nat) (l l' : List Bool) (i : Nat) : Bool := T.1 && freeT T.2 l i && readyAt T.2 l i && closedT T.2 l && lastT T.2 l ds i && (l.set i true == l')
theorem take_of (hT : rtab md ops = T) (h : takeT T ds l.toList l'.toList i = true) : takeB md ops ds l l' i = true := by
  simp only [takeT, Bool.and_eq_true] at h
  obtain ⟨⟨⟨⟨⟨h1, h2⟩, h3⟩, h4⟩, h5⟩, h6⟩ := h
  have h7 := readyAt_mem h3 hT
  have h8 := set_of h6
  subst hT
  simp only [takeB, Bool.and_eq_true]
  exact ⟨⟨⟨⟨⟨h1, by rw [free_eq]; exact h2⟩, h7⟩, by rw [closed_eq]; exact h4⟩, by rw [last_eq]; exact h5⟩, h8⟩
theorem one_of (hT : rtab md ops = T) (h : (readyT T.2 l.toList == [i] && l.toList.set i true == l'.toList) = true) : readyB md ops l l' i = true := by
  simp only [Bool.and_eq_true] at h
  obtain ⟨h1, h2⟩ := h
  subst hT
  simp only [readyB, Bool.and_eq_true]
  exact ⟨by rw [ready_eq]; exact h1, set_of h2⟩
theorem done_of (hT : rtab md ops = T) (h : (readyT T.2 l.toList == []) = true) : (Region.ready md ops l == []) = true := by
  subst hT
  rw [ready_eq]
  exact h
def upM (B : List Nat) (d : Nat) : List Nat → Nat
  | [] => 0
  | n :: r => (2 ^ n ||| (if n < d then B.getD n 0 else 0)) ||| upM B d r
def waitsOk (T : List (List Nat × List Nat)) (B : List Nat) : Bool := (List.range T.length).all fun d => match T[d]? with
  | some r => (B.getD d 0 ||| upM B d r.1) == upM B d r.1
  | none => false
theorem upM_bit {B : List Nat} {d i : Nat} : ∀ {ns : List Nat}, (upM B d ns).testBit i = true → ∃ n ∈ ns, n = i ∨ (n < d ∧ (B.getD n 0).testBit i = true)
  | [], h => by simp [upM] at h
  | n :: r, h => by
    unfold upM at h
    rw [Nat.testBit_or, Nat.testBit_or, Bool.or_eq_true, Bool.or_eq_true] at h
    rcases h with (h | h) | h
    · rw [Nat.testBit_two_pow] at h
      exact ⟨n, List.mem_cons_self, .inl (by simpa using h)⟩
    · by_cases hn : n < d
      · rw [if_pos hn] at h
        exact ⟨n, List.mem_cons_self, .inr ⟨hn, h⟩⟩
      · rw [if_neg hn] at h
        simp at h
    · obtain ⟨m, hm, h2⟩ := upM_bit h
      exact ⟨m, List.mem_cons_of_mem _ hm, h2⟩
theorem reach_bit {T : List (List Nat × List Nat)} {B : List Nat} (hB : waitsOk T B = true) : ∀ (fuel d : Nat), d < fuel → d < T.length → (B.getD d 0).testBit i = true → reachT T i fuel d = true
  | 0, d, h, _, _ => by omega
  | fuel + 1, d, h, hd, hb => by
    have h1 := List.all_eq_true.1 hB d (List.mem_range.2 hd)
    cases hr : T[d]? with
    | none => rw [hr] at h1; simp at h1
    | some r =>
      rw [hr] at h1
      simp only [beq_iff_eq] at h1
      have h2 : (upM B d r.1).testBit i = true := by rw [← h1, Nat.testBit_or, hb, Bool.true_or]
      obtain ⟨n, hn, h3⟩ := upM_bit h2
      unfold reachT
      rw [hr]
      simp only
      rw [List.any_eq_true]
      refine ⟨n, hn, ?_⟩
      rcases h3 with rfl | ⟨h4, h5⟩
      · simp
      · rw [reach_bit hB fuel n (by omega) (by omega) h5, Bool.or_true]
def lastW (T : List (List Nat × List Nat)) (B : List Nat) (l : List Bool) (ds : List Nat) (i : Nat) : Bool := ds.all fun d => l.getD d true || (decide (d < T.length) && (B.getD d 0).testBit i)
def takeW (T : Bool × List (List Nat × List Nat)) (B : List Nat) (ds : List Nat) (l l' : List Bool) (i : Nat) : Bool := T.1 && freeT T.2 l i && readyAt T.2 l i && closedT T.2 l && lastW T.2 B l ds i && (l.set i true == l')
theorem take_ofW {B : List Nat} (hT : rtab md ops = T) (hB : waitsOk T.2 B = true) (h : takeW T B ds l.toList l'.toList i = true) : takeB md ops ds l l' i = true := by
  refine take_of hT ?_
  simp only [takeW, takeT, Bool.and_eq_true] at h ⊢
  obtain ⟨⟨⟨⟨⟨h1, h2⟩, h3⟩, h4⟩, h5⟩, h6⟩ := h
  refine ⟨⟨⟨⟨⟨h1, h2⟩, h3⟩, h4⟩, ?_⟩, h6⟩
  unfold lastW at h5
  unfold lastT
  rw [List.all_eq_true] at h5 ⊢
  intro d hd
  have h7 := h5 d hd
  rw [Bool.or_eq_true, Bool.and_eq_true, decide_eq_true_eq] at h7
  rcases h7 with h7 | ⟨h8, h9⟩
  · rw [h7, Bool.true_or]
  · rw [reach_bit hB _ d h8 h8 h9, Bool.or_true]
theorem with_tabW {P : Program} {Q : Exit → Act → World → Prop} {S : World → Prop} {n : Nat} {a : Act} {w : World} {B : List Nat} (hT : rtab md ops = T) (hB : waitsOk T.2 B = true) (h : Aside0 (rtab md ops = T) → Aside0 (waitsOk T.2 B = true) → wpAnyLast P md ops Q S ds n l a w) : wpAnyLast P md ops Q S ds n l a w := h ⟨hT⟩ ⟨hB⟩
end
def opsIn : Code → Nat → Option (Array Oper)
  | .region id ops _, k => if id == k then some ops else none
  | .seq a b, k => match opsIn a k with
    | some o => some o
    | none => opsIn b k
  | .cond _ a b, k => match opsIn a k with
    | some o => some o
    | none => opsIn b k
  | .block _ c, k => opsIn c k
  | .loop c, k => opsIn c k
  | .scope c, k => opsIn c k
  | .rangeFunc _ _ a b, k => match opsIn a k with
    | some o => some o
    | none => opsIn b k
  | _, _ => none
def opsOf (f : Func) (k : Nat) : Array Oper := ((f.body.bind fun c => opsIn c k)).getD #[]
end Go.Proofs.YthcgeekibomhiaaW.PrintLast
end


section
namespace Go.Proofs.YthcgeekibomhiaaW.PrintWords
open Go.RowKit
namespace Kd
def tag {α : Type} (f : Nat → Nat) (d : Kd α) : Kd (α × Nat) where
  sz := d.sz
  E := d.E
  K := fun w x cs => d.K w x.1 cs
  M := fun w base ok x cs => d.M w base (fun k => ok k ∧ f k = x.2) x.1 cs
  K_len := fun h => d.K_len h
  K_one := fun h => d.K_one h
  K_below := fun hb h => d.K_below hb h
  K_of_M := fun h => d.K_of_M h
  M_mono := fun hok h => d.M_mono (fun k hk => ⟨hok k hk.1, hk.2⟩) h
  M_bound := fun h => d.M_mono (fun _ hk => ⟨⟨hk.1.1, hk.2⟩, hk.1.2⟩) (d.M_bound h)
  M_move := fun hm h => d.M_move (fun k hk => hm k hk.1) h
  M_lower := fun hb h => d.M_lower hb h
def raw (sz : Nat) : Kd (List Value) where
  sz := sz
  E := []
  K := fun _ x cs => cs = x ∧ cs.length = sz ∧ ∀ u ∈ cs, u.oneCell' = true
  M := fun _ _ _ x cs => cs = x ∧ cs.length = sz ∧ ∀ u ∈ cs, u.oneCell' = true
  K_len := fun h => h.2.1
  K_one := fun h => h.2.2
  K_below := fun _ h => h
  K_of_M := fun h => h
  M_mono := fun _ h => h
  M_bound := fun h => h
  M_move := fun _ h => h
  M_lower := fun _ h => h
def S {α : Type} (d : Kd α) (e : Nat) (w : World) (base : Nat) (ok : Nat → Prop) (v : Value) (xs : List α) : Prop := ∃ f, (tag f d).R e w base ok v xs.zipIdx
section
variable {α β : Type} {d : Kd α} {d' : Kd β} {e e' : Nat} {w w1 W : World} {base b : Nat} {ok ok' okv oku : Nat → Prop} {u v : Value} {xs : List α} {ys : List β}
theorem R_tight (hE : d.E = []) (h : d.R e w base ok v xs) : d.R e w base (fun k => some k = v.ownBlock) v xs := by
  obtain ⟨h0, inner, ho, hr⟩ := h
  refine ⟨fun k hk => hk.symm, inner, ho, hr.imp_ (fun p c hp => d.M_mono (fun k hk => ?_) (d.M_bound hp))⟩
  obtain ⟨_, _, _, q, hq, _⟩ := hk
  rw [hE] at hq
  cases hq
theorem S_nil (d : Kd α) (e : Nat) (w : World) (base : Nat) (ok : Nat → Prop) : S d e w base ok (.slice none 0 0) [] := ⟨fun _ => 0, R_nil _ _ _ _ _⟩
end
def gap {α : Type} (f : Nat → Nat) (d : Kd α) (i : Nat) (c : List Value) : Kd (α × Nat) where
  sz := d.sz
  E := d.E
  K := fun w x cs => (x.2 = i → cs = c ∧ cs.length = d.sz ∧ ∀ u ∈ cs, u.oneCell' = true) ∧ (x.2 ≠ i → d.K w x.1 cs)
  M := fun w base ok x cs => (x.2 = i → cs = c ∧ cs.length = d.sz ∧ ∀ u ∈ cs, u.oneCell' = true) ∧ (x.2 ≠ i → d.M w base (fun k => ok k ∧ f k = x.2) x.1 cs)
  K_len := fun {w x cs} h => by
    by_cases hx : x.2 = i
    · exact (h.1 hx).2.1
    · exact d.K_len (h.2 hx)
  K_one := fun {w x cs} h => by
    by_cases hx : x.2 = i
    · exact (h.1 hx).2.2
    · exact d.K_one (h.2 hx)
  K_below := fun hb h => ⟨h.1, fun hx => d.K_below hb (h.2 hx)⟩
  K_of_M := fun h => ⟨h.1, fun hx => d.K_of_M (h.2 hx)⟩
  M_mono := fun hok h => ⟨h.1, fun hx => d.M_mono (fun k hk => ⟨hok k hk.1, hk.2⟩) (h.2 hx)⟩
  M_bound := fun h => ⟨h.1, fun hx => d.M_mono (fun _ hk => ⟨⟨hk.1.1, hk.2⟩, hk.1.2⟩) (d.M_bound (h.2 hx))⟩
  M_move := fun hm h => ⟨h.1, fun hx => d.M_move (fun k hk => hm k hk.1) (h.2 hx)⟩
  M_lower := fun hb h => ⟨h.1, fun hx => d.M_lower hb (h.2 hx)⟩
def H {α : Type} (d : Kd α) (e : Nat) (w : World) (base : Nat) (ok : Nat → Prop) (v : Value) (xs : List α) (i : Int) (oki : Nat → Prop) (c : List Value) : Prop :=
  (∀ k, oki k → ok k) ∧ ∃ f, (gap f d i.toNat c).R e w base (fun k => ok k ∧ ¬ oki k) v xs.zipIdx
end Kd
end Go.Proofs.YthcgeekibomhiaaW.PrintWords
end
section
namespace Go.Proofs.YthcgeekibomhiaaW.PrintWords
open Go.RowKit
namespace Kd
theorem reps_one {α : Type} {R : α → List Value → Prop} {size : Nat} {ps : List α} {cs : List Value} (h : Reps R size ps cs) (hs0 : 0 < size) (hR : ∀ p c, R p c → ∀ u ∈ c, u.oneCell' = true) : ∀ u ∈ cs, u.oneCell' = true := by
  intro u hu
  obtain ⟨q, hq, rfl⟩ := List.mem_iff_getElem.1 hu
  have hql : q / size < ps.length := by
    rw [Nat.div_lt_iff_lt_mul hs0, ← h.1]
    exact hq
  refine hR _ _ (h.2 (q / size) _ (List.getElem?_eq_getElem hql)) _ ?_
  rw [List.mem_iff_getElem?]
  refine ⟨q % size, ?_⟩
  rw [List.getElem?_take, if_pos (Nat.mod_lt _ hs0), List.getElem?_drop, Nat.mul_comm, Nat.div_add_mod, List.getElem?_eq_getElem hq]
def arr {α : Type} (n : Nat) (d : Kd α) (hs : 0 < d.sz) : Kd (List α) where
  sz := n * d.sz
  E := d.E
  K := fun w xs cs => xs.length = n ∧ Reps (d.K w) d.sz xs cs
  M := fun w base ok xs cs => xs.length = n ∧ Reps (d.M w base ok) d.sz xs cs
  K_len := fun h => by rw [← h.1]; exact h.2.1
  K_one := fun h => reps_one h.2 hs (fun _ _ hk => d.K_one hk)
  K_below := fun hb h => ⟨h.1, h.2.imp_ (fun _ _ hk => d.K_below hb hk)⟩
  K_of_M := fun h => ⟨h.1, h.2.imp_ (fun _ _ hk => d.K_of_M hk)⟩
  M_mono := fun hok h => ⟨h.1, h.2.imp_ (fun _ _ hk => d.M_mono hok hk)⟩
  M_bound := fun h => ⟨h.1, h.2.imp_ (fun _ _ hk => d.M_bound hk)⟩
  M_move := fun hm h => ⟨h.1, h.2.imp_ (fun _ _ hk => d.M_move hm hk)⟩
  M_lower := fun hb h => ⟨h.1, h.2.imp_ (fun _ _ hk => d.M_lower hb hk)⟩
end Kd
end Go.Proofs.YthcgeekibomhiaaW.PrintWords
end

section
namespace Go.Proofs.YthcgeekibomhiaaW.PrintWords
open Go.RowKit
namespace Kd
structure Heap {α : Type} (d : Kd α) : Prop where
  K : ∀ {w w1 : World} {x : α} {cs : List Value}, (∀ k, k < w.heap.size → w1.heap[k]? = w.heap[k]?) → d.K w x cs → d.K w1 x cs
theorem cell_heap {w w1 : World} (hb : ∀ k, k < w.heap.size → w1.heap[k]? = w.heap[k]?) {a : Addr} {v : Value} (h : w.cell? a = some v) : w1.cell? a = some v := by
  have := hb a.block (World.block_lt_of_cell? w a h)
  simpa [World.cell?, this] using h
theorem Heap.C {α : Type} {d : Kd α} (hd : Heap d) {w w1 : World} {A : Option Addr} {n : Nat} {xs : List α} (hb : ∀ k, k < w.heap.size → w1.heap[k]? = w.heap[k]?) (h : d.C w A n xs) : d.C w1 A n xs :=
  ⟨h.1, h.2.1, fun hn => by
    obtain ⟨ad, e, hc⟩ := h.2.2 hn
    refine ⟨ad, e, fun j p hj => ?_⟩
    obtain ⟨c, hs, hr, hcell⟩ := hc j p hj
    exact ⟨c, hs, hd.K hb hr, fun i u hu => cell_heap hb (hcell i u hu)⟩⟩
end Kd
end Go.Proofs.YthcgeekibomhiaaW.PrintWords
end
section
namespace Go.Proofs.YthcgeekibomhiaaW.PrintWords
open Go.RowKit
def Kept (w W : World) (S : Nat → Prop) : Prop := w.heap.size ≤ W.heap.size ∧ ∀ i, i < w.heap.size → ¬ S i → W.heap[i]? = w.heap[i]?
section
variable {w W W2 : World} {S S2 S' : Nat → Prop}
theorem Kept.refl (w : World) (S : Nat → Prop) : Kept w w S := ⟨Nat.le_refl _, fun _ _ _ => rfl⟩
theorem Kept.of_below (h : Below w.heap.size w W) (S : Nat → Prop) : Kept w W S := ⟨h.size, fun i hi _ => h.block i hi⟩
theorem Kept.mono (h : Kept w W S) (hs : ∀ k, S k → S' k) : Kept w W S' := ⟨h.1, fun i hi hn => h.2 i hi (fun hk => hn (hs i hk))⟩
theorem Kept.then_ (h : Kept w W S) (k : Kept W W2 S2) (hs : ∀ k, S2 k → S k ∨ w.heap.size ≤ k) : Kept w W2 S :=
  ⟨Nat.le_trans h.1 k.1, fun i hi hn => (k.2 i (Nat.lt_of_lt_of_le hi h.1) (fun h2 => (hs i h2).elim hn (fun h3 => by omega))).trans (h.2 i hi hn)⟩
theorem Kept.below (h : Kept w W S) (hb : Below W.heap.size W W2) : Kept w W2 S := h.then_ (Kept.of_below hb (fun _ => False)) (fun _ hk => hk.elim)
theorem Kept.alloc (h : Kept w W S) (o : Obj) : Kept w (W.alloc o) S := h.below (below_alloc (Below.refl _ _) o)
theorem Kept.drew (h : Kept w W S) : Kept w W.drew S := h
theorem Kept.drewN (h : Kept w W S) (m : Nat) : Kept w (W.drewN m) S := h
theorem Kept.setCell (h : Kept w W S) {p : Addr} (hp : S p.block ∨ w.heap.size ≤ p.block) (u : Value) : Kept w (W.setCell p u) S :=
  h.then_ (S2 := fun k => k = p.block) ⟨by simp [World.setCell], fun i _ hn => Below.heap_setCell W p u i hn⟩ (fun k hk => by rw [hk]; exact hp)
end
end Go.Proofs.YthcgeekibomhiaaW.PrintWords
end
section
namespace Go.Proofs.YthcgeekibomhiaaW.PrintWords
open Go.RowKit
def Foot (P : World → Prop) (W : World) (ok : Nat → Prop) : Prop := ∀ W' : World, (∀ k, ok k → k < W.heap.size → W'.heap[k]? = W.heap[k]?) → P W'
theorem heap_lt {W W1 : World} {k : Nat} (h : W1.heap[k]? = W.heap[k]?) (hlt : k < W.heap.size) : k < W1.heap.size := by
  rw [Array.getElem?_eq_getElem hlt] at h
  exact (Array.getElem?_eq_some_iff.1 h).1
namespace Foot
variable {P Q : World → Prop} {W W1 : World} {ok ok' : Nat → Prop}
theorem now (h : Foot P W ok) : P W := h W (fun _ _ _ => rfl)
theorem mono (h : Foot P W ok) (hok : ∀ k, ok k → ok' k) : Foot P W ok' := fun W' hW => h W' (fun k hk hlt => hW k (hok k hk) hlt)
theorem bound (h : Foot P W ok) : Foot P W (fun k => ok k ∧ k < W.heap.size) := fun W' hW => h W' (fun k hk hlt => hW k ⟨hk, hlt⟩ hlt)
theorem step (h : Foot P W ok) (hm : ∀ k, ok k → k < W.heap.size → W1.heap[k]? = W.heap[k]?) : Foot P W1 ok := fun W' hW => h W' (fun k hk hlt => (hW k hk (heap_lt (hm k hk hlt) hlt)).trans (hm k hk hlt))
theorem imp (h : Foot P W ok) (hi : ∀ W', P W' → Q W') : Foot Q W ok := fun W' hW => hi W' (h W' hW)
theorem old (h : Foot P W ok) (hb : Below W.heap.size W W1) : Foot P W1 (fun k => ok k ∧ k < W.heap.size) := (h.bound).step (fun k _ hlt => hb.block k hlt)
end Foot
namespace Kd
def F {α : Type} (d : Kd α) (W : World) (ok : Nat → Prop) (A : Option Addr) (n : Nat) (xs : List α) : Prop := Foot (fun W => d.C W A n xs) W ok
def FK {α : Type} (d : Kd α) (W : World) (ok : Nat → Prop) (x : α) (c : List Value) : Prop := Foot (fun W => d.K W x c) W ok
section
variable {α β : Type} {d : Kd α} {e base n n' cc g N : Nat} {ok ok' okp S : Nat → Prop} {w w0 w1 W W1 : World} {A A' : Option Addr} {u v v1 : Value} {xs : List α} {xs' : List β} {d' : Kd β} {x : α} {c : List Value}
theorem F_now (h : F d W ok A n xs) : d.C W A n xs := Foot.now h
theorem F_mono (h : F d W ok A n xs) (hok : ∀ k, ok k → ok' k) : F d W ok' A n xs := Foot.mono h hok
theorem F_bound (h : F d W ok A n xs) : F d W (fun k => ok k ∧ k < W.heap.size) A n xs := Foot.bound h
theorem F_step (h : F d W ok A n xs) (hm : ∀ k, ok k → k < W.heap.size → W1.heap[k]? = W.heap[k]?) : F d W1 ok A n xs := Foot.step h hm
theorem F_imp (h : F d W ok A n xs) (hi : ∀ W', d.C W' A n xs → d'.C W' A' n' xs') : F d' W ok A' n' xs' := Foot.imp h hi
theorem F_below (h : F d W ok A n xs) (hb : Below W.heap.size W W1) : F d W1 ok A n xs := F_step h (fun k _ hlt => hb.block k hlt)
theorem F_alloc (h : F d W ok A n xs) (o : Obj) : F d (W.alloc o) ok A n xs := F_below h (below_alloc (Below.refl _ _) o)
theorem F_drew (h : F d W ok A n xs) : F d W.drew ok A n xs := F_below h (below_drew (Below.refl _ _))
theorem F_drewN (h : F d W ok A n xs) (m : Nat) : F d (W.drewN m) ok A n xs := F_below h (pw_below_drewN (Below.refl _ _) m)
theorem F_far (h : F d W ok A n xs) {p : Addr} (hok : ∀ k, ok k → k ≠ p.block) (u : Value) : F d (W.setCell p u) ok A n xs := F_step h (fun k hk _ => Below.heap_setCell W p u k (hok k hk))
theorem F_nil (d : Kd α) (W : World) (ok : Nat → Prop) : F d W ok none ([] : List α).length [] := fun W' _ => C_nil d W'
theorem F_elder' (h : F d W ok A n xs) (hbase : ∀ k, v.ownBlock = some k → W.heap.size ≤ k) (hb : Below W.heap.size W W1) : F d W1 (fun k => ok k ∧ some k ≠ v.ownBlock) A n xs :=
  F_mono (Foot.old h hb) (fun k hk => ⟨hk.1, fun he => by have := hbase k he.symm; have := hk.2; omega⟩)
theorem F_elderB (h : F d W ok A n xs) (a : Nat) (ha : W.heap.size ≤ a) : F d W (fun k => ok k ∧ k ≠ a) A n xs := F_mono (F_bound h) (fun k hk => ⟨hk.1, by have := hk.2; omega⟩)
theorem F_after (h : F d W (fun k => ok k ∧ some k ≠ v.ownBlock) A n xs) (hg : W.grownBy W1 v.ownBlock) (hat : v1.ownBlock = v.ownBlock ∨ ∃ b, v1.ownBlock = some b ∧ W.heap.size ≤ b) : F d W1 (fun k => ok k ∧ some k ≠ v1.ownBlock) A n xs := by
  refine F_mono (Foot.step (F_bound h) (fun k hk hlt => hg.block k hlt hk.1.2)) (fun k hk => ⟨hk.1.1, ?_⟩)
  rcases hat with hat | ⟨b, hb, hle⟩
  · rw [hat]; exact hk.1.2
  · rw [hb]
    intro he
    injection he with he
    have := hk.2
    omega
theorem R_F (h : d.R e W base ok (.slice A n cc) xs) : F d W ok A n xs := fun W' hW => by
  have h2 := R_reads' (R_step h hW)
  rw [h2.1]
  exact h2.2.2
theorem FK_of_M (h : d.M W base ok x c) : FK d W ok x c := fun _ hW => d.K_of_M (M_step h hW)
end
end Kd
end Go.Proofs.YthcgeekibomhiaaW.PrintWords
end
section
namespace Go.Proofs.YthcgeekibomhiaaW.PrintWords
open Go.RowKit
namespace Kd
def chunks (sz : Nat) (n : Nat) (inner : List Value) : List (List Value) := (List.range n).map fun j => (inner.drop (j * sz)).take sz
theorem chunks_length (sz n : Nat) (inner : List Value) : (chunks sz n inner).length = n := by simp [chunks]
theorem chunks_at {sz n : Nat} {inner : List Value} {j : Nat} (hj : j < n) : (chunks sz n inner)[j]? = some ((inner.drop (j * sz)).take sz) := by simp [chunks, hj]
theorem chunks_get {sz n : Nat} {inner : List Value} {j : Nat} {c : List Value} (h : (chunks sz n inner)[j]? = some c) : c = (inner.drop (j * sz)).take sz := by
  have hj : j < n := by have := (List.getElem?_eq_some_iff.1 h).1; rwa [chunks_length] at this
  rw [chunks_at hj] at h
  injection h with h
  exact h.symm
theorem reps_raw {α : Type} {Rr : α → List Value → Prop} {sz : Nat} {xs : List α} {inner : List Value} (h : Reps Rr sz xs inner) (hR : ∀ x c, Rr x c → c.length = sz ∧ ∀ u ∈ c, u.oneCell' = true) : Reps (fun x cs => cs = x ∧ cs.length = sz ∧ ∀ u ∈ cs, u.oneCell' = true) sz (chunks sz xs.length inner) inner := by
  refine ⟨by rw [chunks_length]; exact h.1, fun j p hj => ?_⟩
  have hjl : j < xs.length := by have := (List.getElem?_eq_some_iff.1 hj).1; rwa [chunks_length] at this
  have hp := chunks_get hj
  exact ⟨hp.symm, hR _ _ (h.2 j _ (List.getElem?_eq_getElem hjl))⟩
section
variable {α : Type} {d : Kd α} {e base n cc g : Nat} {ok ok' okp S : Nat → Prop} {w w1 W W1 : World} {A : Option Addr} {u v v1 : Value} {xs : List α} {x : α} {c : List Value}
def N {α : Type} (d : Kd α) (e : Nat) (w : World) (base : Nat) (ok : Nat → Prop) (v : Value) (xs : List α) : Prop :=
  (∀ k, v.ownBlock = some k → ok k) ∧ ∃ rows : List (List Value), rows.length = xs.length ∧ (raw d.sz).R e w base (fun k => some k = v.ownBlock) v rows ∧ ∀ (j : Nat) (x : α) (c : List Value), xs[j]? = some x → rows[j]? = some c → FK d w (fun k => ok k ∧ some k ≠ v.ownBlock) x c
theorem R_N (h : d.R e w base ok v xs) : N d e w base ok v xs := by
  obtain ⟨h0, inner, ho, hr⟩ := h
  refine ⟨h0, chunks d.sz xs.length inner, chunks_length _ _ _, ⟨fun k hk => hk.symm, inner, by rw [chunks_length]; exact ho, reps_raw hr (fun x c hp => ⟨d.K_len (d.K_of_M hp), d.K_one (d.K_of_M hp)⟩)⟩, fun j x c hx hc => ?_⟩
  rw [chunks_get hc]
  exact FK_of_M (hr.2 j x hx)
theorem N_nil (d : Kd α) (e : Nat) (w : World) (base : Nat) (ok : Nat → Prop) : N d e w base ok (.slice none 0 0) [] := R_N (R_nil _ _ _ _ _)
end
end Kd
end Go.Proofs.YthcgeekibomhiaaW.PrintWords
end

section
namespace Go.Proofs.YthcgeekibomhiaaW.PrintWords
open Go.RowKit
section
variable {w w' u : World} {m B g : Nat} {o : Obj} {row : Option Nat} {S : Nat → Prop} {a : Addr} {v : Value}
theorem below_at (hq : w.drewN m = w') (h : Below B u w) : Below B u w' := by subst hq; exact pw_below_drewN h m
end
namespace Kd
section
variable {α : Type} {d : Kd α} {e base n m : Nat} {ok : Nat → Prop} {w w' : World} {v : Value} {A : Option Addr} {xs : List α}
theorem R_at (hq : w.drewN m = w') (h : d.R e w base ok v xs) : d.R e w' base ok v xs := by subst hq; exact R_drewN h m
end
end Kd
end Go.Proofs.YthcgeekibomhiaaW.PrintWords
end

section
namespace Go.Proofs.YthcgeekibomhiaaW.PrintWords
theorem Reps.one {α : Type} {R : α → List Value → Prop} {ps : List α} {cs : List Value} {p : α} {v : Value} (hp : R p [v]) (h : Reps R 1 ps cs) : Reps R 1 (p :: ps) (v :: cs) := by
  refine ⟨by simp [h.1], fun j q hq => ?_⟩
  cases j with
  | zero =>
    simp only [List.getElem?_cons_zero, Option.some.injEq] at hq
    subst hq
    simpa using hp
  | succ j =>
    simp only [List.getElem?_cons_succ] at hq
    have h1 := h.2 j q hq
    simpa [Nat.mul_one] using h1
theorem Reps.front {α : Type} {R : α → List Value → Prop} {size : Nat} {ps : List α} {cs c all : List Value} {p : α} (hp : R p c) (hc : c.length = size) (h : Reps R size ps cs) (ha : c ++ cs = all) : Reps R size (p :: ps) all := by
  subst ha
  refine ⟨by rw [List.length_append, hc, h.1, List.length_cons, Nat.succ_mul, Nat.add_comm], fun j q hq => ?_⟩
  cases j with
  | zero =>
    simp only [List.getElem?_cons_zero, Option.some.injEq] at hq
    subst hq
    rw [Nat.zero_mul, List.drop_zero, List.take_append_of_le_length (by omega), List.take_of_length_le (by omega)]
    exact hp
  | succ j =>
    simp only [List.getElem?_cons_succ] at hq
    have h1 := h.2 j q hq
    rw [Nat.succ_mul, List.drop_append, List.drop_of_length_le (by rw [hc]; exact Nat.le_add_left _ _), List.nil_append, hc, Nat.add_sub_cancel]
    exact h1
theorem Reps.c2 {α : Type} {R : α → List Value → Prop} {ps : List α} {cs : List Value} {p : α} {va vb : Value} (hp : R p [va, vb]) (h : Reps R 2 ps cs) : Reps R 2 (p :: ps) (va :: vb :: cs) := Reps.front hp rfl h rfl
theorem Reps.c3 {α : Type} {R : α → List Value → Prop} {ps : List α} {cs : List Value} {p : α} {va vb vc : Value} (hp : R p [va, vb, vc]) (h : Reps R 3 ps cs) : Reps R 3 (p :: ps) (va :: vb :: vc :: cs) := Reps.front hp rfl h rfl
theorem Reps.c4 {α : Type} {R : α → List Value → Prop} {ps : List α} {cs : List Value} {p : α} {va vb vc vd : Value} (hp : R p [va, vb, vc, vd]) (h : Reps R 4 ps cs) : Reps R 4 (p :: ps) (va :: vb :: vc :: vd :: cs) := Reps.front hp rfl h rfl
theorem Reps.c5 {α : Type} {R : α → List Value → Prop} {ps : List α} {cs : List Value} {p : α} {va vb vc vd ve : Value} (hp : R p [va, vb, vc, vd, ve]) (h : Reps R 5 ps cs) : Reps R 5 (p :: ps) (va :: vb :: vc :: vd :: ve :: cs) := Reps.front hp rfl h rfl
theorem Reps.c6 {α : Type} {R : α → List Value → Prop} {ps : List α} {cs : List Value} {p : α} {va vb vc vd ve vf : Value} (hp : R p [va, vb, vc, vd, ve, vf]) (h : Reps R 6 ps cs) : Reps R 6 (p :: ps) (va :: vb :: vc :: vd :: ve :: vf :: cs) := Reps.front hp rfl h rfl
theorem Reps.c7 {α : Type} {R : α → List Value → Prop} {ps : List α} {cs : List Value} {p : α} {va vb vc vd ve vf vg : Value} (hp : R p [va, vb, vc, vd, ve, vf, vg]) (h : Reps R 7 ps cs) : Reps R 7 (p :: ps) (va :: vb :: vc :: vd :: ve :: vf :: vg :: cs) := Reps.front hp rfl h rfl
theorem Reps.c8 {α : Type} {R : α → List Value → Prop} {ps : List α} {cs : List Value} {p : α} {va vb vc vd ve vf vg vh : Value} (hp : R p [va, vb, vc, vd, ve, vf, vg, vh]) (h : Reps R 8 ps cs) : Reps R 8 (p :: ps) (va :: vb :: vc :: vd :: ve :: vf :: vg :: vh :: cs) := Reps.front hp rfl h rfl
theorem Reps.c9 {α : Type} {R : α → List Value → Prop} {ps : List α} {cs : List Value} {p : α} {va vb vc vd ve vf vg vh vi : Value} (hp : R p [va, vb, vc, vd, ve, vf, vg, vh, vi]) (h : Reps R 9 ps cs) : Reps R 9 (p :: ps) (va :: vb :: vc :: vd :: ve :: vf :: vg :: vh :: vi :: cs) := Reps.front hp rfl h rfl
theorem Reps.c10 {α : Type} {R : α → List Value → Prop} {ps : List α} {cs : List Value} {p : α} {va vb vc vd ve vf vg vh vi vj : Value} (hp : R p [va, vb, vc, vd, ve, vf, vg, vh, vi, vj]) (h : Reps R 10 ps cs) : Reps R 10 (p :: ps) (va :: vb :: vc :: vd :: ve :: vf :: vg :: vh :: vi :: vj :: cs) := Reps.front hp rfl h rfl
end Go.Proofs.YthcgeekibomhiaaW.PrintWords
end
section
namespace Go.Proofs.YthcgeekibomhiaaW.PrintLast
def up (b : Nat → Bool) (i : Nat) : Nat → Bool := fun j => if j = i then true else b j
def lof (n : Nat) (O : List Nat) (b : Nat → Bool) : List Bool := (List.range n).map fun j => if O.contains j then b j else true
section
variable {P : Program} {ops : Array Oper} {Q : Exit → Act → World → Prop} {md : Region.Mode} {T : Bool × List (List Nat × List Nat)} {B : List Nat} {O : List Nat} {b : Nat → Bool} {i j n : Nat}
def Closed (T : List (List Nat × List Nat)) (O : List Nat) (b : Nat → Bool) : Prop := ∀ d r, T[d]? = some r → O.contains d = true → b d = true → ∀ n ∈ r.1, O.contains n = true → b n = true
end
end Go.Proofs.YthcgeekibomhiaaW.PrintLast
end

section
namespace Go.Proofs.YthcgeekibomhiaaW.PrintWords
open Go.RowKit
section
variable {P : Program} {ops : Array Oper} {rest : List Oper} {o : Oper} {a : Act} {Q : Exit → Act → World → Prop} {W : World}
theorem gate_guard (hw : Region.wanted o (yielded ops a.tmps) = true) (h : wpList P ops Q ({ o with guard := none } :: rest) a W) : wpList P ops Q (o :: rest) a W := by
  have h1 : Region.wanted { o with guard := none } (yielded ops a.tmps) = true := rfl
  unfold wpList at h ⊢
  rw [if_pos h1] at h
  rw [if_pos hw]
  exact h
end
end Go.Proofs.YthcgeekibomhiaaW.PrintWords
end

section
namespace Go.Proofs.YthcgeekibomhiaaW.PrintMore
open Go.RowKit Go.Proofs.YthcgeekibomhiaaW.PrintWords
theorem max2_int (k k' : IntKind) (x y : Int) : Builtin.max2 (.int k x) (.int k' y) = pure (.int k (if x < y then y else x)) := by simp only [Builtin.max2, gt_iff_lt]
theorem min2_int (k k' : IntKind) (x y : Int) : Builtin.min2 (.int k x) (.int k' y) = pure (.int k (if y < x then y else x)) := by simp only [Builtin.min2]
theorem max_two (ats : Array TypeId) (ty : TypeId) (a b : Value) : Builtin.max_ ats ty #[a, b] = (Builtin.max2 a b >>= fun s => pure s) := by simp only [Builtin.max_, List.foldlM_cons, List.foldlM_nil]
theorem min_two (ats : Array TypeId) (ty : TypeId) (a b : Value) : Builtin.min_ ats ty #[a, b] = (Builtin.min2 a b >>= fun s => pure s) := by simp only [Builtin.min_, List.foldlM_cons, List.foldlM_nil]
theorem max_three (ats : Array TypeId) (ty : TypeId) (a b c : Value) : Builtin.max_ ats ty #[a, b, c] = (Builtin.max2 a b >>= fun s => Builtin.max2 s c >>= fun s => pure s) := by simp only [Builtin.max_, List.foldlM_cons, List.foldlM_nil]
theorem min_three (ats : Array TypeId) (ty : TypeId) (a b c : Value) : Builtin.min_ ats ty #[a, b, c] = (Builtin.min2 a b >>= fun s => Builtin.min2 s c >>= fun s => pure s) := by simp only [Builtin.min_, List.foldlM_cons, List.foldlM_nil]
theorem max_four (ats : Array TypeId) (ty : TypeId) (a b c d : Value) : Builtin.max_ ats ty #[a, b, c, d] = (Builtin.max2 a b >>= fun s => Builtin.max2 s c >>= fun s => Builtin.max2 s d >>= fun s => pure s) := by simp only [Builtin.max_, List.foldlM_cons, List.foldlM_nil]
theorem min_four (ats : Array TypeId) (ty : TypeId) (a b c d : Value) : Builtin.min_ ats ty #[a, b, c, d] = (Builtin.min2 a b >>= fun s => Builtin.min2 s c >>= fun s => Builtin.min2 s d >>= fun s => pure s) := by simp only [Builtin.min_, List.foldlM_cons, List.foldlM_nil]
end Go.Proofs.YthcgeekibomhiaaW.PrintMore
namespace Go.Proofs.YthcgeekibomhiaaW.PrintWords
open Go.RowKit
section
variable {P : Program} {ops : Array Oper} {rest : List Oper} {o : Oper} {a : Act} {Q : Exit → Act → World → Prop} {W : World}
theorem gate_callee {f : FuncId} {as_ : Array Operand} {ts : Array TypeId} (_ho : o.op = .call { callee := .value (.func f), args := as_, argTypes := ts }) (h : wpList P ops Q (o :: rest) a W) : wpList P ops Q (o :: rest) a W := h
theorem gate_builtin {b : Builtin} {xs : Array Operand} {ts : Array TypeId} (_ho : o.op = .call { callee := .builtin b, args := xs, argTypes := ts }) (h : wpList P ops Q (o :: rest) a W) : wpList P ops Q (o :: rest) a W := h
end
def mx (a b : Int) : Int := if a < b then b else a
def mn (a b : Int) : Int := if b < a then b else a
def shl (k : IntKind) (x y : Int) : Int := k.wrap (x * 2 ^ min y.toNat k.bits)
def shr (k : IntKind) (x y : Int) : Int := x / 2 ^ min y.toNat k.bits
theorem drewN_self (w : World) (n : Nat) : w.drewN n = w.drewN n := rfl
end Go.Proofs.YthcgeekibomhiaaW.PrintWords
namespace Go.Proofs.YthcgeekibomhiaaW.PrintWords
open Go.RowKit
namespace Kd
def V {α : Type} (d : Kd α) (_e : Nat) (W : World) (_base : Nat) (ok : Nat → Prop) (v : Value) (xs : List α) : Prop := ∃ A c, v = .slice A xs.length c ∧ xs.length ≤ c ∧ F d W ok A xs.length xs
section
variable {α β : Type} {d : Kd α} {e base base' n m c g N' lo hi : Nat} {ok ok' S : Nat → Prop} {w W w1 : World} {A : Option Addr} {ad : Addr} {u v v1 : Value} {xs : List α}
theorem V_map (h : V d e W base ok v xs) (hF : ∀ A, F d W ok A xs.length xs → F d w1 ok' A xs.length xs) : V d e w1 base' ok' v xs := by
  obtain ⟨A, c, hv, hl, hf⟩ := h; exact ⟨A, c, hv, hl, hF A hf⟩
theorem V_mk (hl : xs.length ≤ c) (hf : F d W ok A xs.length xs) : V d e W base ok (.slice A xs.length c) xs := ⟨A, c, rfl, hl, hf⟩
theorem V_slice (h : V d e W base ok v xs) : ∃ A c, v = .slice A xs.length c := by
  obtain ⟨A, c, hv, _⟩ := h; exact ⟨A, c, hv⟩
theorem V_at (h : V d e W base ok (.slice A n c) xs) : n = xs.length ∧ n ≤ c ∧ F d W ok A xs.length xs := by
  obtain ⟨A', c', hv, hl, hf⟩ := h
  injection hv with ha hn hc
  subst ha; subst hc; exact ⟨hn, by rw [hn]; exact hl, hf⟩
theorem V_reads' (h : V d e W base ok (.slice A n c) xs) : n = xs.length ∧ n ≤ c ∧ d.C W A xs.length xs := ⟨(V_at h).1, (V_at h).2.1, F_now (V_at h).2.2⟩
theorem V_nil (d : Kd α) (e : Nat) (W : World) (base : Nat) (ok : Nat → Prop) : V d e W base ok (.slice none 0 0) [] := ⟨none, 0, rfl, Nat.le_refl _, F_nil d W ok⟩
theorem R_V (h : d.R e W base ok v xs) : V d e W base' ok v xs := by
  obtain ⟨A, c, rfl⟩ := R_slice h; exact ⟨A, c, rfl, (R_reads' h).2.1, R_F h⟩
theorem V_mono (h : V d e W base ok v xs) (hok : ∀ k, ok k → ok' k) : V d e W base ok' v xs := V_map h (fun _ hf => F_mono hf hok)
theorem V_lower (h : V d e W base ok v xs) (_ : base' ≤ base) : V d e W base' ok v xs := h
theorem V_below (h : V d e W base ok v xs) (hb : Below W.heap.size W w1) : V d e w1 base ok v xs := V_map h (fun _ hf => F_below hf hb)
theorem V_alloc (h : V d e W base ok v xs) (o : Obj) : V d e (W.alloc o) base ok v xs := V_map h (fun _ hf => F_alloc hf o)
theorem V_drew (h : V d e W base ok v xs) : V d e W.drew base ok v xs := V_map h (fun _ hf => F_drew hf)
theorem V_drewN (h : V d e W base ok v xs) (m : Nat) : V d e (W.drewN m) base ok v xs := V_map h (fun _ hf => F_drewN hf m)
theorem V_far (h : V d e W base ok v xs) {p : Addr} (hok : ∀ k, ok k → k ≠ p.block) (u : Value) : V d e (W.setCell p u) base ok v xs := V_map h (fun _ hf => F_far hf hok u)
theorem V_after (h : V d e W base (fun k => ok k ∧ some k ≠ u.ownBlock) v xs) (hg : W.grownBy w1 u.ownBlock) (hat : v1.ownBlock = u.ownBlock ∨ ∃ b, v1.ownBlock = some b ∧ W.heap.size ≤ b) : V d e w1 base (fun k => ok k ∧ some k ≠ v1.ownBlock) v xs := V_map h (fun _ hf => F_after hf hg hat)
theorem V_afterv (h : V d e W base (fun k => ok k ∧ some k ≠ v.ownBlock) u xs) (hg : W.grownBy w1 v.ownBlock) (hat : v1.ownBlock = v.ownBlock ∨ ∃ b, v1.ownBlock = some b ∧ W.heap.size ≤ b) : V d e w1 base (fun k => ok k ∧ some k ≠ v1.ownBlock) u xs := V_after h hg hat
theorem V_elder' (h : V d e W base ok v xs) (hbase : ∀ k, u.ownBlock = some k → W.heap.size ≤ k) (hb : Below W.heap.size W w1) : V d e w1 base (fun k => ok k ∧ some k ≠ u.ownBlock) v xs := V_map h (fun _ hf => F_elder' hf hbase hb)
theorem V_elderB (h : V d e W base ok v xs) (a : Nat) (ha : W.heap.size ≤ a) : V d e W base (fun k => ok k ∧ k ≠ a) v xs := V_map h (fun _ hf => F_elderB hf a ha)
theorem F_take (h : F d W ok A xs.length xs) (hm : m ≤ xs.length) : F d W ok A (xs.take m).length (xs.take m) := F_imp h (fun _ hC => C_take hC hm)
theorem R_newM {M : Nat → Prop} (h : d.R e w1 W.heap.size ok v xs) (hle : w.heap.size ≤ W.heap.size) (hM : ∀ k, w.heap.size ≤ k → M k) : d.R e w1 W.heap.size (fun k => M k ∧ ok k) v xs := R_mono (R_bound h) (fun k hk => ⟨hM k (Nat.le_trans hle hk.2.1), hk.1⟩)
end
end Kd
end Go.Proofs.YthcgeekibomhiaaW.PrintWords
end
section
namespace Go.Proofs.YthcgeekibomhiaaW.PrintWords
set_option linter.unusedVariables false
set_option linter.unusedSimpArgs false
open Go.RowKit
section
variable {P : Program}
theorem cut_to_cap (t e : TypeId) (kh : IntKind) {i : TypeInfo} (ht : P.underlying t = some (.slice e)) (hi : P.info? e = some i) (A : Option Addr) (n c : Nat) (j : Int) (h0 : 0 ≤ j) (hm : j ≤ n) (hc : n ≤ c) :
    ∀ W : World, (Instr.slice t (.slice A n c) none (some (.int kh j)) (some (.int kh j))).run P W = .ok (.slice A j.toNat j.toNat) W := by
  intro W
  have hel : P.elem t = e := by simp [Program.elem, ht]
  have hu : P.underlying t = some (.slice (P.elem t)) := by rw [hel]; exact ht
  have ha : (A.map fun x => x.add 0) = A := by cases A <;> simp [Addr.add]
  rw [run_slice_hm W t A n c hu kh kh j j h0 (Int.le_refl _) (by omega), hel]
  simp [sizeOf, typeInfo, hi, sliced, Result.andThen, ha]
end
end Go.Proofs.YthcgeekibomhiaaW.PrintWords
end
section
namespace Go.Proofs.Ythcgeekibomhiaa.X
open Go.RowKit Go.Proofs.YthcgeekibomhiaaW.PrintWords Go.Proofs.YthcgeekibomhiaaW.PrintLast Go.Proofs.YthcgeekibomhiaaW.PrintMore
theorem aK {P : Prop} (h : P) : Aside0 P := Aside0.mk h
theorem kV {Q P : Prop} (h : Aside0 Q) (p : Q → P := by intro h_; (with_reducible repeat (first | apply Kd.V_alloc | apply Kd.V_drewN | apply Kd.V_drew)); exact h_) : P := p h.out
theorem kR {Q P : Prop} (h : Aside0 Q) (p : Q → P := by intro h_; (with_reducible repeat (first | apply Kd.R_alloc | apply Kd.R_drewN | apply Kd.R_drew)); exact h_) : P := p h.out
theorem kH {Q P : Prop} (h : Aside0 Q) (p : Q → P := by intro h_; repeat (first | (with_reducible first | exact h_ | apply below_alloc | apply pw_below_drewN | apply below_drew1) | exact h_)) : P := p h.out
theorem kHs {Q G P : Prop} (h : Aside0 Q) (g : Aside0 G) (p : Q → G → P := by intro h_ g_; repeat (first | (with_reducible first | exact h_ | apply below_alloc | apply pw_below_drewN | apply below_drew1 | refine below_set ?_ g_) | exact h_)) : P := p h.out g.out
theorem kB {Q P : Prop} (h : Aside0 Q) (p : Q → P := by intro h_; (with_reducible repeat (first | refine blk_drewN ?_ _ | refine blk_drew ?_ | refine blk_alloc ?_ _)); exact h_) : P := p h.out
theorem kHt {Q G F P : Prop} (h : Aside0 Q) (g : Aside0 G) (f : Aside0 F) (p : Q → G → F → P := by intro h_ g_ f_; repeat (first | (with_reducible first | exact h_ | apply below_alloc | apply pw_below_drewN | apply below_drew1 | refine below_set ?_ g_ | refine below_set ?_ f_) | exact h_)) : P := p h.out g.out f.out
theorem RSq {P : Prop} (p : P := by first | rfl | (simp; done) | (simp [*]; done) | (simp [wrap64]; done)) : P := p
theorem ASq {P : Prop} (p : P := by first | (with_reducible assumption) | assumption) : P := p
theorem kC {Q P : Prop} (h : Q) (p : Q → P := by intro h_; repeat (first | exact h_ | (with_reducible refine Kd.C_alloc ?_ _) | (with_reducible refine Kd.C_drewN ?_ _) | (with_reducible refine Kd.C_drew ?_))) : P := p h
theorem LMq {P : Prop} (p : P := by (try simp only [List.map_toArray, List.map_cons, List.map_nil]); first | done | rfl | (simp only [List.length_drop, List.length_take]; rfl)) : P := p
theorem APq {P : Prop} (p : P := by simp only [Act.put, List.setIfInBounds_toArray, List.set_cons_zero, List.set_cons_succ, i64_w, i32_w]; rfl) : P := p
theorem PAq {P : Prop} (p : P := by simp only [putAll, Act.put, List.setIfInBounds_toArray, List.set_cons_zero, List.set_cons_succ] <;> rfl) : P := p
theorem gsz {w W : World} {g : Nat} (e : g = W.heap.size) (h : Aside0 (Below w.heap.size w W)) : Aside0 (w.heap.size ≤ g) := ⟨by rw [e]; exact below_size h.out⟩
theorem gne {W : World} {g g' : Nat} {o : Obj} (e : g = W.heap.size) (h : Aside0 (W.heap[g']? = some o)) : Aside0 (g' ≠ g) := ⟨by rw [e]; exact Nat.ne_of_lt (blk_lt h.out)⟩
theorem gen {W : World} {g g' : Nat} {o : Obj} (e : g = W.heap.size) (h : Aside0 (W.heap[g']? = some o)) : Aside0 (g ≠ g') := ⟨by rw [e]; exact Nat.ne_of_gt (blk_lt h.out)⟩
theorem bc {w : World} {g : Nat} {t : TypeId} {cs : Array Value} (h : Aside0 (w.heap[g]? = some (.cells cs t (0, 0)))) (i : Nat) {v : Option Value} (e : cs[i]? = v := by rfl) : w.cell? ⟨g, i, none⟩ = v := (blk_cell h.out i).trans e
theorem W1q {w : World} {g : Nat} {t : TypeId} {a0 : Value} (h : Aside0 (w.heap[g]? = some (.cells #[a0] t (0, 0)))) : w.cell? ⟨g, 0, none⟩ = some a0 ∧ w.frozen? ⟨g, 0, none⟩ = false := ⟨bc h 0, blk_frozen h.out 0⟩
theorem W2q {w : World} {g : Nat} {t : TypeId} {a0 a1 : Value} (h : Aside0 (w.heap[g]? = some (.cells #[a0, a1] t (0, 0)))) : w.cell? ⟨g, 0, none⟩ = some a0 ∧ w.cell? ⟨g, 1, none⟩ = some a1 ∧ w.frozen? ⟨g, 0, none⟩ = false ∧ w.frozen? ⟨g, 1, none⟩ = false := ⟨bc h 0, bc h 1, blk_frozen h.out 0, blk_frozen h.out 1⟩
theorem W3q {w : World} {g : Nat} {t : TypeId} {a0 a1 a2 : Value} (h : Aside0 (w.heap[g]? = some (.cells #[a0, a1, a2] t (0, 0)))) : w.cell? ⟨g, 0, none⟩ = some a0 ∧ w.cell? ⟨g, 1, none⟩ = some a1 ∧ w.cell? ⟨g, 2, none⟩ = some a2 ∧ w.frozen? ⟨g, 0, none⟩ = false ∧ w.frozen? ⟨g, 1, none⟩ = false ∧ w.frozen? ⟨g, 2, none⟩ = false := ⟨bc h 0, bc h 1, bc h 2, blk_frozen h.out 0, blk_frozen h.out 1, blk_frozen h.out 2⟩
theorem W4q {w : World} {g : Nat} {t : TypeId} {a0 a1 a2 a3 : Value} (h : Aside0 (w.heap[g]? = some (.cells #[a0, a1, a2, a3] t (0, 0)))) : w.cell? ⟨g, 0, none⟩ = some a0 ∧ w.cell? ⟨g, 1, none⟩ = some a1 ∧ w.cell? ⟨g, 2, none⟩ = some a2 ∧ w.cell? ⟨g, 3, none⟩ = some a3 ∧ w.frozen? ⟨g, 0, none⟩ = false ∧ w.frozen? ⟨g, 1, none⟩ = false ∧ w.frozen? ⟨g, 2, none⟩ = false ∧ w.frozen? ⟨g, 3, none⟩ = false := ⟨bc h 0, bc h 1, bc h 2, bc h 3, blk_frozen h.out 0, blk_frozen h.out 1, blk_frozen h.out 2, blk_frozen h.out 3⟩
theorem W5q {w : World} {g : Nat} {t : TypeId} {a0 a1 a2 a3 a4 : Value} (h : Aside0 (w.heap[g]? = some (.cells #[a0, a1, a2, a3, a4] t (0, 0)))) : w.cell? ⟨g, 0, none⟩ = some a0 ∧ w.cell? ⟨g, 1, none⟩ = some a1 ∧ w.cell? ⟨g, 2, none⟩ = some a2 ∧ w.cell? ⟨g, 3, none⟩ = some a3 ∧ w.cell? ⟨g, 4, none⟩ = some a4 ∧ w.frozen? ⟨g, 0, none⟩ = false ∧ w.frozen? ⟨g, 1, none⟩ = false ∧ w.frozen? ⟨g, 2, none⟩ = false ∧ w.frozen? ⟨g, 3, none⟩ = false ∧ w.frozen? ⟨g, 4, none⟩ = false := ⟨bc h 0, bc h 1, bc h 2, bc h 3, bc h 4, blk_frozen h.out 0, blk_frozen h.out 1, blk_frozen h.out 2, blk_frozen h.out 3, blk_frozen h.out 4⟩
theorem W6q {w : World} {g : Nat} {t : TypeId} {a0 a1 a2 a3 a4 a5 : Value} (h : Aside0 (w.heap[g]? = some (.cells #[a0, a1, a2, a3, a4, a5] t (0, 0)))) : w.cell? ⟨g, 0, none⟩ = some a0 ∧ w.cell? ⟨g, 1, none⟩ = some a1 ∧ w.cell? ⟨g, 2, none⟩ = some a2 ∧ w.cell? ⟨g, 3, none⟩ = some a3 ∧ w.cell? ⟨g, 4, none⟩ = some a4 ∧ w.cell? ⟨g, 5, none⟩ = some a5 ∧ w.frozen? ⟨g, 0, none⟩ = false ∧ w.frozen? ⟨g, 1, none⟩ = false ∧ w.frozen? ⟨g, 2, none⟩ = false ∧ w.frozen? ⟨g, 3, none⟩ = false ∧ w.frozen? ⟨g, 4, none⟩ = false ∧ w.frozen? ⟨g, 5, none⟩ = false := ⟨bc h 0, bc h 1, bc h 2, bc h 3, bc h 4, bc h 5, blk_frozen h.out 0, blk_frozen h.out 1, blk_frozen h.out 2, blk_frozen h.out 3, blk_frozen h.out 4, blk_frozen h.out 5⟩
theorem W7q {w : World} {g : Nat} {t : TypeId} {a0 a1 a2 a3 a4 a5 a6 : Value} (h : Aside0 (w.heap[g]? = some (.cells #[a0, a1, a2, a3, a4, a5, a6] t (0, 0)))) : w.cell? ⟨g, 0, none⟩ = some a0 ∧ w.cell? ⟨g, 1, none⟩ = some a1 ∧ w.cell? ⟨g, 2, none⟩ = some a2 ∧ w.cell? ⟨g, 3, none⟩ = some a3 ∧ w.cell? ⟨g, 4, none⟩ = some a4 ∧ w.cell? ⟨g, 5, none⟩ = some a5 ∧ w.cell? ⟨g, 6, none⟩ = some a6 ∧ w.frozen? ⟨g, 0, none⟩ = false ∧ w.frozen? ⟨g, 1, none⟩ = false ∧ w.frozen? ⟨g, 2, none⟩ = false ∧ w.frozen? ⟨g, 3, none⟩ = false ∧ w.frozen? ⟨g, 4, none⟩ = false ∧ w.frozen? ⟨g, 5, none⟩ = false ∧ w.frozen? ⟨g, 6, none⟩ = false := ⟨bc h 0, bc h 1, bc h 2, bc h 3, bc h 4, bc h 5, bc h 6, blk_frozen h.out 0, blk_frozen h.out 1, blk_frozen h.out 2, blk_frozen h.out 3, blk_frozen h.out 4, blk_frozen h.out 5, blk_frozen h.out 6⟩
theorem W8q {w : World} {g : Nat} {t : TypeId} {a0 a1 a2 a3 a4 a5 a6 a7 : Value} (h : Aside0 (w.heap[g]? = some (.cells #[a0, a1, a2, a3, a4, a5, a6, a7] t (0, 0)))) : w.cell? ⟨g, 0, none⟩ = some a0 ∧ w.cell? ⟨g, 1, none⟩ = some a1 ∧ w.cell? ⟨g, 2, none⟩ = some a2 ∧ w.cell? ⟨g, 3, none⟩ = some a3 ∧ w.cell? ⟨g, 4, none⟩ = some a4 ∧ w.cell? ⟨g, 5, none⟩ = some a5 ∧ w.cell? ⟨g, 6, none⟩ = some a6 ∧ w.cell? ⟨g, 7, none⟩ = some a7 ∧ w.frozen? ⟨g, 0, none⟩ = false ∧ w.frozen? ⟨g, 1, none⟩ = false ∧ w.frozen? ⟨g, 2, none⟩ = false ∧ w.frozen? ⟨g, 3, none⟩ = false ∧ w.frozen? ⟨g, 4, none⟩ = false ∧ w.frozen? ⟨g, 5, none⟩ = false ∧ w.frozen? ⟨g, 6, none⟩ = false ∧ w.frozen? ⟨g, 7, none⟩ = false := ⟨bc h 0, bc h 1, bc h 2, bc h 3, bc h 4, bc h 5, bc h 6, bc h 7, blk_frozen h.out 0, blk_frozen h.out 1, blk_frozen h.out 2, blk_frozen h.out 3, blk_frozen h.out 4, blk_frozen h.out 5, blk_frozen h.out 6, blk_frozen h.out 7⟩
theorem kF {Q P : Prop} (h : Aside0 Q) (p : Q → P := by intro h_; repeat (first | (with_reducible exact h_) | (with_reducible refine blk_drewN ?_ _) | (with_reducible refine blk_drew ?_) | (with_reducible refine blk_alloc ?_ _) | (with_reducible refine blk_far ?_ (Aside0.out (by assumption)) _) | ((with_reducible refine blk_put (cs := ?_) ?_ _ _ ?_); rotate_left) | exact h_ | rfl)) : P := p h.out
attribute [local go_sem] max2_int min2_int max_two min_two max_three min_three max_four min_four   
set_option linter.unusedVariables false
set_option linter.unusedSimpArgs false
def errW : Option Int → Value
 | none => .nilIface
 | some c => .iface 112 (.int .i64 c)
theorem errW_none : errW none = .nilIface := rfl
theorem errW_some (c : Int) : errW (some c) = .iface 112 (.int .i64 c) := rfl
theorem info124 : (Try.prog.info? 124).map (fun i => (i.zero, i.size, i.bytes)) = some (some (.int .u32 0), 1, 4) := by kernel_rfl
def pat_IsNaN.f (p : Int) : Option (Bool) := if inU p = true then (some (decide (3 < pC p))) else none
theorem pat_IsNaN.eq  (p : Int) (p0 : inU p = true) : pat_IsNaN.f p = (some (decide (3 < pC p))) := by
 unfold pat_IsNaN.f
 rw [if_pos (p0)]
set_option maxRecDepth 100000 in
theorem pat_IsNaN.calls (p : Int) (r : Bool) (w : World) (h : pat_IsNaN.f p = some r) :
 Calls Try.prog 41 #[.int .u64 p] w fun e w' => e = .returned (.bool r) ∧ Below w.heap.size w w' := by
 unfold pat_IsNaN.f at h
 split at h
 case isFalse => exact absurd h (by simp)
 case isTrue hp =>
  have p0 := hp; clear hp
  simp only [Option.some.injEq] at h
  subst h; refine Calls.mono (p_isnan p (inU_U p0) w) ?_; rintro e w' ⟨he, hb⟩; exact ⟨he, hb⟩
def pat_Class.f (p : Int) : Option (Int) := if inU p = true then (some (pC p)) else none
theorem pat_Class.eq  (p : Int) (p0 : inU p = true) : pat_Class.f p = (some (pC p)) := by
 unfold pat_Class.f
 rw [if_pos (p0)]
set_option maxRecDepth 100000 in
theorem pat_Class.calls (p : Int) (r : Int) (w : World) (h : pat_Class.f p = some r) :
 Calls Try.prog 60 #[.int .u64 p] w fun e w' => e = .returned (.int .i64 r) ∧ Below w.heap.size w w' := by
 unfold pat_Class.f at h
 split at h
 case isFalse => exact absurd h (by simp)
 case isTrue hp =>
  have p0 := hp; clear hp
  simp only [Option.some.injEq] at h
  subst h; refine Calls.mono (p_class p (inU_U p0) w) ?_; rintro e w' ⟨he, hb⟩; exact ⟨he, hb⟩
def pat_Abs.f (p : Int) : Option (Int) := if inU p = true then (some (pA p)) else none
theorem pat_Abs.eq  (p : Int) (p0 : inU p = true) : pat_Abs.f p = (some (pA p)) := by
 unfold pat_Abs.f
 rw [if_pos (p0)]
set_option maxRecDepth 100000 in
theorem pat_Abs.calls (p : Int) (r : Int) (w : World) (h : pat_Abs.f p = some r) :
 Calls Try.prog 73 #[.int .u64 p] w fun e w' => e = .returned (.int .u64 r) ∧ Below w.heap.size w w' := by
 unfold pat_Abs.f at h
 split at h
 case isFalse => exact absurd h (by simp)
 case isTrue hp =>
  have p0 := hp; clear hp
  simp only [Option.some.injEq] at h
  subst h; refine Calls.mono (p_abs p (inU_U p0) w) ?_; rintro e w' ⟨he, hb⟩; exact ⟨he, hb⟩
def pat_Finite.f (p : Int) : Option (Bool) := if inU p = true then (some (decide (pC p < 3))) else none
theorem pat_Finite.eq  (p : Int) (p0 : inU p = true) : pat_Finite.f p = (some (decide (pC p < 3))) := by
 unfold pat_Finite.f
 rw [if_pos (p0)]
set_option maxRecDepth 100000 in
theorem pat_Finite.calls (p : Int) (r : Bool) (w : World) (h : pat_Finite.f p = some r) :
 Calls Try.prog 44 #[.int .u64 p] w fun e w' => e = .returned (.bool r) ∧ Below w.heap.size w w' := by
 unfold pat_Finite.f at h
 split at h
 case isFalse => exact absurd h (by simp)
 case isTrue hp =>
  have p0 := hp; clear hp
  simp only [Option.some.injEq] at h
  subst h; refine Calls.mono (p_finite p (inU_U p0) w) ?_; rintro e w' ⟨he, hb⟩; exact ⟨he, hb⟩
def rnd_Round.f (s_m : Bool) (s_x : Int) (s0 s1 s2 s3 : Int) (s_o : Bool) (m : Int) : Option (Int × Int) := if okW s0 s1 s2 s3 = true ∧ (nW s0 s1 s2 s3) < 2 ^ 254 ∧ -131072 ≤ s_x ∧ s_x ≤ 131072 then (some ((rRound s_m (rX s_o s_x) (rS s_o (nW s0 s1 s2 s3)) m).1, (rRound s_m (rX s_o s_x) (rS s_o (nW s0 s1 s2 s3)) m).2)) else none
theorem rnd_Round.eq {s : Nat} (hs : s < T256) (s_m : Bool) (s_x : Int) (s_o : Bool) (m : Int) (p0 : s < 2 ^ 254) (p1 : -131072 ≤ s_x) (p2 : s_x ≤ 131072) : rnd_Round.f s_m s_x (l0 s) (l1 s) (l2 s) (l3 s) s_o m = (some ((rRound s_m (rX s_o s_x) (rS s_o s) m).1, (rRound s_m (rX s_o s_x) (rS s_o s) m).2)) := by
 unfold rnd_Round.f
 rw [nW_l hs]; rw [if_pos (⟨okW_l hs, p0, p1, p2⟩)]
set_option maxRecDepth 100000 in
theorem rnd_Round.calls (s_m : Bool) (s_x : Int) (s0 s1 s2 s3 : Int) (s_o : Bool) (m : Int) (r1 : Int) (r2 : Int) (w : World) (h : rnd_Round.f s_m s_x s0 s1 s2 s3 s_o m = some (r1, r2)) :
 Calls Try.prog 46 #[.agg #[.bool s_m, .int .i64 s_x, .int .u64 s0, .int .u64 s1, .int .u64 s2, .int .u64 s3, .bool s_o], .int .i64 m] w fun e w' => e = .returned (.tuple #[.int .u64 r1, .int .u8 r2]) ∧ Below w.heap.size w w' := by
 unfold rnd_Round.f at h
 split at h
 case isFalse => exact absurd h (by simp)
 case isTrue hp =>
  obtain ⟨ks, p0, p1, p2⟩ := hp; skip; obtain ⟨s, hs, rfl, rfl, rfl, rfl⟩ := okW_ex ks
  simp only [nW_l hs] at h p0
  simp only [Option.some.injEq, Prod.mk.injEq] at h
  obtain ⟨rfl, rfl⟩ := h; refine Calls.mono (r_round s_m s_o s_x m s p0 p1 p2 w) ?_; rintro e w' ⟨he, hb⟩; exact ⟨he, hb⟩
def pat_Take.f (p : Int) : Option (Bool × Int × Int × Int) := if inU p = true then (some (pM p, pC p, pX p, pS p)) else none
theorem pat_Take.eq  (p : Int) (p0 : inU p = true) : pat_Take.f p = (some (pM p, pC p, pX p, pS p)) := by
 unfold pat_Take.f
 rw [if_pos (p0)]
set_option maxRecDepth 100000 in
theorem pat_Take.calls (p : Int) (r1 : Bool) (r2 : Int) (r3 : Int) (r4 : Int) (w : World) (h : pat_Take.f p = some (r1, r2, r3, r4)) :
 Calls Try.prog 62 #[.int .u64 p] w fun e w' => e = .returned (.agg #[.bool r1, .int .i64 r2, .int .i64 r3, .int .u64 r4]) ∧ Below w.heap.size w w' := by
 unfold pat_Take.f at h
 split at h
 case isFalse => exact absurd h (by simp)
 case isTrue hp =>
  have p0 := hp; clear hp
  simp only [Option.some.injEq, Prod.mk.injEq] at h
  obtain ⟨rfl, rfl, rfl, rfl⟩ := h; refine Calls.mono (take p (inU_U p0) w) ?_; rintro e w' ⟨he, hb⟩; exact ⟨he, hb⟩
def wide_Of.f (n : Int) : Option (Int × Int × Int × Int) := if inU n = true then (some (l0 (n.toNat), l1 (n.toNat), l2 (n.toNat), l3 (n.toNat))) else none
theorem wide_Of.eq  (n : Int) (p0 : inU n = true) : wide_Of.f n = (some (l0 (n.toNat), l1 (n.toNat), l2 (n.toNat), l3 (n.toNat))) := by
 unfold wide_Of.f
 rw [if_pos (p0)]
set_option maxRecDepth 100000 in
theorem wide_Of.calls (n : Int) (r1 : Int) (r2 : Int) (r3 : Int) (r4 : Int) (w : World) (h : wide_Of.f n = some (r1, r2, r3, r4)) :
 Calls Try.prog 66 #[.int .u64 n] w fun e w' => e = .returned (.agg #[.int .u64 r1, .int .u64 r2, .int .u64 r3, .int .u64 r4]) ∧ Below w.heap.size w w' := by
 unfold wide_Of.f at h
 split at h
 case isFalse => exact absurd h (by simp)
 case isTrue hp =>
  have p0 := hp; clear hp
  simp only [Option.some.injEq, Prod.mk.injEq] at h
  obtain ⟨rfl, rfl, rfl, rfl⟩ := h; refine Calls.mono (wof n (inU_U p0) w) ?_; rintro e w' ⟨he, hb⟩; exact ⟨he, hb⟩
def wide_Mul.f (a0 a1 a2 a3 : Int) (b0 b1 b2 b3 : Int) : Option (Int × Int × Int × Int × Int × Int × Int × Int) := if okW a0 a1 a2 a3 = true ∧ okW b0 b1 b2 b3 = true ∧ (nW a0 a1 a2 a3) < 18446744073709551616 ∧ (nW b0 b1 b2 b3) < 18446744073709551616 then (some (l0 ((nW a0 a1 a2 a3) * (nW b0 b1 b2 b3)), l1 ((nW a0 a1 a2 a3) * (nW b0 b1 b2 b3)), l2 ((nW a0 a1 a2 a3) * (nW b0 b1 b2 b3)), l3 ((nW a0 a1 a2 a3) * (nW b0 b1 b2 b3)), l0 (0), l1 (0), l2 (0), l3 (0))) else none
theorem wide_Mul.eq {a : Nat} (ha : a < T256) {b : Nat} (hb : b < T256)   (p0 : a < 18446744073709551616) (p1 : b < 18446744073709551616) : wide_Mul.f (l0 a) (l1 a) (l2 a) (l3 a) (l0 b) (l1 b) (l2 b) (l3 b) = (some (l0 (a * b), l1 (a * b), l2 (a * b), l3 (a * b), l0 (0), l1 (0), l2 (0), l3 (0))) := by
 unfold wide_Mul.f
 rw [nW_l ha, nW_l hb]; rw [if_pos (⟨okW_l ha, okW_l hb, p0, p1⟩)]
set_option maxRecDepth 100000 in
theorem wide_Mul.calls (a0 a1 a2 a3 : Int) (b0 b1 b2 b3 : Int) (r1 : Int) (r2 : Int) (r3 : Int) (r4 : Int) (r5 : Int) (r6 : Int) (r7 : Int) (r8 : Int) (w : World) (h : wide_Mul.f a0 a1 a2 a3 b0 b1 b2 b3 = some (r1, r2, r3, r4, r5, r6, r7, r8)) :
 Calls Try.prog 83 #[.agg #[.int .u64 a0, .int .u64 a1, .int .u64 a2, .int .u64 a3], .agg #[.int .u64 b0, .int .u64 b1, .int .u64 b2, .int .u64 b3]] w fun e w' => e = .returned (.tuple #[.agg #[.int .u64 r1, .int .u64 r2, .int .u64 r3, .int .u64 r4], .agg #[.int .u64 r5, .int .u64 r6, .int .u64 r7, .int .u64 r8]]) ∧ Below w.heap.size w w' := by
 unfold wide_Mul.f at h
 split at h
 case isFalse => exact absurd h (by simp)
 case isTrue hp =>
  obtain ⟨ka, kb, p0, p1⟩ := hp; skip; obtain ⟨a, ha, rfl, rfl, rfl, rfl⟩ := okW_ex ka
  simp only [nW_l ha] at h p0
  obtain ⟨b, hb, rfl, rfl, rfl, rfl⟩ := okW_ex kb
  simp only [nW_l hb] at h p1
  simp only [Option.some.injEq, Prod.mk.injEq] at h
  obtain ⟨rfl, rfl, rfl, rfl, rfl, rfl, rfl, rfl⟩ := h; refine Calls.mono (wmul a b p0 p1 w) ?_; rintro e w' ⟨he, hb⟩; exact ⟨he, hb⟩
def rnd_Of.f (p : Int) : Option (Bool × Int × Int × Int × Int × Int × Bool × Option Int) := if inU p = true then (if pC p < 3 then some (pM p, pX p, l0 ((pS p).toNat), l1 ((pS p).toNat), l2 ((pS p).toNat), l3 ((pS p).toNat), false, none) else some (false, 0, 0, 0, 0, 0, false, some 1)) else none
theorem rnd_Of.eq  (p : Int) (p0 : inU p = true) : rnd_Of.f p = (if pC p < 3 then some (pM p, pX p, l0 ((pS p).toNat), l1 ((pS p).toNat), l2 ((pS p).toNat), l3 ((pS p).toNat), false, none) else some (false, 0, 0, 0, 0, 0, false, some 1)) := by
 unfold rnd_Of.f
 rw [if_pos (p0)]
set_option maxRecDepth 100000 in
theorem rnd_Of.calls (p : Int) (r1 : Bool) (r2 : Int) (r3 : Int) (r4 : Int) (r5 : Int) (r6 : Int) (r7 : Bool) (r8 : Option Int) (w : World) (h : rnd_Of.f p = some (r1, r2, r3, r4, r5, r6, r7, r8)) :
 Calls Try.prog 48 #[.int .u64 p] w fun e w' => e = .returned (.tuple #[.agg #[.bool r1, .int .i64 r2, .int .u64 r3, .int .u64 r4, .int .u64 r5, .int .u64 r6, .bool r7], errW r8]) ∧ Below w.heap.size w w' := by
 unfold rnd_Of.f at h
 split at h
 case isFalse => exact absurd h (by simp)
 case isTrue hp =>
  have p0 := hp; clear hp
  by_cases q : pC p < 3
  · rw [if_pos q] at h
    simp only [Option.some.injEq, Prod.mk.injEq] at h
    obtain ⟨rfl, rfl, rfl, rfl, rfl, rfl, rfl, rfl⟩ := h; refine Calls.mono (r_of p (inU_U p0) q w) ?_; rintro e w' ⟨he, hb⟩; exact ⟨he, hb⟩
  rw [if_neg q] at h
  simp only [Option.some.injEq, Prod.mk.injEq] at h
  obtain ⟨rfl, rfl, rfl, rfl, rfl, rfl, rfl, rfl⟩ := h; refine Calls.mono (r_of_no p (inU_U p0) q w) ?_; rintro e w' ⟨he, hb⟩; exact ⟨he, hb⟩
def wide_Len.f (a0 a1 a2 a3 : Int) : Option (Int) := if okW a0 a1 a2 a3 = true then (some (blen (nW a0 a1 a2 a3) : Int)) else none
theorem wide_Len.eq {a : Nat} (ha : a < T256)   : wide_Len.f (l0 a) (l1 a) (l2 a) (l3 a) = (some (blen a : Int)) := by
 unfold wide_Len.f
 rw [nW_l ha]; rw [if_pos (okW_l ha)]
set_option maxRecDepth 100000 in
theorem wide_Len.calls (a0 a1 a2 a3 : Int) (r : Int) (w : World) (h : wide_Len.f a0 a1 a2 a3 = some r) :
 Calls Try.prog 78 #[.agg #[.int .u64 a0, .int .u64 a1, .int .u64 a2, .int .u64 a3]] w fun e w' => e = .returned (.int .i64 r) ∧ Below w.heap.size w w' := by
 unfold wide_Len.f at h
 split at h
 case isFalse => exact absurd h (by simp)
 case isTrue hp =>
  have ka := hp; clear hp; obtain ⟨a, ha, rfl, rfl, rfl, rfl⟩ := okW_ex ka
  simp only [nW_l ha] at h 
  simp only [Option.some.injEq] at h
  subst h; refine Calls.mono (wlen a ha w) ?_; rintro e w' ⟨he, hb⟩; exact ⟨he, hb⟩
def wide_Shl.f (a0 a1 a2 a3 : Int) (n : Int) : Option (Int × Int × Int × Int) := if okW a0 a1 a2 a3 = true then (some (l0 ((nW a0 a1 a2 a3) * 2 ^ n.toNat % T256), l1 ((nW a0 a1 a2 a3) * 2 ^ n.toNat % T256), l2 ((nW a0 a1 a2 a3) * 2 ^ n.toNat % T256), l3 ((nW a0 a1 a2 a3) * 2 ^ n.toNat % T256))) else none
theorem wide_Shl.eq {a : Nat} (ha : a < T256)  (n : Int)  : wide_Shl.f (l0 a) (l1 a) (l2 a) (l3 a) n = (some (l0 (a * 2 ^ n.toNat % T256), l1 (a * 2 ^ n.toNat % T256), l2 (a * 2 ^ n.toNat % T256), l3 (a * 2 ^ n.toNat % T256))) := by
 unfold wide_Shl.f
 rw [nW_l ha]; rw [if_pos (okW_l ha)]
set_option maxRecDepth 100000 in
theorem wide_Shl.calls (a0 a1 a2 a3 : Int) (n : Int) (r1 : Int) (r2 : Int) (r3 : Int) (r4 : Int) (w : World) (h : wide_Shl.f a0 a1 a2 a3 n = some (r1, r2, r3, r4)) :
 Calls Try.prog 65 #[.agg #[.int .u64 a0, .int .u64 a1, .int .u64 a2, .int .u64 a3], .int .i64 n] w fun e w' => e = .returned (.agg #[.int .u64 r1, .int .u64 r2, .int .u64 r3, .int .u64 r4]) ∧ Below w.heap.size w w' := by
 unfold wide_Shl.f at h
 split at h
 case isFalse => exact absurd h (by simp)
 case isTrue hp =>
  have ka := hp; clear hp; obtain ⟨a, ha, rfl, rfl, rfl, rfl⟩ := okW_ex ka
  simp only [nW_l ha] at h 
  simp only [Option.some.injEq, Prod.mk.injEq] at h
  obtain ⟨rfl, rfl, rfl, rfl⟩ := h; refine Calls.mono (wshl a ha n w) ?_; rintro e w' ⟨m, hm, he, hb⟩; obtain rfl := hm.out; exact ⟨he, hb⟩
def wide_Sub.f (a0 a1 a2 a3 : Int) (b0 b1 b2 b3 : Int) : Option (Int × Int × Int × Int × Bool) := if okW a0 a1 a2 a3 = true ∧ okW b0 b1 b2 b3 = true then (some (l0 (((nW a0 a1 a2 a3) + T256 - (nW b0 b1 b2 b3)) % T256), l1 (((nW a0 a1 a2 a3) + T256 - (nW b0 b1 b2 b3)) % T256), l2 (((nW a0 a1 a2 a3) + T256 - (nW b0 b1 b2 b3)) % T256), l3 (((nW a0 a1 a2 a3) + T256 - (nW b0 b1 b2 b3)) % T256), decide ((nW a0 a1 a2 a3) < (nW b0 b1 b2 b3)))) else none
theorem wide_Sub.eq {a : Nat} (ha : a < T256) {b : Nat} (hb : b < T256)    : wide_Sub.f (l0 a) (l1 a) (l2 a) (l3 a) (l0 b) (l1 b) (l2 b) (l3 b) = (some (l0 ((a + T256 - b) % T256), l1 ((a + T256 - b) % T256), l2 ((a + T256 - b) % T256), l3 ((a + T256 - b) % T256), decide (a < b))) := by
 unfold wide_Sub.f
 rw [nW_l ha, nW_l hb]; rw [if_pos (⟨okW_l ha, okW_l hb⟩)]
set_option maxRecDepth 100000 in
theorem wide_Sub.calls (a0 a1 a2 a3 : Int) (b0 b1 b2 b3 : Int) (r1 : Int) (r2 : Int) (r3 : Int) (r4 : Int) (r5 : Bool) (w : World) (h : wide_Sub.f a0 a1 a2 a3 b0 b1 b2 b3 = some (r1, r2, r3, r4, r5)) :
 Calls Try.prog 96 #[.agg #[.int .u64 a0, .int .u64 a1, .int .u64 a2, .int .u64 a3], .agg #[.int .u64 b0, .int .u64 b1, .int .u64 b2, .int .u64 b3]] w fun e w' => e = .returned (.tuple #[.agg #[.int .u64 r1, .int .u64 r2, .int .u64 r3, .int .u64 r4], .bool r5]) ∧ Below w.heap.size w w' := by
 unfold wide_Sub.f at h
 split at h
 case isFalse => exact absurd h (by simp)
 case isTrue hp =>
  obtain ⟨ka, kb⟩ := hp; skip; obtain ⟨a, ha, rfl, rfl, rfl, rfl⟩ := okW_ex ka
  simp only [nW_l ha] at h 
  obtain ⟨b, hb, rfl, rfl, rfl, rfl⟩ := okW_ex kb
  simp only [nW_l hb] at h 
  simp only [Option.some.injEq, Prod.mk.injEq] at h
  obtain ⟨rfl, rfl, rfl, rfl, rfl⟩ := h; refine Calls.mono (wsub a b ha hb w) ?_; rintro e w' ⟨n, o, hd, he, hb⟩; obtain ⟨rfl, rfl⟩ := hd.out; exact ⟨he, hb⟩
def wide_Add.f (a0 a1 a2 a3 : Int) (b0 b1 b2 b3 : Int) : Option (Int × Int × Int × Int × Bool) := if okW a0 a1 a2 a3 = true ∧ okW b0 b1 b2 b3 = true then (some (l0 (((nW a0 a1 a2 a3) + (nW b0 b1 b2 b3)) % T256), l1 (((nW a0 a1 a2 a3) + (nW b0 b1 b2 b3)) % T256), l2 (((nW a0 a1 a2 a3) + (nW b0 b1 b2 b3)) % T256), l3 (((nW a0 a1 a2 a3) + (nW b0 b1 b2 b3)) % T256), decide (T256 ≤ (nW a0 a1 a2 a3) + (nW b0 b1 b2 b3)))) else none
theorem wide_Add.eq {a : Nat} (ha : a < T256) {b : Nat} (hb : b < T256)    : wide_Add.f (l0 a) (l1 a) (l2 a) (l3 a) (l0 b) (l1 b) (l2 b) (l3 b) = (some (l0 ((a + b) % T256), l1 ((a + b) % T256), l2 ((a + b) % T256), l3 ((a + b) % T256), decide (T256 ≤ a + b))) := by
 unfold wide_Add.f
 rw [nW_l ha, nW_l hb]; rw [if_pos (⟨okW_l ha, okW_l hb⟩)]
set_option maxRecDepth 100000 in
theorem wide_Add.calls (a0 a1 a2 a3 : Int) (b0 b1 b2 b3 : Int) (r1 : Int) (r2 : Int) (r3 : Int) (r4 : Int) (r5 : Bool) (w : World) (h : wide_Add.f a0 a1 a2 a3 b0 b1 b2 b3 = some (r1, r2, r3, r4, r5)) :
 Calls Try.prog 100 #[.agg #[.int .u64 a0, .int .u64 a1, .int .u64 a2, .int .u64 a3], .agg #[.int .u64 b0, .int .u64 b1, .int .u64 b2, .int .u64 b3]] w fun e w' => e = .returned (.tuple #[.agg #[.int .u64 r1, .int .u64 r2, .int .u64 r3, .int .u64 r4], .bool r5]) ∧ Below w.heap.size w w' := by
 unfold wide_Add.f at h
 split at h
 case isFalse => exact absurd h (by simp)
 case isTrue hp =>
  obtain ⟨ka, kb⟩ := hp; skip; obtain ⟨a, ha, rfl, rfl, rfl, rfl⟩ := okW_ex ka
  simp only [nW_l ha] at h 
  obtain ⟨b, hb, rfl, rfl, rfl, rfl⟩ := okW_ex kb
  simp only [nW_l hb] at h 
  simp only [Option.some.injEq, Prod.mk.injEq] at h
  obtain ⟨rfl, rfl, rfl, rfl, rfl⟩ := h; refine Calls.mono (wadd a b ha hb w) ?_; rintro e w' ⟨n, o, hd, he, hb⟩; obtain ⟨rfl, rfl⟩ := hd.out; exact ⟨he, hb⟩
def wide_Cmp.f (a0 a1 a2 a3 : Int) (b0 b1 b2 b3 : Int) : Option (Int) := if okW a0 a1 a2 a3 = true ∧ okW b0 b1 b2 b3 = true then (some (cmpI (nW a0 a1 a2 a3) (nW b0 b1 b2 b3))) else none
theorem wide_Cmp.eq {a : Nat} (ha : a < T256) {b : Nat} (hb : b < T256)    : wide_Cmp.f (l0 a) (l1 a) (l2 a) (l3 a) (l0 b) (l1 b) (l2 b) (l3 b) = (some (cmpI a b)) := by
 unfold wide_Cmp.f
 rw [nW_l ha, nW_l hb]; rw [if_pos (⟨okW_l ha, okW_l hb⟩)]
set_option maxRecDepth 100000 in
theorem wide_Cmp.calls (a0 a1 a2 a3 : Int) (b0 b1 b2 b3 : Int) (r : Int) (w : World) (h : wide_Cmp.f a0 a1 a2 a3 b0 b1 b2 b3 = some r) :
 Calls Try.prog 108 #[.agg #[.int .u64 a0, .int .u64 a1, .int .u64 a2, .int .u64 a3], .agg #[.int .u64 b0, .int .u64 b1, .int .u64 b2, .int .u64 b3]] w fun e w' => e = .returned (.int .i64 r) ∧ Below w.heap.size w w' := by
 unfold wide_Cmp.f at h
 split at h
 case isFalse => exact absurd h (by simp)
 case isTrue hp =>
  obtain ⟨ka, kb⟩ := hp; skip; obtain ⟨a, ha, rfl, rfl, rfl, rfl⟩ := okW_ex ka
  simp only [nW_l ha] at h 
  obtain ⟨b, hb, rfl, rfl, rfl, rfl⟩ := okW_ex kb
  simp only [nW_l hb] at h 
  simp only [Option.some.injEq] at h
  subst h; refine Calls.mono (wcmp a b ha hb w) ?_; rintro e w' ⟨he, hb⟩; exact ⟨he, hb⟩
def wide_Shr.f (a0 a1 a2 a3 : Int) (n : Int) : Option (Int × Int × Int × Int × Bool) := if okW a0 a1 a2 a3 = true then (some (l0 ((nW a0 a1 a2 a3) / 2 ^ n.toNat), l1 ((nW a0 a1 a2 a3) / 2 ^ n.toNat), l2 ((nW a0 a1 a2 a3) / 2 ^ n.toNat), l3 ((nW a0 a1 a2 a3) / 2 ^ n.toNat), decide ((nW a0 a1 a2 a3) % 2 ^ n.toNat ≠ 0))) else none
theorem wide_Shr.eq {a : Nat} (ha : a < T256)  (n : Int)  : wide_Shr.f (l0 a) (l1 a) (l2 a) (l3 a) n = (some (l0 (a / 2 ^ n.toNat), l1 (a / 2 ^ n.toNat), l2 (a / 2 ^ n.toNat), l3 (a / 2 ^ n.toNat), decide (a % 2 ^ n.toNat ≠ 0))) := by
 unfold wide_Shr.f
 rw [nW_l ha]; rw [if_pos (okW_l ha)]
set_option maxRecDepth 100000 in
theorem wide_Shr.calls (a0 a1 a2 a3 : Int) (n : Int) (r1 : Int) (r2 : Int) (r3 : Int) (r4 : Int) (r5 : Bool) (w : World) (h : wide_Shr.f a0 a1 a2 a3 n = some (r1, r2, r3, r4, r5)) :
 Calls Try.prog 81 #[.agg #[.int .u64 a0, .int .u64 a1, .int .u64 a2, .int .u64 a3], .int .i64 n] w fun e w' => e = .returned (.tuple #[.agg #[.int .u64 r1, .int .u64 r2, .int .u64 r3, .int .u64 r4], .bool r5]) ∧ Below w.heap.size w w' := by
 unfold wide_Shr.f at h
 split at h
 case isFalse => exact absurd h (by simp)
 case isTrue hp =>
  have ka := hp; clear hp; obtain ⟨a, ha, rfl, rfl, rfl, rfl⟩ := okW_ex ka
  simp only [nW_l ha] at h 
  simp only [Option.some.injEq, Prod.mk.injEq] at h
  obtain ⟨rfl, rfl, rfl, rfl, rfl⟩ := h; refine Calls.mono (wshr a ha n w) ?_; rintro e w' ⟨m, o, hd, he, hb⟩; obtain ⟨rfl, rfl⟩ := hd.out; exact ⟨he, hb⟩
def pat_Neg.f (p : Int) : Option (Int) := if inU p = true then (some (pN p)) else none
theorem pat_Neg.eq  (p : Int) (p0 : inU p = true) : pat_Neg.f p = (some (pN p)) := by
 unfold pat_Neg.f
 rw [if_pos (p0)]
set_option maxRecDepth 100000 in
theorem pat_Neg.calls (p : Int) (r : Int) (w : World) (h : pat_Neg.f p = some r) :
 Calls Try.prog 30 #[.int .u64 p] w fun e w' => e = .returned (.int .u64 r) ∧ Below w.heap.size w w' := by
 unfold pat_Neg.f at h
 split at h
 case isFalse => exact absurd h (by simp)
 case isTrue hp =>
  have p0 := hp; clear hp
  simp only [Option.some.injEq] at h
  subst h; refine Calls.mono (p_neg p (inU_U p0) w) ?_; rintro e w' ⟨he, hb⟩; exact ⟨he, hb⟩
def r3_NaN.f (p : Int) : Option (Bool) := if inU p = true then (some (decide (3 < pC p))) else none
theorem r3_NaN.eq  (p : Int) (p0 : inU p = true) : r3_NaN.f p = (some (decide (3 < pC p))) := by
 unfold r3_NaN.f
 rw [if_pos (p0)]
set_option maxRecDepth 100000 in
theorem r3_NaN.calls (p : Int) (r : Bool) (w : World) (h : r3_NaN.f p = some r) :
 Calls Try.prog 50 #[.int .u64 p] w fun e w' => e = .returned (.bool r) ∧ Below w.heap.size w w' := by
 unfold r3_NaN.f at h
 split at h
 case isFalse => exact absurd h (by simp)
 case isTrue hp =>
  have p0 := hp; clear hp
  simp only [Option.some.injEq] at h
  subst h; refine Calls.mono (r_nan p (inU_U p0) w) ?_; rintro e w' ⟨he, hb⟩; exact ⟨he, hb⟩
def r3_Take.f (p : Int) : Option (Bool × Int × Int × Int) := if inU p = true then (some (pM p, pC p, pX p, pS p)) else none
theorem r3_Take.eq  (p : Int) (p0 : inU p = true) : r3_Take.f p = (some (pM p, pC p, pX p, pS p)) := by
 unfold r3_Take.f
 rw [if_pos (p0)]
set_option maxRecDepth 100000 in
theorem r3_Take.calls (p : Int) (r1 : Bool) (r2 : Int) (r3 : Int) (r4 : Int) (w : World) (h : r3_Take.f p = some (r1, r2, r3, r4)) :
 Calls Try.prog 67 #[.int .u64 p] w fun e w' => e = .returned (.agg #[.bool r1, .int .i64 r2, .int .i64 r3, .int .u64 r4]) ∧ Below w.heap.size w w' := by
 unfold r3_Take.f at h
 split at h
 case isFalse => exact absurd h (by simp)
 case isTrue hp =>
  have p0 := hp; clear hp
  simp only [Option.some.injEq, Prod.mk.injEq] at h
  obtain ⟨rfl, rfl, rfl, rfl⟩ := h; refine Calls.mono (rtake p (inU_U p0) w) ?_; rintro e w' ⟨he, hb⟩; exact ⟨he, hb⟩
def r3_Abs.f (p : Int) : Option (Int) := if inU p = true then (some (pA p)) else none
theorem r3_Abs.eq  (p : Int) (p0 : inU p = true) : r3_Abs.f p = (some (pA p)) := by
 unfold r3_Abs.f
 rw [if_pos (p0)]
set_option maxRecDepth 100000 in
theorem r3_Abs.calls (p : Int) (r : Int) (w : World) (h : r3_Abs.f p = some r) :
 Calls Try.prog 53 #[.int .u64 p] w fun e w' => e = .returned (.int .u64 r) ∧ Below w.heap.size w w' := by
 unfold r3_Abs.f at h
 split at h
 case isFalse => exact absurd h (by simp)
 case isTrue hp =>
  have p0 := hp; clear hp
  simp only [Option.some.injEq] at h
  subst h; refine Calls.mono (r_abs p (inU_U p0).1 (inU_U p0).2 w) ?_; rintro e w' ⟨he, hb⟩; exact ⟨he, hb⟩
def r3_Neg.f (p : Int) : Option (Int) := if inU p = true then (some (pN p)) else none
theorem r3_Neg.eq  (p : Int) (p0 : inU p = true) : r3_Neg.f p = (some (pN p)) := by
 unfold r3_Neg.f
 rw [if_pos (p0)]
set_option maxRecDepth 100000 in
theorem r3_Neg.calls (p : Int) (r : Int) (w : World) (h : r3_Neg.f p = some r) :
 Calls Try.prog 33 #[.int .u64 p] w fun e w' => e = .returned (.int .u64 r) ∧ Below w.heap.size w w' := by
 unfold r3_Neg.f at h
 split at h
 case isFalse => exact absurd h (by simp)
 case isTrue hp =>
  have p0 := hp; clear hp
  simp only [Option.some.injEq] at h
  subst h; refine Calls.mono (r_neg p (inU_U p0).1 (inU_U p0).2 w) ?_; rintro e w' ⟨he, hb⟩; exact ⟨he, hb⟩
def quot_none.f (a : Int) (b : Int) : Option (Int × Int) := if inU a = true ∧ inU b = true then (some ((qNone a b).1, (qNone a b).2)) else none
theorem quot_none.eq  (a : Int) (b : Int) (p0 : inU a = true) (p1 : inU b = true) : quot_none.f a b = (some ((qNone a b).1, (qNone a b).2)) := by
 unfold quot_none.f
 rw [if_pos ⟨p0, p1⟩]
set_option maxRecDepth 100000 in
theorem quot_none.calls (a : Int) (b : Int) (r1 : Int) (r2 : Int) (w : World) (h : quot_none.f a b = some (r1, r2)) :
 Calls Try.prog 63 #[.int .u64 a, .int .u64 b] w fun e w' => e = .returned (.tuple #[.int .u64 r1, .int .u8 r2]) ∧ Below w.heap.size w w' := by
 unfold quot_none.f at h
 split at h
 case isFalse => exact absurd h (by simp)
 case isTrue hp =>
  obtain ⟨p0, p1⟩ := hp; skip
  simp only [Option.some.injEq, Prod.mk.injEq] at h
  obtain ⟨rfl, rfl⟩ := h; refine Calls.mono (q_none a b (inU_U p0) (inU_U p1) w) ?_; rintro e w' ⟨he, hb⟩; exact ⟨he, hb⟩
def wide_DivMod.f (a0 a1 a2 a3 : Int) (b0 b1 b2 b3 : Int) : Option (Int × Int × Int × Int × Int × Int × Int × Int) := if okW a0 a1 a2 a3 = true ∧ okW b0 b1 b2 b3 = true ∧ (nW b0 b1 b2 b3) ≠ 0 then (some (l0 ((nW a0 a1 a2 a3) / (nW b0 b1 b2 b3)), l1 ((nW a0 a1 a2 a3) / (nW b0 b1 b2 b3)), l2 ((nW a0 a1 a2 a3) / (nW b0 b1 b2 b3)), l3 ((nW a0 a1 a2 a3) / (nW b0 b1 b2 b3)), l0 ((nW a0 a1 a2 a3) % (nW b0 b1 b2 b3)), l1 ((nW a0 a1 a2 a3) % (nW b0 b1 b2 b3)), l2 ((nW a0 a1 a2 a3) % (nW b0 b1 b2 b3)), l3 ((nW a0 a1 a2 a3) % (nW b0 b1 b2 b3)))) else none
theorem wide_DivMod.eq {a : Nat} (ha : a < T256) {b : Nat} (hb : b < T256)   (p0 : b ≠ 0) : wide_DivMod.f (l0 a) (l1 a) (l2 a) (l3 a) (l0 b) (l1 b) (l2 b) (l3 b) = (some (l0 (a / b), l1 (a / b), l2 (a / b), l3 (a / b), l0 (a % b), l1 (a % b), l2 (a % b), l3 (a % b))) := by
 unfold wide_DivMod.f
 rw [nW_l ha, nW_l hb]; rw [if_pos (⟨okW_l ha, okW_l hb, p0⟩)]
set_option maxRecDepth 100000 in
theorem wide_DivMod.calls (a0 a1 a2 a3 : Int) (b0 b1 b2 b3 : Int) (r1 : Int) (r2 : Int) (r3 : Int) (r4 : Int) (r5 : Int) (r6 : Int) (r7 : Int) (r8 : Int) (w : World) (h : wide_DivMod.f a0 a1 a2 a3 b0 b1 b2 b3 = some (r1, r2, r3, r4, r5, r6, r7, r8)) :
 Calls Try.prog 64 #[.agg #[.int .u64 a0, .int .u64 a1, .int .u64 a2, .int .u64 a3], .agg #[.int .u64 b0, .int .u64 b1, .int .u64 b2, .int .u64 b3]] w fun e w' => e = .returned (.tuple #[.agg #[.int .u64 r1, .int .u64 r2, .int .u64 r3, .int .u64 r4], .agg #[.int .u64 r5, .int .u64 r6, .int .u64 r7, .int .u64 r8], .nilIface]) ∧ Below w.heap.size w w' := by
 unfold wide_DivMod.f at h
 split at h
 case isFalse => exact absurd h (by simp)
 case isTrue hp =>
  obtain ⟨ka, kb, p0⟩ := hp; skip; obtain ⟨a, ha, rfl, rfl, rfl, rfl⟩ := okW_ex ka
  simp only [nW_l ha] at h 
  obtain ⟨b, hb, rfl, rfl, rfl, rfl⟩ := okW_ex kb
  simp only [nW_l hb] at h p0
  simp only [Option.some.injEq, Prod.mk.injEq] at h
  obtain ⟨rfl, rfl, rfl, rfl, rfl, rfl, rfl, rfl⟩ := h; refine Calls.mono (wdivmod a b ha hb p0 w) ?_; rintro e w' ⟨he, hb⟩; exact ⟨he, hb⟩
end Go.Proofs.Ythcgeekibomhiaa.X
end
section
namespace Go.Proofs.Ythcgeekibomhiaa
set_option linter.unusedVariables false
set_option linter.unusedSimpArgs false
open Go Go.RowKit Go.Proofs.YthcgeekibomhiaaW.PrintWords
namespace Br
open Den
theorem reads_C {ι : Io} {w : World} {k : IntKind} {l : List Int} {y : Value} (h : Reads ι w (.ints k l) y) : ∃ A c, y = .slice A l.length c ∧ l.length ≤ c ∧ Kd.C (Kd.int k) w A l.length l := by
  obtain ⟨A, c, h1, h2, h3, h4⟩ := h
  refine ⟨A, c, h1, h2, rfl, h3, fun h0 => ?_⟩
  obtain ⟨b, off, rfl, _, _, hc⟩ := h4 h0
  refine ⟨_, rfl, fun j p hp => ⟨[.int k p], rfl, rfl, fun i u hu => ?_⟩⟩
  have hi : i = 0 := by
    have := (List.getElem?_eq_some_iff.1 hu).1
    simp at this; omega
  subst hi
  simp only [List.getElem?_cons_zero, Option.some.injEq] at hu
  subst hu
  rw [addr_add]
  have := hc j (.int k p) (by simp [LV.cells, hp])
  simpa [Kd.int, Kd.scalar] using this
theorem reads_step {ι : Io} {w w' : World} {l : LV} {y : Value} (h : Reads ι w l y) (hw : ∀ k, k < w.heap.size → w'.heap[k]? = w.heap[k]?) : Reads (noIo fun _ => False) w' l y := by
  obtain ⟨A, c, h1, h2, h3, h4⟩ := h
  refine ⟨A, c, h1, h2, h3, fun h0 => ?_⟩
  obtain ⟨b, off, e, hb, _, hc⟩ := h4 h0
  exact ⟨b, off, e, heap_lt (hw b hb) hb, fun k => own_noIo.1 k, fun j v hj => by rw [cell_of_blk (hw b hb)]; exact hc j v hj⟩
theorem reads_V {ι : Io} {w : World} {k : IntKind} {l : List Int} {y : Value} (h : Reads ι w (.ints k l) y) : ∃ A c, y = .slice A l.length c ∧ ∀ base e, Kd.V (Kd.int k) e w base (fun _ => True) (.slice A l.length c) l := by
  obtain ⟨A, c, h1, h2, _⟩ := reads_C h
  refine ⟨A, c, h1, fun base e => ⟨A, c, rfl, h2, fun w' hw => ?_⟩⟩
  obtain ⟨A', c', e', _, hC⟩ := reads_C (reads_step h (fun k hk => hw k trivial hk))
  rw [h1] at e'
  injection e' with e1 _ _
  subst e1
  exact hC
theorem V_reads {ι : Io} {w' : World} {s e : Nat} {k : IntKind} {l : List Int} {v : Value} (h : Kd.V (Kd.int k) e w' s (fun k_ => s ≤ k_) v l) (ho : ∀ b, own ι b → b < s) : Reads ι w' (.ints k l) v := by
  obtain ⟨A, c, rfl, hl, hF⟩ := h
  obtain ⟨_, hmax, hcells⟩ := Kd.F_now hF
  refine ⟨A, c, rfl, hl, hmax, fun h0 => ?_⟩
  have h0' : 0 < l.length := h0
  obtain ⟨ad, rfl, hc⟩ := hcells h0'
  have cell : ∀ j p, l[j]? = some p → w'.cell? (ad.add j) = some (.int k p) := fun j p hp => by
    obtain ⟨c', _, e2, e3⟩ := hc j p hp
    have e2' : c' = [.int k p] := e2
    subst e2'
    have := e3 0 (.int k p) rfl
    simpa [Kd.int, Kd.scalar] using this
  obtain ⟨x, hx⟩ : ∃ x, l[0]? = some x := ⟨l[0], by simp [h0']⟩
  have c0 := cell 0 x hx
  have a0 : ad.add 0 = ad := by simp [Addr.add]
  rw [a0] at c0
  obtain ⟨b, off, sp⟩ := ad
  have hsp : sp = none := by
    cases sp with
    | none => rfl
    | some s => simp [World.cell?] at c0; split at c0 <;> cases c0
  subst hsp
  have hb : b < w'.heap.size := by
    cases hh : w'.heap[b]? with
    | none => simp [World.cell?, hh] at c0
    | some o => exact (Array.getElem?_eq_some_iff.1 hh).1
  have hsb : s ≤ b := by
    refine Nat.le_of_not_lt fun hlt => ?_
    have hC := hF { w' with heap := w'.heap.setIfInBounds b (.cells #[] 0 (0, 0)) } (fun k hk _ => by
      show (w'.heap.setIfInBounds b _)[k]? = _
      rw [Array.getElem?_setIfInBounds_ne (by omega)])
    obtain ⟨ad2, e2, hc2⟩ := hC.2.2 h0'
    injection e2 with e2
    subst e2
    obtain ⟨c', hl', e2, e3⟩ := hc2 0 x hx
    have e2' : c' = [.int k x] := e2
    subst e2'
    have := e3 0 (.int k x) rfl
    simp [World.cell?, Addr.add, hb] at this
  refine ⟨b, off, rfl, hb, fun k => by have := ho b k; omega, fun j v hj => ?_⟩
  simp only [LV.cells, List.getElem?_map, Option.map_eq_some_iff] at hj
  obtain ⟨p, hp, rfl⟩ := hj
  rw [← addr_add]
  exact cell j p hp
theorem rvl1 {ι : Io} {w : World} {a : SV} {vals : List Value} (h : RVL ι w [a] vals) : ∃ y, vals = [y] ∧ RV ι w a y := by
  match vals, h with
  | [y], h => exact ⟨y, rfl, h.1⟩
  | _ :: _ :: _, h => exact h.2.elim
theorem rvl2 {ι : Io} {w : World} {a b : SV} {vals : List Value} (h : RVL ι w [a, b] vals) : ∃ y z, vals = [y, z] ∧ RV ι w a y ∧ RV ι w b z := by
  match vals, h with
  | y :: r, h => obtain ⟨z, rfl, hz⟩ := rvl1 h.2; exact ⟨y, z, rfl, h.1, hz⟩
theorem rvl3 {ι : Io} {w : World} {a b c : SV} {vals : List Value} (h : RVL ι w [a, b, c] vals) : ∃ y z u, vals = [y, z, u] ∧ RV ι w a y ∧ RV ι w b z ∧ RV ι w c u := by
  match vals, h with
  | y :: r, h => obtain ⟨z, u, rfl, hz⟩ := rvl2 h.2; exact ⟨y, z, u, rfl, h.1, hz⟩
end Br
open Classical in
noncomputable def evF {α : Type} (f : Nat → Option α) : Option α := if h : ∃ r, Ev f r then some h.choose else none
theorem evF_spec {α : Type} {f : Nat → Option α} {r : α} (h : evF f = some r) : Ev f r := by
  unfold evF at h
  split at h
  · rename_i g
    have e := Option.some.inj h
    rw [← e]; exact g.choose_spec
  · cases h
theorem evF_eq {α : Type} {f : Nat → Option α} {r : α} (h : Ev f r) : evF f = some r := by
  have g : ∃ r, Ev f r := ⟨r, h⟩
  unfold evF
  rw [dif_pos g]
  obtain ⟨K, hK⟩ := h
  obtain ⟨L, hL⟩ := g.choose_spec
  have e1 := hK (max K L) (Nat.le_max_left _ _)
  have e2 := hL (max K L) (Nat.le_max_right _ _)
  rw [e1] at e2
  exact e2.symm
end Go.Proofs.Ythcgeekibomhiaa
end
section
namespace Go.Proofs.Ythcgeekibomhiaa.X
open Go.RowKit Go.Proofs.YthcgeekibomhiaaW.PrintWords Go.Proofs.YthcgeekibomhiaaW.PrintLast Go.Proofs.YthcgeekibomhiaaW.PrintMore
attribute [local go_sem] max2_int min2_int max_two min_two max_three min_three max_four min_four   
set_option linter.unusedVariables false
set_option linter.unusedSimpArgs false
def r2_trim.l0 : Nat → List Int → Int → Option (List Int)
 | 0, _, _ => none
 | k + 1, x0, x3 => if x3 > 0 then (if 0 ≤ (wrap64 (x3 - 1)) then (if (wrap64 (x3 - 1)) < (x0.length : Int) then (if (rd x0 (wrap64 (x3 - 1))) = 0 then (r2_trim.l0 k x0 (wrap64 (x3 - 1))) else (if 0 ≤ x3 then (if x3 ≤ (x0.length : Int) then (some (x0.take (x3 : Int).toNat)) else (none)) else (none))) else (none)) else (none)) else (if 0 ≤ x3 then (if x3 ≤ (x0.length : Int) then (some (x0.take (x3 : Int).toNat)) else (none)) else (none))
def r2_trim.f (k : Nat) (l0 : List Int) : Option (List Int) := r2_trim.l0 k l0 (l0.length : Int)
theorem r2_trim.mono_l : ∀ k, (∀ y0 y1, LeO (r2_trim.l0 k y0 y1) (r2_trim.l0 (k + 1) y0 y1))
 | 0 => fun _ _ r h => by simp [r2_trim.l0] at h
 | k + 1 => by
  have ih0 := r2_trim.mono_l k
  · intro y0 y1
    unfold r2_trim.l0
    repeat' (with_reducible first | exact ih0 _ _ | exact LeO.refl _ | exact LeO.none _ | refine LeO.ite ?_ ?_ | refine LeO.bind ?_ (fun _ => ?_))
theorem r2_trim.mono : ∀ a0 k, LeO (r2_trim.f k a0) (r2_trim.f (k + 1) a0) := by
 intro a0 k; have ih0 := r2_trim.mono_l k
 unfold r2_trim.f
 repeat' (with_reducible first | exact ih0 _ _ | exact LeO.refl _ | exact LeO.none _ | refine LeO.ite ?_ ?_ | refine LeO.bind ?_ (fun _ => ?_))
set_option maxHeartbeats 8000000 in
set_option maxRecDepth 100000 in
theorem r2_trim.calls (k : Nat) (P0_ : Nat → Prop) (A0 : Option Addr) (c0 : Nat) (l0 : List Int) (r : List Int) (w : World) (hs0 : Kd.V (Kd.int .u32) 124 w w.heap.size (fun k_ => P0_ k_) (.slice A0 l0.length c0) l0) (h : r2_trim.f k l0 = some r) :
 Calls Try.prog 97 #[.slice A0 l0.length c0] w fun e w' => ∃ v0_ : Value, e = .returned (v0_) ∧ Kd.V (Kd.int .u32) 124 w' w.heap.size (fun k_ => (P0_ k_ ∨ w.heap.size ≤ k_)) v0_ r ∧ Below w.heap.size w w' := by
 have HO0 := aK (show Kd.V (Kd.int .u32) 124 w w.heap.size (fun k_ => (P0_ k_ ∨ w.heap.size ≤ k_)) (.slice A0 l0.length c0) l0 from Kd.V_mono hs0 (fun k_ hk => .inl hk)); have HB := aK (Below.refl w.heap.size w); have H : (r2_trim.l0 k l0 (l0.length : Int)) = some r := h; clear h; have H' := aK H; clear H
 go_enter Try.func97, Try.ntmps97
 go_wp2
 go_loopg [3] k (fun kq v3 w' => ∃ (q0 : Int), v3 = .int .i64 q0 ∧ Aside0 (r2_trim.l0 kq l0 q0 = some r) ∧ Aside0 (kq ≤ k) ∧ Aside0 (Kd.V (Kd.int .u32) 124 w' w.heap.size (fun k_ => (P0_ k_ ∨ w.heap.size ≤ k_)) (.slice A0 l0.length c0) l0) ∧ Aside0 (Below w.heap.size w w'))
 case atStart => exact ⟨((l0.length : Int)), RSq, (by first | exact H' | (subst_vars; exact H')), ⟨Nat.le_refl _⟩, ⟨kV HO0⟩, ⟨kH HB⟩⟩
 case round =>
  clear H'; obtain ⟨q0, rfl, HA, HK1, HO_0, HB⟩ := hrel
  cases gk with
  | zero => exact absurd HA.out (by simp [r2_trim.l0])
  | succ k1 =>
   have H := HA.out; clear HA
   simp only [r2_trim.l0] at H
   by_cases c2 : q0 > 0
   · rw [if_pos c2] at H
     have q1 : decide (0 < q0) = true := decide_eq_true c2; clear c2; obtain ⟨ji3, hji3⟩ : ∃ j_ : Int, (wrap64 (q0 - 1)) = j_ := ⟨_, rfl⟩
     replace H : (if 0 ≤ (ji3) then (if (ji3) < (l0.length : Int) then (if (rd l0 (ji3)) = 0 then (r2_trim.l0 k1 l0 ji3) else (if 0 ≤ q0 then (if q0 ≤ (l0.length : Int) then (some (l0.take (q0 : Int).toNat)) else (none)) else (none))) else (none)) else (none)) = some r := by first | (rw [hji3] at H; exact H) | (simp only [hji3] at H ⊢; exact H)
     have hji3w : (IntKind.i64.wrap (q0 - 1)) = ji3 := (i64_w _).trans hji3
     by_cases c4 : 0 ≤ (ji3)
     · rw [if_pos c4] at H
       have c4b0 : decide (0 ≤ (ji3)) = true := decide_eq_true c4; clear c4
       by_cases c5 : (ji3) < (l0.length : Int)
       · rw [if_pos c5] at H
         have c5b0 : decide ((ji3) < (l0.length : Int)) = true := decide_eq_true c5; clear c5
         by_cases c6 : (rd l0 (ji3)) = 0
         · rw [if_pos c6] at H
           have q2 : ((rd l0 (ji3)) == 0) = true := beq_iff_eq.mpr c6; have q3 : ((rd l0 (ji3)) != 0) = false := bne_eq_false_iff_eq.mpr c6; clear c6; have H' := aK H; clear H; have p371 : 0 ≤ ((ji3) : Int) := of_decide_eq_true ASq; have q371 : (ji3) < (l0.length : Int) := of_decide_eq_true ASq; obtain ⟨ad371, e371, q4⟩ := Kd.at_int (Kd.V_reads' HO_0.out).2.2 (ji3) p371 q371
           cases e371
           replace p371 := eq_true p371; replace q371 := eq_true q371
           go_wp2
           go_roundg k1
           case measure => have := HK1.out; omega
           case rel => exact ⟨(ji3), (by first | rfl | (simp; done) | (simp only [← hji3] <;> (first | rfl | simp)) | (simp [*]; done)), (by first | exact H' | (subst_vars; exact H')), ⟨by have := HK1.out; omega⟩, ⟨kV HO_0⟩, ⟨kH HB⟩⟩
         rw [if_neg c6] at H
         have q2 : ((rd l0 (ji3)) == 0) = false := beq_eq_false_iff_ne.mpr c6; have q3 : ((rd l0 (ji3)) != 0) = true := bne_iff_ne.mpr c6
         by_cases c7 : 0 ≤ q0
         · rw [if_pos c7] at H
           have c7b0 := eq_true c7; have c7b1 : decide (0 ≤ q0) = true := decide_eq_true c7; clear c7
           by_cases c8 : q0 ≤ (l0.length : Int)
           · rw [if_pos c8] at H
             have c8b0 := eq_true c8; have c8b1 : decide (q0 ≤ (l0.length : Int)) = true := decide_eq_true c8; clear c8; obtain ⟨y372, hy372⟩ : ∃ y_ : List Int, y_ = (l0.take (q0 : Int).toNat) := ⟨_, rfl⟩
             replace H : (some y372) = some r := by first | (rw [hy372]; with_reducible exact H) | (have H2_ := (Option.bind_some _ _).symm.trans H; rw [hy372]; with_reducible exact H2_) | (have H2_ := (Option.bind_some _ _).symm.trans H; with_reducible exact H2_) | with_reducible exact H | (rw [hy372]; exact H) | exact H
             have Ny372 := aK hy372; clear hy372; obtain rfl := Option.some.inj H; have p371 : 0 ≤ ((ji3) : Int) := of_decide_eq_true ASq; have q371 : (ji3) < (l0.length : Int) := of_decide_eq_true ASq; obtain ⟨ad371, e371, q4⟩ := Kd.at_int (Kd.V_reads' HO_0.out).2.2 (ji3) p371 q371
             cases e371
             replace p371 := eq_true p371; replace q371 := eq_true q371; have q9 : (q0 : Int) ≤ ((l0.length : Int) : Int) := of_decide_eq_true ASq; obtain ⟨i09, hi09, _, hsz9, _⟩ := info_parts info124; have hroom9 : l0.length ≤ c0 := (Kd.V_reads' HO_0.out).2.1; have hC9 : Kd.F (Kd.int .u32) _ _ (some ad371) l0.length l0 := (Kd.V_at (base := w.heap.size) HO_0.out).2.2; have hcut9 := cut_to_cap (P := Try.prog) 75 124 .i64 Try.underlying75 hi09 (some ad371) l0.length c0 q0 (of_decide_eq_true ASq) q9 hroom9; have hr9 := Kd.F_take (m := (q0 : Int).toNat) hC9 (by omega); have hy9 : y372.length = (q0 : Int).toNat := (by rw [Ny372.out, List.length_take]; omega)
             rw [← Ny372.out] at hr9
             rw [← hy9] at hcut9
             have q5 := aK (show Kd.V (Kd.int .u32) 124 _ w.heap.size _ (.slice (some ad371) y372.length y372.length) y372 from Kd.V_mk (by omega) hr9); have HC376 := aK (show y372.length ≤ y372.length from by omega); clear hr9 hC9 hroom9 hi09 hsz9; have KY9 := aK hy9; clear hy9; replace q9 := eq_true q9
             go_wp2
             go_ret
             exact ⟨_, by first | rfl | (simp [errW_none, errW_some] <;> rfl) | (simp only [← hji3]; first | rfl | (simp [errW_none, errW_some] <;> rfl)) | (simp [*, errW_none, errW_some] <;> rfl), by (with_reducible repeat (first | apply Kd.V_alloc | apply Kd.V_drewN | apply Kd.V_drew)); exact q5.out, kH HB⟩
           rw [if_neg c8] at H
           exact absurd H (by simp)
         rw [if_neg c7] at H
         exact absurd H (by simp)
       rw [if_neg c5] at H
       exact absurd H (by simp)
     rw [if_neg c4] at H
     exact absurd H (by simp)
   rw [if_neg c2] at H
   have q1 : decide (0 < q0) = false := decide_eq_false c2; clear c2
   by_cases c10 : 0 ≤ q0
   · rw [if_pos c10] at H
     have c10b0 := eq_true c10; have c10b1 : decide (0 ≤ q0) = true := decide_eq_true c10; clear c10
     by_cases c11 : q0 ≤ (l0.length : Int)
     · rw [if_pos c11] at H
       have c11b0 := eq_true c11; have c11b1 : decide (q0 ≤ (l0.length : Int)) = true := decide_eq_true c11; clear c11; obtain ⟨y377, hy377⟩ : ∃ y_ : List Int, y_ = (l0.take (q0 : Int).toNat) := ⟨_, rfl⟩
       replace H : (some y377) = some r := by first | (rw [hy377]; with_reducible exact H) | (have H2_ := (Option.bind_some _ _).symm.trans H; rw [hy377]; with_reducible exact H2_) | (have H2_ := (Option.bind_some _ _).symm.trans H; with_reducible exact H2_) | with_reducible exact H | (rw [hy377]; exact H) | exact H
       have Ny377 := aK hy377; clear hy377; obtain rfl := Option.some.inj H; have q12 : (q0 : Int) ≤ ((l0.length : Int) : Int) := of_decide_eq_true ASq; obtain ⟨i012, hi012, _, hsz12, _⟩ := info_parts info124; have hroom12 : l0.length ≤ c0 := (Kd.V_reads' HO_0.out).2.1; have hC12 : Kd.F (Kd.int .u32) _ _ A0 l0.length l0 := (Kd.V_at (base := w.heap.size) HO_0.out).2.2; have hcut12 := cut_to_cap (P := Try.prog) 75 124 .i64 Try.underlying75 hi012 A0 l0.length c0 q0 (of_decide_eq_true ASq) q12 hroom12; have hr12 := Kd.F_take (m := (q0 : Int).toNat) hC12 (by omega); have hy12 : y377.length = (q0 : Int).toNat := (by rw [Ny377.out, List.length_take]; omega)
       rw [← Ny377.out] at hr12
       rw [← hy12] at hcut12
       have q6 := aK (show Kd.V (Kd.int .u32) 124 _ w.heap.size _ (.slice A0 y377.length y377.length) y377 from Kd.V_mk (by omega) hr12); have HC381 := aK (show y377.length ≤ y377.length from by omega); clear hr12 hC12 hroom12 hi012 hsz12; have KY12 := aK hy12; clear hy12; replace q12 := eq_true q12
       go_wp2
       go_ret
       exact ⟨_, by first | rfl | (simp [errW_none, errW_some] <;> rfl) | (simp [*, errW_none, errW_some] <;> rfl), by (with_reducible repeat (first | apply Kd.V_alloc | apply Kd.V_drewN | apply Kd.V_drew)); exact q6.out, kH HB⟩
     rw [if_neg c11] at H
     exact absurd H (by simp)
   rw [if_neg c10] at H
   exact absurd H (by simp)
mutual
def r2_Shl.l0 : Nat → List Int → Int → List Int → Int → Int → Option (List Int)
 | 0, _, _, _, _, _ => none
 | k + 1, x0, x1, x5, x6, x7 => if x7 < (Int.tmod x1 16) then (r2_Shl.l0 k x0 x1 x5 ((2 * x6) % 4294967296) (wrap64 (x7 + 1))) else (r2_Shl.l1 k x0 x5 x6 0 0)
def r2_Shl.l1 : Nat → List Int → List Int → Int → Int → Int → Option (List Int)
 | 0, _, _, _, _, _ => none
 | k + 1, x0, x5, x6, x8, x9 => if x9 < (x0.length : Int) then (if 0 ≤ x9 then (if x5.length < 35184372088832 then (r2_Shl.l1 k x0 (x5 ++ [(x8 + ((rd x0 x9) * x6)) % 65536]) x6 (((x8 + ((rd x0 x9) * x6)) % 4294967296) / 65536) (wrap64 (x9 + 1))) else (none)) else (none)) else (if x5.length < 35184372088832 then ((r2_trim.f k (x5 ++ [x8])).bind fun q5 => (some q5)) else (none))
end
def r2_Shl.f (k : Nat) (l0 : List Int) (a1 : Int) : Option (List Int) := if (l0.length : Int) = 0 then (some ([] : List Int)) else (if 0 ≤ (wrap64 (Int.tdiv a1 16)) then (if (wrap64 (Int.tdiv a1 16) : Int).toNat ≤ 70368744177664 then (r2_Shl.l0 k l0 a1 (List.replicate (wrap64 (Int.tdiv a1 16) : Int).toNat 0) 1 0) else (none)) else (none))
theorem r2_Shl.mono_l : ∀ k, (∀ y0 y1 y2 y3 y4, LeO (r2_Shl.l0 k y0 y1 y2 y3 y4) (r2_Shl.l0 (k + 1) y0 y1 y2 y3 y4)) ∧ (∀ y0 y1 y2 y3 y4, LeO (r2_Shl.l1 k y0 y1 y2 y3 y4) (r2_Shl.l1 (k + 1) y0 y1 y2 y3 y4))
 | 0 => ⟨fun _ _ _ _ _ r h => by simp [r2_Shl.l0] at h, fun _ _ _ _ _ r h => by simp [r2_Shl.l1] at h⟩
 | k + 1 => by
  obtain ⟨ih0, ih1⟩ := r2_Shl.mono_l k; refine ⟨?_, ?_⟩
  · intro y0 y1 y2 y3 y4
    unfold r2_Shl.l0
    repeat' (with_reducible first | exact ih0 _ _ _ _ _ | exact ih1 _ _ _ _ _ | exact r2_trim.mono _ _ | exact LeO.refl _ | exact LeO.none _ | refine LeO.ite ?_ ?_ | refine LeO.bind ?_ (fun _ => ?_))
  intro y0 y1 y2 y3 y4
  unfold r2_Shl.l1
  repeat' (with_reducible first | exact ih0 _ _ _ _ _ | exact ih1 _ _ _ _ _ | exact r2_trim.mono _ _ | exact LeO.refl _ | exact LeO.none _ | refine LeO.ite ?_ ?_ | refine LeO.bind ?_ (fun _ => ?_))
theorem r2_Shl.mono : ∀ a0 a1 k, LeO (r2_Shl.f k a0 a1) (r2_Shl.f (k + 1) a0 a1) := by
 intro a0 a1 k; obtain ⟨ih0, ih1⟩ := r2_Shl.mono_l k
 unfold r2_Shl.f
 repeat' (with_reducible first | exact ih0 _ _ _ _ _ | exact ih1 _ _ _ _ _ | exact r2_trim.mono _ _ | exact LeO.refl _ | exact LeO.none _ | refine LeO.ite ?_ ?_ | refine LeO.bind ?_ (fun _ => ?_))
set_option maxHeartbeats 8000000 in
set_option maxRecDepth 100000 in
theorem r2_Shl.calls (k : Nat) (A0 : Option Addr) (c0 : Nat) (l0 : List Int) (a1 : Int) (r : List Int) (w : World) (hr0 : Kd.C (Kd.int .u32) w A0 l0.length l0) (hc0 : l0.length ≤ c0) (h : r2_Shl.f k l0 a1 = some r) :
 Calls Try.prog 70 #[.slice A0 l0.length c0, .int .i64 a1] w fun e w' => ∃ v0_ : Value, e = .returned (v0_) ∧ Kd.V (Kd.int .u32) 124 w' w.heap.size (fun k_ => (w.heap.size ≤ k_)) v0_ r ∧ Below w.heap.size w w' := by
 have HR0 := aK hr0; have HC0 := aK hc0; clear hr0 hc0; have HB := aK (Below.refl w.heap.size w); have H : (if (l0.length : Int) = 0 then (some ([] : List Int)) else (if 0 ≤ (wrap64 (Int.tdiv a1 16)) then (if (wrap64 (Int.tdiv a1 16) : Int).toNat ≤ 70368744177664 then (r2_Shl.l0 k l0 a1 (List.replicate (wrap64 (Int.tdiv a1 16) : Int).toNat 0) 1 0) else (none)) else (none))) = some r := h; clear h
 by_cases c3 : (l0.length : Int) = 0
 · rw [if_pos c3] at H
   have q7 : ((l0.length : Int) == 0) = true := beq_iff_eq.mpr c3; have q8 : ((l0.length : Int) != 0) = false := bne_eq_false_iff_eq.mpr c3; clear c3; obtain rfl := Option.some.inj H
   go_enter Try.func70, Try.ntmps70
   go_wp2
   go_ret
   exact ⟨_, by first | rfl | (simp [errW_none, errW_some] <;> rfl) | (simp [*, errW_none, errW_some] <;> rfl), Kd.R_V (by first | exact Kd.R_nil _ _ _ _ _ | exact Kd.N_nil _ _ _ _ _ | exact Kd.V_nil _ _ _ _ _ | exact Kd.Q_nil _ _ _ _ _ | exact Kd.S_nil _ _ _ _ _ | exact Kd.R_nil _ _ _ 0 _ | exact Kd.R_nil _ _ _ 0 (fun k_ => w.heap.size ≤ k_)), kH HB⟩
 rw [if_neg c3] at H
 have q7 : ((l0.length : Int) == 0) = false := beq_eq_false_iff_ne.mpr c3; have q8 : ((l0.length : Int) != 0) = true := bne_iff_ne.mpr c3
 have qa : ¬ (l0 = []) := fun h_ => c3 (by rw [h_]; rfl)
 obtain ⟨ji4, hji4⟩ : ∃ j_ : Int, (wrap64 (Int.tdiv a1 16)) = j_ := ⟨_, rfl⟩
 replace H : (if 0 ≤ (ji4) then (if (ji4 : Int).toNat ≤ 70368744177664 then (r2_Shl.l0 k l0 a1 (List.replicate (ji4 : Int).toNat 0) 1 0) else (none)) else (none)) = some r := by first | (rw [hji4] at H; exact H) | (simp only [hji4] at H ⊢; exact H)
 have hji4w : (IntKind.i64.wrap (Int.tdiv a1 16)) = ji4 := (i64_w _).trans hji4
 by_cases c5 : 0 ≤ (ji4)
 · rw [if_pos c5] at H
   have qb := eq_true c5; have qc : decide (0 ≤ (ji4)) = true := decide_eq_true c5; clear c5
   by_cases c6 : (ji4 : Int).toNat ≤ 70368744177664
   · rw [if_pos c6] at H
     have qd := eq_true c6; have qe : decide ((ji4 : Int).toNat ≤ 70368744177664) = true := decide_eq_true c6; clear c6; obtain ⟨y389, hy389⟩ : ∃ y_ : List Int, y_ = (List.replicate (ji4 : Int).toNat 0) := ⟨_, rfl⟩
     replace H : (r2_Shl.l0 k l0 a1 y389 1 0) = some r := by first | (rw [hy389]; with_reducible exact H) | (have H2_ := (Option.bind_some _ _).symm.trans H; rw [hy389]; with_reducible exact H2_) | (have H2_ := (Option.bind_some _ _).symm.trans H; with_reducible exact H2_) | with_reducible exact H | (rw [hy389]; exact H) | exact H
     have Ny389 := aK hy389; clear hy389; have H' := aK H; clear H
     go_enter Try.func70, Try.ntmps70
     go_wp2_with (first | ((with_reducible refine gate_dst (N := 15) rfl ?_); refine Kd.R_make (Kd.int .u32) _ 124 rfl (N := 15) rfl 75 _ _ rfl ji4 rfl rfl Try.underlying75 (.int .u32 0) 4 info124 rfl (by decide) (by omega) 0 (ok := fun _ => True) (okp := fun _ => True) rfl (fun _ hk => hk) trivial (of_decide_eq_true ASq) (Nat.le_trans (Nat.mul_le_mul_right _ (of_decide_eq_true ASq : ji4.toNat ≤ 70368744177664)) (by omega)) (Below.refl _ _) (Nat.le_refl _) ?_; intro v390 w7 ho8 hb hg_ hnew_; clear hg_ hnew_; (first | rw [← Ny389.out] at ho8 | (simp only [Int.reduceToNat] at ho8; rw [← Ny389.out] at ho8)); have qj := aK (Kd.R_lower (Kd.R_newM (M := fun k_ => (w.heap.size ≤ k_)) ho8 (below_size (kH HB)) (fun k_ h_ => h_)) (below_size (kH HB))); replace HB := aK (below_step (kH HB) hb); clear hb ho8))
     go_loopg [6, 7] k (fun kq v6 v7 w' => ∃ (q1 : Int) (q4 : Int), v6 = .int .u32 q1 ∧ v7 = .int .i64 q4 ∧ Aside0 (r2_Shl.l0 kq l0 a1 y389 q1 q4 = some r) ∧ Aside0 (kq ≤ k) ∧ Aside0 (Kd.R (Kd.int .u32) 124 w' w.heap.size (fun k_ => (w.heap.size ≤ k_)) v390 y389) ∧ Aside0 (Below w.heap.size w w'))
     case atStart => exact ⟨(1), (0), RSq, RSq, (by first | exact H' | (subst_vars; exact H')), ⟨Nat.le_refl _⟩, ⟨by (with_reducible repeat (first | apply Kd.R_alloc | apply Kd.R_drewN | apply Kd.R_drew)); exact Kd.R_mono qj.out (fun _ hk => hk.1)⟩, ⟨kH HB⟩⟩
     case round =>
      clear H'; (try clear p2); (try clear c3); (try clear q7); (try clear q8); (try clear qa); (try clear c5); (try clear qb); (try clear qc); (try clear c6); (try clear qd); (try clear qe); (try clear p6); (try clear c7); obtain ⟨q1, q4, rfl, rfl, HA, HK1, HO_5, HB⟩ := hrel
      cases gk with
      | zero => exact absurd HA.out (by simp [r2_Shl.l0])
      | succ k1 =>
       have H := HA.out; clear HA
       simp only [r2_Shl.l0] at H
       by_cases c9 : q4 < (Int.tmod a1 16)
       · rw [if_pos c9] at H
         have qf : decide (q4 < (Int.tmod a1 16)) = true := decide_eq_true c9; clear c9; have H' := aK H; clear H
         go_wp2
         go_roundg k1
         case measure => have := HK1.out; omega
         case rel => exact ⟨((2 * q1) % 4294967296), (wrap64 (q4 + 1)), RSq, RSq, (by first | exact H' | (subst_vars; exact H')), ⟨by have := HK1.out; omega⟩, ⟨kR HO_5⟩, ⟨kH HB⟩⟩
       rw [if_neg c9] at H
       have qf : decide (q4 < (Int.tmod a1 16)) = false := decide_eq_false c9; clear c9; have H' := aK H; clear H
       go_wp2
       go_loopg [5, 8, 9] k1 (fun kq v5 v8 v9 w' => ∃ (q3 : List Int) (q2 : Int) (q0 : Int), v8 = .int .u32 q2 ∧ v9 = .int .i64 q0 ∧ Aside0 (r2_Shl.l1 kq l0 q3 q1 q2 q0 = some r) ∧ Aside0 (kq ≤ k1) ∧ Aside0 (Kd.R (Kd.int .u32) 124 w' w.heap.size (fun k_ => (w.heap.size ≤ k_)) v5 q3) ∧ Aside0 (Below w.heap.size w w'))
       case atStart => exact ⟨(y389), (0), (0), RSq, RSq, (by first | exact H' | (subst_vars; exact H')), ⟨Nat.le_refl _⟩, ⟨kR HO_5⟩, ⟨kH HB⟩⟩
       case round =>
        clear H'; (try clear p2); (try clear c3); (try clear q7); (try clear q8); (try clear qa); (try clear c5); (try clear qb); (try clear qc); (try clear c6); (try clear qd); (try clear qe); (try clear p6); (try clear c7); (try clear c9); (try clear qf); (try clear p2); (try clear p6); obtain ⟨q3, q2, q0, rfl, rfl, HA, HK2, HO_5, HB⟩ := hrel
        cases gk with
        | zero => exact absurd HA.out (by simp [r2_Shl.l1])
        | succ k2 =>
         have H := HA.out; clear HA
         simp only [r2_Shl.l1] at H
         by_cases c10 : q0 < (l0.length : Int)
         · rw [if_pos c10] at H
           have qk : decide (q0 < (l0.length : Int)) = true := decide_eq_true c10; clear c10
           by_cases c11 : 0 ≤ q0
           · rw [if_pos c11] at H
             have c11b0 : decide (0 ≤ q0) = true := decide_eq_true c11; clear c11
             by_cases c12 : q3.length < 35184372088832
             · rw [if_pos c12] at H
               have LMc12 := aK c12; clear c12; obtain ⟨y393, hy393⟩ : ∃ y_ : List Int, y_ = (q3 ++ [(q2 + ((rd l0 q0) * q1)) % 65536]) := ⟨_, rfl⟩
               replace H : (r2_Shl.l1 k2 l0 y393 q1 (((q2 + ((rd l0 q0) * q1)) % 4294967296) / 65536) (wrap64 (q0 + 1))) = some r := by first | (rw [hy393]; with_reducible exact H) | (have H2_ := (Option.bind_some _ _).symm.trans H; rw [hy393]; with_reducible exact H2_) | (have H2_ := (Option.bind_some _ _).symm.trans H; with_reducible exact H2_) | with_reducible exact H | (rw [hy393]; exact H) | exact H
               have Ny393 := aK hy393; clear hy393; have H' := aK H; clear H; have p392 : 0 ≤ (q0 : Int) := of_decide_eq_true ASq; have q392 : q0 < (l0.length : Int) := of_decide_eq_true ASq; obtain ⟨ad392, e392, q9⟩ := Kd.at_int HR0.out q0 p392 q392
               cases e392
               replace q9 := (HB.out.cell (World.block_lt_of_cell? w _ q9)).trans q9; replace p392 := eq_true p392; replace q392 := eq_true q392
               go_wp2_with (first | ((with_reducible refine gate_builtin (b := .append) (xs := #[.tmp 38, .tmp 41]) rfl ?_); at_builtin; refine Kd.R_append (Kd.int .u32) (w0 := w) w.heap.size rfl (.tmp 38) (.tmp 41) 75 124 (.int .u32 0) 4 rfl Try.underlying75 info124 rfl (by decide) (by omega) u5 q3 ((q2 + ((rd l0 q0) * q1)) % 65536) [.int .u32 ((q2 + ((rd l0 q0) * q1)) % 65536)] (fun k_ => (w.heap.size ≤ k_)) (fun _ => False) rfl rfl ?aP (fun _ hk => hk.elim) ?aF ?aO ?aB ?aS ?aL ?_; (case aP => exact rfl); (case aB => exact (kH HB)); (case aF => exact (fun k_ hk => (Nat.le_trans (below_size (kH HB)) hk))); (case aO => exact (kR HO_5)); (case aS => exact (below_size (kH HB))); (case aL => have := LMc12.out; omega); intro v394 w13 ho hb hg hat; rw [← Ny393.out] at ho; replace HB := aK (hb); have ql := aK (ho); clear HO_5; clear ho hb hg hat))
               go_roundg k2
               case measure => have := HK1.out; have := HK2.out; omega
               case rel => exact ⟨(y393), (((q2 + ((rd l0 q0) * q1)) % 4294967296) / 65536), (wrap64 (q0 + 1)), RSq, RSq, (by first | exact H' | (subst_vars; exact H')), ⟨by have := HK1.out; have := HK2.out; omega⟩, ⟨kR ql⟩, ⟨kH HB⟩⟩
             rw [if_neg c12] at H
             exact absurd H (by simp)
           rw [if_neg c11] at H
           exact absurd H (by simp)
         rw [if_neg c10] at H
         have qk : decide (q0 < (l0.length : Int)) = false := decide_eq_false c10; clear c10
         by_cases c14 : q3.length < 35184372088832
         · rw [if_pos c14] at H
           have LMc14 := aK c14; clear c14; obtain ⟨y396, hy396⟩ : ∃ y_ : List Int, y_ = (q3 ++ [q2]) := ⟨_, rfl⟩
           replace H : ((r2_trim.f k2 y396).bind fun q5 => (some q5)) = some r := by first | (rw [hy396]; with_reducible exact H) | (have H2_ := (Option.bind_some _ _).symm.trans H; rw [hy396]; with_reducible exact H2_) | (have H2_ := (Option.bind_some _ _).symm.trans H; with_reducible exact H2_) | with_reducible exact H | (rw [hy396]; exact H) | exact H
           have Ny396 := aK hy396; clear hy396; replace H := Option.bind_eq_some_iff.mp H; obtain ⟨q5, qg, H⟩ := H; replace H : (some q5) = some r := H; have A15 := aK qg; clear qg; obtain rfl := Option.some.inj H
           go_wp2_with (first | ((with_reducible refine gate_builtin (b := .append) (xs := #[.tmp 45, .tmp 47]) rfl ?_); at_builtin; refine Kd.R_append (Kd.int .u32) (w0 := w) w.heap.size rfl (.tmp 45) (.tmp 47) 75 124 (.int .u32 0) 4 rfl Try.underlying75 info124 rfl (by decide) (by omega) u5 q3 q2 [.int .u32 q2] (fun k_ => (w.heap.size ≤ k_)) (fun _ => False) rfl rfl ?aP (fun _ hk => hk.elim) ?aF ?aO ?aB ?aS ?aL ?_; (case aP => exact rfl); (case aB => exact (kH HB)); (case aF => exact (fun k_ hk => (Nat.le_trans (below_size (kH HB)) hk))); (case aO => exact (kR HO_5)); (case aS => exact (below_size (kH HB))); (case aL => have := LMc14.out; omega); intro v397 w16 ho hb hg hat; rw [← Ny396.out] at ho; replace HB := aK (hb); have q6 := aK (ho); clear HO_5; clear ho hb hg hat; obtain ⟨qh, qi, eo17⟩ := Kd.R_slice q6.out; subst eo17) | ((with_reducible refine gate_callee (f := 97) rfl ?_); refine goesL_ (some 49) rfl rfl Try.func97 (by kernel_rfl) rfl #[.slice qh y396.length qi] rfl LMq ?_; (with_reducible refine (r2_trim.calls k2 (fun k_ => some k_ = (.slice qh y396.length qi : Value).ownBlock) _ _ y396 q5 _ ?side1 A15.out).mono ?_); (case side1 => exact Kd.R_V (Kd.R_tight rfl (q6.out))); rintro e w18 ⟨v400, rfl, ho0, hb⟩; refine ⟨_, rfl, ?_⟩; have qm := aK (Kd.V_lower (Kd.V_mono (ok' := fun k_ => (w.heap.size ≤ k_)) ho0 (fun k_ hk_ => Or.elim hk_ (fun hs_ => ((q6.out).1 k_ hs_.symm)) (fun hn_ => (Nat.le_trans (below_size (kH HB)) hn_)))) (below_size (kH HB))); replace q6 := aK (Kd.R_below (kR q6) hb); replace HB := aK (below_step (kH HB) hb); (try clear hb); (try clear hb2); (try clear hk); (try clear hi); (try clear ho0)))
           go_ret
           exact ⟨_, by first | rfl | (simp [errW_none, errW_some] <;> rfl) | (simp only [← hji4]; first | rfl | (simp [errW_none, errW_some] <;> rfl)) | (simp [*, errW_none, errW_some] <;> rfl), by (with_reducible repeat (first | apply Kd.V_alloc | apply Kd.V_drewN | apply Kd.V_drew)); exact qm.out, kH HB⟩
         rw [if_neg c14] at H
         exact absurd H (by simp)
   rw [if_neg c6] at H
   exact absurd H (by simp)
 rw [if_neg c5] at H
 exact absurd H (by simp)
def r2_at.f (l0 : List Int) (a1 : Int) : Option (Int) := if a1 ≥ 0 then (if a1 < (l0.length : Int) then (if 0 ≤ a1 then (some (rd l0 a1)) else (none)) else (some 0)) else (some 0)
set_option maxHeartbeats 8000000 in
set_option maxRecDepth 100000 in
theorem r2_at.calls (A0 : Option Addr) (c0 : Nat) (l0 : List Int) (a1 : Int) (r : Int) (w : World) (hr0 : Kd.C (Kd.int .u32) w A0 l0.length l0) (hc0 : l0.length ≤ c0) (h : r2_at.f l0 a1 = some r) :
 Calls Try.prog 98 #[.slice A0 l0.length c0, .int .i64 a1] w fun e w' => e = .returned (.int .u32 r) ∧ Drawn0 w w' := by
 have HR0 := aK hr0; have HC0 := aK hc0; clear hr0 hc0; have H : (if a1 ≥ 0 then (if a1 < (l0.length : Int) then (if 0 ≤ a1 then (some (rd l0 a1)) else (none)) else (some 0)) else (some 0)) = some r := h; clear h
 by_cases c3 : a1 ≥ 0
 · rw [if_pos c3] at H
   have q0 : decide (0 ≤ a1) = true := decide_eq_true c3; clear c3
   by_cases c4 : a1 < (l0.length : Int)
   · rw [if_pos c4] at H
     have q1 : decide (a1 < (l0.length : Int)) = true := decide_eq_true c4; clear c4
     by_cases c5 : 0 ≤ a1
     · rw [if_pos c5] at H
       have c5b0 : decide (0 ≤ a1) = true := decide_eq_true c5; clear c5; obtain rfl := Option.some.inj H; have p402 : 0 ≤ (a1 : Int) := of_decide_eq_true ASq; have q402 : a1 < (l0.length : Int) := of_decide_eq_true ASq; obtain ⟨ad402, e402, hx402_0⟩ := Kd.at_int HR0.out a1 p402 q402
       cases e402
       replace p402 := eq_true p402; replace q402 := eq_true q402
       go_enter Try.func98, Try.ntmps98
       go_wp2
       go_ret
       exact ⟨by first | rfl | (simp; done) | (simp [*]; done) | (simp [wrap64]; done), by repeat (first | exact Drawn0.refl _ | apply Drawn0.step)⟩
     rw [if_neg c5] at H
     exact absurd H (by simp)
   rw [if_neg c4] at H
   have q1 : decide (a1 < (l0.length : Int)) = false := decide_eq_false c4; clear c4; obtain rfl := Option.some.inj H
   go_enter Try.func98, Try.ntmps98
   go_wp2
   go_ret
   exact ⟨by first | rfl | (simp; done) | (simp [*]; done) | (simp [wrap64]; done), by repeat (first | exact Drawn0.refl _ | apply Drawn0.step)⟩
 rw [if_neg c3] at H
 have q0 : decide (0 ≤ a1) = false := decide_eq_false c3; clear c3; obtain rfl := Option.some.inj H
 go_enter Try.func98, Try.ntmps98
 go_wp2
 go_ret
 exact ⟨by first | rfl | (simp; done) | (simp [*]; done) | (simp [wrap64]; done), by repeat (first | exact Drawn0.refl _ | apply Drawn0.step)⟩
mutual
def r2_Add.l0 : Nat → List Int → List Int → List Int → Int → Int → Option (List Int)
 | 0, _, _, _, _, _ => none
 | k + 1, x0, x1, x5, x6, x7 => if x7 < (x0.length : Int) then (r2_Add.j1 k x0 x1 x5 x6 x7 true) else (if x7 < (x1.length : Int) then (r2_Add.j1 k x0 x1 x5 x6 x7 true) else (r2_Add.j1 k x0 x1 x5 x6 x7 (decide (x6 > 0))))
def r2_Add.j1 : Nat → List Int → List Int → List Int → Int → Int → Bool → Option (List Int)
 | 0, _, _, _, _, _, _ => none
 | k + 1, x0, x1, x5, x6, x7, x21 => if x21 = true then ((r2_at.f x0 x7).bind fun q3 => ((r2_at.f x1 x7).bind fun q2 => (if x5.length < 35184372088832 then (r2_Add.l0 k x0 x1 (x5 ++ [(x6 + q3 + q2) % 65536]) (((x6 + q3 + q2) % 4294967296) / 65536) (wrap64 (x7 + 1))) else (none)))) else ((r2_trim.f k x5).bind fun q5 => (some q5))
end
def r2_Add.f (k : Nat) (l0 : List Int) (l1 : List Int) : Option (List Int) := r2_Add.l0 k l0 l1 ([] : List Int) 0 0
theorem r2_Add.mono_l : ∀ k, (∀ y0 y1 y2 y3 y4, LeO (r2_Add.l0 k y0 y1 y2 y3 y4) (r2_Add.l0 (k + 1) y0 y1 y2 y3 y4)) ∧ (∀ y0 y1 y2 y3 y4 y5, LeO (r2_Add.j1 k y0 y1 y2 y3 y4 y5) (r2_Add.j1 (k + 1) y0 y1 y2 y3 y4 y5))
 | 0 => ⟨fun _ _ _ _ _ r h => by simp [r2_Add.l0] at h, fun _ _ _ _ _ _ r h => by simp [r2_Add.j1] at h⟩
 | k + 1 => by
  obtain ⟨ih0, ih1⟩ := r2_Add.mono_l k; refine ⟨?_, ?_⟩
  · intro y0 y1 y2 y3 y4
    unfold r2_Add.l0
    repeat' (with_reducible first | exact ih0 _ _ _ _ _ | exact ih1 _ _ _ _ _ _ | exact r2_trim.mono _ _ | exact LeO.refl _ | exact LeO.none _ | refine LeO.ite ?_ ?_ | refine LeO.bind ?_ (fun _ => ?_))
  intro y0 y1 y2 y3 y4 y5
  unfold r2_Add.j1
  repeat' (with_reducible first | exact ih0 _ _ _ _ _ | exact ih1 _ _ _ _ _ _ | exact r2_trim.mono _ _ | exact LeO.refl _ | exact LeO.none _ | refine LeO.ite ?_ ?_ | refine LeO.bind ?_ (fun _ => ?_))
theorem r2_Add.mono : ∀ a0 a1 k, LeO (r2_Add.f k a0 a1) (r2_Add.f (k + 1) a0 a1) := by
 intro a0 a1 k; obtain ⟨ih0, ih1⟩ := r2_Add.mono_l k
 unfold r2_Add.f
 repeat' (with_reducible first | exact ih0 _ _ _ _ _ | exact ih1 _ _ _ _ _ _ | exact r2_trim.mono _ _ | exact LeO.refl _ | exact LeO.none _ | refine LeO.ite ?_ ?_ | refine LeO.bind ?_ (fun _ => ?_))
set_option maxHeartbeats 8000000 in
set_option maxRecDepth 100000 in
theorem r2_Add.calls (k : Nat) (A0 : Option Addr) (c0 : Nat) (l0 : List Int) (A1 : Option Addr) (c1 : Nat) (l1 : List Int) (r : List Int) (w : World) (hr0 : Kd.C (Kd.int .u32) w A0 l0.length l0) (hc0 : l0.length ≤ c0) (hr1 : Kd.C (Kd.int .u32) w A1 l1.length l1) (hc1 : l1.length ≤ c1) (h : r2_Add.f k l0 l1 = some r) :
 Calls Try.prog 72 #[.slice A0 l0.length c0, .slice A1 l1.length c1] w fun e w' => ∃ v0_ : Value, e = .returned (v0_) ∧ Kd.V (Kd.int .u32) 124 w' w.heap.size (fun k_ => (w.heap.size ≤ k_)) v0_ r ∧ Below w.heap.size w w' := by
 have HR0 := aK hr0; have HC0 := aK hc0; clear hr0 hc0; have HR1 := aK hr1; have HC1 := aK hc1; clear hr1 hc1; have HB := aK (Below.refl w.heap.size w); have H : (r2_Add.l0 k l0 l1 ([] : List Int) 0 0) = some r := h; clear h; have H' := aK H; clear H
 go_enter Try.func72, Try.ntmps72
 go_wp2
 go_loopg [5, 6, 7] k (fun kq v5 v6 v7 w' => ∃ (q1 : List Int) (q4 : Int) (q0 : Int), v6 = .int .u32 q4 ∧ v7 = .int .i64 q0 ∧ Aside0 (r2_Add.l0 kq l0 l1 q1 q4 q0 = some r) ∧ Aside0 (kq ≤ k) ∧ Aside0 (Kd.R (Kd.int .u32) 124 w' w.heap.size (fun k_ => (w.heap.size ≤ k_)) v5 q1) ∧ Aside0 (Below w.heap.size w w'))
 case atStart => exact ⟨(([] : List Int)), (0), (0), RSq, RSq, (by first | exact H' | (subst_vars; exact H')), ⟨Nat.le_refl _⟩, ⟨by first | exact Kd.R_nil _ _ _ _ _ | exact Kd.N_nil _ _ _ _ _ | exact Kd.V_nil _ _ _ _ _ | exact Kd.Q_nil _ _ _ _ _ | exact Kd.S_nil _ _ _ _ _ | exact Kd.R_nil _ _ _ 0 _ | exact Kd.R_nil _ _ _ 0 (fun k_ => w.heap.size ≤ k_)⟩, ⟨kH HB⟩⟩
 case round =>
  clear H'; (try clear c1); (try clear p2); obtain ⟨q1, q4, q0, rfl, rfl, HA, HK1, HO_5, HB⟩ := hrel
  cases gk with
  | zero => exact absurd HA.out (by simp [r2_Add.l0])
  | succ k1 =>
   have H := HA.out; clear HA
   simp only [r2_Add.l0] at H
   have HC3 := aK H; clear H
   go_upto_region 4 with (fail)
   go_cut [21] (fun v21 wc => ∃ (kq : Nat) (q7 : Bool), v21 = .bool q7 ∧ Aside0 (r2_Add.j1 kq l0 l1 q1 q4 q0 q7 = some r) ∧ Aside0 (kq ≤ k1) ∧ Aside0 (Kd.R (Kd.int .u32) 124 wc w.heap.size (fun k_ => (w.heap.size ≤ k_)) u5 q1) ∧ Aside0 (Below w.heap.size w wc))
   case first =>
    have H := HC3.out; clear HC3
    by_cases c4 : q0 < (l0.length : Int)
    · rw [if_pos c4] at H
      have q6 : decide (q0 < (l0.length : Int)) = true := decide_eq_true c4; clear c4
      (first | rw [q6] | (simp only [i64_w, i32_w]; rw [q6]) | skip)
      have H' := aK H; clear H
      go_wp2
      go_meet
      case rel => exact ⟨_, (true), RSq, (by first | exact H' | (subst_vars; exact H')), ⟨by have := HK1.out; first | omega | exact Nat.le_refl _⟩, ⟨kR HO_5⟩, ⟨kH HB⟩⟩
    rw [if_neg c4] at H
    have q6 : decide (q0 < (l0.length : Int)) = false := decide_eq_false c4; clear c4
    (first | rw [q6] | (simp only [i64_w, i32_w]; rw [q6]) | skip)
    by_cases c5 : q0 < (l1.length : Int)
    · rw [if_pos c5] at H
      have q8 : decide (q0 < (l1.length : Int)) = true := decide_eq_true c5; clear c5; have H' := aK H; clear H
      go_wp2
      go_meet
      case rel => exact ⟨_, (true), RSq, (by first | exact H' | (subst_vars; exact H')), ⟨by have := HK1.out; first | omega | exact Nat.le_refl _⟩, ⟨kR HO_5⟩, ⟨kH HB⟩⟩
    rw [if_neg c5] at H
    have q8 : decide (q0 < (l1.length : Int)) = false := decide_eq_false c5; clear c5; have H' := aK H; clear H
    go_wp2
    go_meet
    case rel => exact ⟨_, (decide (q4 > 0)), RSq, (by first | exact H' | (subst_vars; exact H')), ⟨by have := HK1.out; first | omega | exact Nat.le_refl _⟩, ⟨kR HO_5⟩, ⟨kH HB⟩⟩
   case rest =>
    clear HC3; (try clear c1); (try clear p2); (try clear c4); (try clear q6); (try clear c5); (try clear q8); (try clear p2); obtain ⟨kq, q7, rfl, HA, HJ2, HO_5, HB⟩ := hcut
    cases kq with
    | zero => exact absurd HA.out (by simp [r2_Add.j1])
    | succ kj2 =>
     have H := HA.out; clear HA
     simp only [r2_Add.j1] at H
     by_cases c6 : q7 = true
     · subst c6
       have H1 : ((r2_at.f l0 q0).bind fun q3 => ((r2_at.f l1 q0).bind fun q2 => (if q1.length < 35184372088832 then (r2_Add.l0 kj2 l0 l1 (q1 ++ [(q4 + q3 + q2) % 65536]) (((q4 + q3 + q2) % 4294967296) / 65536) (wrap64 (q0 + 1))) else (none)))) = some r := by rw [if_pos rfl] at H; exact H
       clear H; have H := H1; clear H1; replace H := Option.bind_eq_some_iff.mp H; obtain ⟨q3, A70, H⟩ := H; replace H : ((r2_at.f l1 q0).bind fun q2 => (if q1.length < 35184372088832 then (r2_Add.l0 kj2 l0 l1 (q1 ++ [(q4 + q3 + q2) % 65536]) (((q4 + q3 + q2) % 4294967296) / 65536) (wrap64 (q0 + 1))) else (none))) = some r := H; have A7 := aK A70; clear A70; replace H := Option.bind_eq_some_iff.mp H; obtain ⟨q2, A80, H⟩ := H; replace H : (if q1.length < 35184372088832 then (r2_Add.l0 kj2 l0 l1 (q1 ++ [(q4 + q3 + q2) % 65536]) (((q4 + q3 + q2) % 4294967296) / 65536) (wrap64 (q0 + 1))) else (none)) = some r := H; have A8 := aK A80; clear A80
       by_cases c9 : q1.length < 35184372088832
       · rw [if_pos c9] at H
         have LMc9 := aK c9; clear c9; obtain ⟨y405, hy405⟩ : ∃ y_ : List Int, y_ = (q1 ++ [(q4 + q3 + q2) % 65536]) := ⟨_, rfl⟩
         replace H : (r2_Add.l0 kj2 l0 l1 y405 (((q4 + q3 + q2) % 4294967296) / 65536) (wrap64 (q0 + 1))) = some r := by first | (rw [hy405]; with_reducible exact H) | (have H2_ := (Option.bind_some _ _).symm.trans H; rw [hy405]; with_reducible exact H2_) | (have H2_ := (Option.bind_some _ _).symm.trans H; with_reducible exact H2_) | with_reducible exact H | (rw [hy405]; exact H) | exact H
         have Ny405 := aK hy405; clear hy405; have H' := aK H; clear H
         go_wp2_with (first | ((with_reducible refine gate_callee (f := 98) rfl ?_); refine goesL_ (some 27) rfl rfl Try.func98 (by kernel_rfl) rfl #[.slice A0 l0.length c0, .int .i64 q0] rfl LMq ?_; (with_reducible refine (r2_at.calls _ _ l0 q0 q3 _ ?side1 ?side2 A7.out).mono ?_); (case side1 => exact kC (Kd.C_below HR0.out HB.out)); (case side2 => exact HC0.out); rintro e w' ⟨rfl, ⟨nd, rfl⟩⟩; refine ⟨_, rfl, ?_⟩) | ((with_reducible refine gate_callee (f := 98) rfl ?_); refine goesL_ (some 31) rfl rfl Try.func98 (by kernel_rfl) rfl #[.slice A1 l1.length c1, .int .i64 q0] rfl LMq ?_; (with_reducible refine (r2_at.calls _ _ l1 q0 q2 _ ?side1 ?side2 A8.out).mono ?_); (case side1 => exact kC (Kd.C_below HR1.out (kH HB))); (case side2 => exact HC1.out); rintro e w' ⟨rfl, ⟨nd, rfl⟩⟩; refine ⟨_, rfl, ?_⟩) | ((with_reducible refine gate_builtin (b := .append) (xs := #[.tmp 33, .tmp 36]) rfl ?_); (try (refine gate_guard (by rfl) ?_; dsimp only)); at_builtin; refine Kd.R_append (Kd.int .u32) (w0 := w) w.heap.size rfl (.tmp 33) (.tmp 36) 75 124 (.int .u32 0) 4 rfl Try.underlying75 info124 rfl (by decide) (by omega) u5 q1 ((q4 + q3 + q2) % 65536) [.int .u32 ((q4 + q3 + q2) % 65536)] (fun k_ => (w.heap.size ≤ k_)) (fun _ => False) rfl rfl ?aP (fun _ hk => hk.elim) ?aF ?aO ?aB ?aS ?aL ?_; (case aP => exact rfl); (case aB => exact (kH HB)); (case aF => exact (fun k_ hk => (Nat.le_trans (below_size (kH HB)) hk))); (case aO => exact (kR HO_5)); (case aS => exact (below_size (kH HB))); (case aL => have := LMc9.out; omega); intro v406 w10 ho hb hg hat; rw [← Ny405.out] at ho; replace HB := aK (hb); have qc := aK (ho); clear HO_5; clear ho hb hg hat))
         go_roundg kj2
         case measure => have := HK1.out; have := HJ2.out; omega
         case rel => exact ⟨(y405), (((q4 + q3 + q2) % 4294967296) / 65536), (wrap64 (q0 + 1)), RSq, RSq, (by first | exact H' | (subst_vars; exact H')), ⟨by have := HK1.out; have := HJ2.out; omega⟩, ⟨kR qc⟩, ⟨kH HB⟩⟩
       rw [if_neg c9] at H
       exact absurd H (by simp)
     replace c6 := Bool.eq_false_iff.mpr c6; subst c6
     have H1 : ((r2_trim.f kj2 q1).bind fun q5 => (some q5)) = some r := by rw [if_neg (show ¬ (false = true) by decide)] at H; exact H
     clear H; have H := H1; clear H1; replace H := Option.bind_eq_some_iff.mp H; obtain ⟨q5, q9, H⟩ := H; replace H : (some q5) = some r := H; have A11 := aK q9; clear q9; obtain rfl := Option.some.inj H; obtain ⟨qa, qb, eo12⟩ := Kd.R_slice HO_5.out; subst eo12
     go_wp2_with (first | ((with_reducible refine gate_callee (f := 97) rfl ?_); refine goesL_ (some 41) rfl rfl Try.func97 (by kernel_rfl) rfl #[.slice qa q1.length qb] rfl LMq ?_; (with_reducible refine (r2_trim.calls kj2 (fun k_ => some k_ = (.slice qa q1.length qb : Value).ownBlock) _ _ q1 q5 _ ?side1 A11.out).mono ?_); (case side1 => exact Kd.R_V (Kd.R_tight rfl (HO_5.out))); rintro e w13 ⟨v409, rfl, ho0, hb⟩; refine ⟨_, rfl, ?_⟩; have qd := aK (Kd.V_lower (Kd.V_mono (ok' := fun k_ => (w.heap.size ≤ k_)) ho0 (fun k_ hk_ => Or.elim hk_ (fun hs_ => ((HO_5.out).1 k_ hs_.symm)) (fun hn_ => (Nat.le_trans (below_size (kH HB)) hn_)))) (below_size (kH HB))); replace HO_5 := aK (Kd.R_below (kR HO_5) hb); replace HB := aK (below_step (kH HB) hb); (try clear hb); (try clear hb2); (try clear hk); (try clear hi); (try clear ho0)))
     go_ret
     exact ⟨_, by first | rfl | (simp [errW_none, errW_some] <;> rfl) | (simp [*, errW_none, errW_some] <;> rfl), by (with_reducible repeat (first | apply Kd.V_alloc | apply Kd.V_drewN | apply Kd.V_drew)); exact qd.out, kH HB⟩
def r2_Sub.l0 : Nat → List Int → List Int → List Int → Int → Int → Option (List Int)
 | 0, _, _, _, _, _ => none
 | k + 1, x0, x1, x5, x6, x7 => if x7 < (x0.length : Int) then ((r2_at.f x0 x7).bind fun q2 => ((r2_at.f x1 x7).bind fun q1 => (if x5.length < 35184372088832 then (r2_Sub.l0 k x0 x1 (x5 ++ [(65536 + q2 - q1 - x6) % 65536]) ((1 - (((65536 + q2 - q1 - x6) % 4294967296) / 65536)) % 4294967296) (wrap64 (x7 + 1))) else (none)))) else ((r2_trim.f k x5).bind fun q5 => (some q5))
def r2_Sub.f (k : Nat) (l0 : List Int) (l1 : List Int) : Option (List Int) := r2_Sub.l0 k l0 l1 ([] : List Int) 0 0
theorem r2_Sub.mono_l : ∀ k, (∀ y0 y1 y2 y3 y4, LeO (r2_Sub.l0 k y0 y1 y2 y3 y4) (r2_Sub.l0 (k + 1) y0 y1 y2 y3 y4))
 | 0 => fun _ _ _ _ _ r h => by simp [r2_Sub.l0] at h
 | k + 1 => by
  have ih0 := r2_Sub.mono_l k
  · intro y0 y1 y2 y3 y4
    unfold r2_Sub.l0
    repeat' (with_reducible first | exact ih0 _ _ _ _ _ | exact r2_trim.mono _ _ | exact LeO.refl _ | exact LeO.none _ | refine LeO.ite ?_ ?_ | refine LeO.bind ?_ (fun _ => ?_))
theorem r2_Sub.mono : ∀ a0 a1 k, LeO (r2_Sub.f k a0 a1) (r2_Sub.f (k + 1) a0 a1) := by
 intro a0 a1 k; have ih0 := r2_Sub.mono_l k
 unfold r2_Sub.f
 repeat' (with_reducible first | exact ih0 _ _ _ _ _ | exact r2_trim.mono _ _ | exact LeO.refl _ | exact LeO.none _ | refine LeO.ite ?_ ?_ | refine LeO.bind ?_ (fun _ => ?_))
set_option maxHeartbeats 8000000 in
set_option maxRecDepth 100000 in
theorem r2_Sub.calls (k : Nat) (A0 : Option Addr) (c0 : Nat) (l0 : List Int) (A1 : Option Addr) (c1 : Nat) (l1 : List Int) (r : List Int) (w : World) (hr0 : Kd.C (Kd.int .u32) w A0 l0.length l0) (hc0 : l0.length ≤ c0) (hr1 : Kd.C (Kd.int .u32) w A1 l1.length l1) (hc1 : l1.length ≤ c1) (h : r2_Sub.f k l0 l1 = some r) :
 Calls Try.prog 92 #[.slice A0 l0.length c0, .slice A1 l1.length c1] w fun e w' => ∃ v0_ : Value, e = .returned (v0_) ∧ Kd.V (Kd.int .u32) 124 w' w.heap.size (fun k_ => (w.heap.size ≤ k_)) v0_ r ∧ Below w.heap.size w w' := by
 have HR0 := aK hr0; have HC0 := aK hc0; clear hr0 hc0; have HR1 := aK hr1; have HC1 := aK hc1; clear hr1 hc1; have HB := aK (Below.refl w.heap.size w); have H : (r2_Sub.l0 k l0 l1 ([] : List Int) 0 0) = some r := h; clear h; have H' := aK H; clear H
 go_enter Try.func92, Try.ntmps92
 go_wp2
 go_loopg [5, 6, 7] k (fun kq v5 v6 v7 w' => ∃ (q3 : List Int) (q4 : Int) (q0 : Int), v6 = .int .u32 q4 ∧ v7 = .int .i64 q0 ∧ Aside0 (r2_Sub.l0 kq l0 l1 q3 q4 q0 = some r) ∧ Aside0 (kq ≤ k) ∧ Aside0 (Kd.R (Kd.int .u32) 124 w' w.heap.size (fun k_ => (w.heap.size ≤ k_)) v5 q3) ∧ Aside0 (Below w.heap.size w w'))
 case atStart => exact ⟨(([] : List Int)), (0), (0), RSq, RSq, (by first | exact H' | (subst_vars; exact H')), ⟨Nat.le_refl _⟩, ⟨by first | exact Kd.R_nil _ _ _ _ _ | exact Kd.N_nil _ _ _ _ _ | exact Kd.V_nil _ _ _ _ _ | exact Kd.Q_nil _ _ _ _ _ | exact Kd.S_nil _ _ _ _ _ | exact Kd.R_nil _ _ _ 0 _ | exact Kd.R_nil _ _ _ 0 (fun k_ => w.heap.size ≤ k_)⟩, ⟨kH HB⟩⟩
 case round =>
  clear H'; (try clear c1); (try clear p2); obtain ⟨q3, q4, q0, rfl, rfl, HA, HK1, HO_5, HB⟩ := hrel
  cases gk with
  | zero => exact absurd HA.out (by simp [r2_Sub.l0])
  | succ k1 =>
   have H := HA.out; clear HA
   simp only [r2_Sub.l0] at H
   by_cases c3 : q0 < (l0.length : Int)
   · rw [if_pos c3] at H
     have q6 : decide (q0 < (l0.length : Int)) = true := decide_eq_true c3; clear c3; replace H := Option.bind_eq_some_iff.mp H; obtain ⟨q2, A40, H⟩ := H; replace H : ((r2_at.f l1 q0).bind fun q1 => (if q3.length < 35184372088832 then (r2_Sub.l0 k1 l0 l1 (q3 ++ [(65536 + q2 - q1 - q4) % 65536]) ((1 - (((65536 + q2 - q1 - q4) % 4294967296) / 65536)) % 4294967296) (wrap64 (q0 + 1))) else (none))) = some r := H; have A4 := aK A40; clear A40; replace H := Option.bind_eq_some_iff.mp H; obtain ⟨q1, A50, H⟩ := H; replace H : (if q3.length < 35184372088832 then (r2_Sub.l0 k1 l0 l1 (q3 ++ [(65536 + q2 - q1 - q4) % 65536]) ((1 - (((65536 + q2 - q1 - q4) % 4294967296) / 65536)) % 4294967296) (wrap64 (q0 + 1))) else (none)) = some r := H; have A5 := aK A50; clear A50
     by_cases c6 : q3.length < 35184372088832
     · rw [if_pos c6] at H
       have LMc6 := aK c6; clear c6; obtain ⟨y417, hy417⟩ : ∃ y_ : List Int, y_ = (q3 ++ [(65536 + q2 - q1 - q4) % 65536]) := ⟨_, rfl⟩
       replace H : (r2_Sub.l0 k1 l0 l1 y417 ((1 - (((65536 + q2 - q1 - q4) % 4294967296) / 65536)) % 4294967296) (wrap64 (q0 + 1))) = some r := by first | (rw [hy417]; with_reducible exact H) | (have H2_ := (Option.bind_some _ _).symm.trans H; rw [hy417]; with_reducible exact H2_) | (have H2_ := (Option.bind_some _ _).symm.trans H; with_reducible exact H2_) | with_reducible exact H | (rw [hy417]; exact H) | exact H
       have Ny417 := aK hy417; clear hy417; have H' := aK H; clear H
       go_wp2_with (first | ((with_reducible refine gate_callee (f := 98) rfl ?_); refine goesL_ (some 17) rfl rfl Try.func98 (by kernel_rfl) rfl #[.slice A0 l0.length c0, .int .i64 q0] rfl LMq ?_; (with_reducible refine (r2_at.calls _ _ l0 q0 q2 _ ?side1 ?side2 A4.out).mono ?_); (case side1 => exact kC (Kd.C_below HR0.out HB.out)); (case side2 => exact HC0.out); rintro e w' ⟨rfl, ⟨nd, rfl⟩⟩; refine ⟨_, rfl, ?_⟩) | ((with_reducible refine gate_callee (f := 98) rfl ?_); refine goesL_ (some 21) rfl rfl Try.func98 (by kernel_rfl) rfl #[.slice A1 l1.length c1, .int .i64 q0] rfl LMq ?_; (with_reducible refine (r2_at.calls _ _ l1 q0 q1 _ ?side1 ?side2 A5.out).mono ?_); (case side1 => exact kC (Kd.C_below HR1.out (kH HB))); (case side2 => exact HC1.out); rintro e w' ⟨rfl, ⟨nd, rfl⟩⟩; refine ⟨_, rfl, ?_⟩) | ((with_reducible refine gate_builtin (b := .append) (xs := #[.tmp 25, .tmp 28]) rfl ?_); at_builtin; refine Kd.R_append (Kd.int .u32) (w0 := w) w.heap.size rfl (.tmp 25) (.tmp 28) 75 124 (.int .u32 0) 4 rfl Try.underlying75 info124 rfl (by decide) (by omega) u5 q3 ((65536 + q2 - q1 - q4) % 65536) [.int .u32 ((65536 + q2 - q1 - q4) % 65536)] (fun k_ => (w.heap.size ≤ k_)) (fun _ => False) rfl rfl ?aP (fun _ hk => hk.elim) ?aF ?aO ?aB ?aS ?aL ?_; (case aP => exact rfl); (case aB => exact (kH HB)); (case aF => exact (fun k_ hk => (Nat.le_trans (below_size (kH HB)) hk))); (case aO => exact (kR HO_5)); (case aS => exact (below_size (kH HB))); (case aL => have := LMc6.out; omega); intro v418 w7 ho hb hg hat; rw [← Ny417.out] at ho; replace HB := aK (hb); have q7 := aK (ho); clear HO_5; clear ho hb hg hat))
       go_roundg k1
       case measure => have := HK1.out; omega
       case rel => exact ⟨(y417), ((1 - (((65536 + q2 - q1 - q4) % 4294967296) / 65536)) % 4294967296), (wrap64 (q0 + 1)), RSq, RSq, (by first | exact H' | (subst_vars; exact H')), ⟨by have := HK1.out; omega⟩, ⟨kR q7⟩, ⟨kH HB⟩⟩
     rw [if_neg c6] at H
     exact absurd H (by simp)
   rw [if_neg c3] at H
   have q6 : decide (q0 < (l0.length : Int)) = false := decide_eq_false c3; clear c3; replace H := Option.bind_eq_some_iff.mp H; obtain ⟨q5, A80, H⟩ := H; replace H : (some q5) = some r := H; have A8 := aK A80; clear A80; obtain rfl := Option.some.inj H; obtain ⟨Ao9, co9, eo9⟩ := Kd.R_slice HO_5.out; subst eo9
   go_wp2_with (first | ((with_reducible refine gate_callee (f := 97) rfl ?_); refine goesL_ (some 34) rfl rfl Try.func97 (by kernel_rfl) rfl #[.slice Ao9 q3.length co9] rfl LMq ?_; (with_reducible refine (r2_trim.calls k1 (fun k_ => some k_ = (.slice Ao9 q3.length co9 : Value).ownBlock) _ _ q3 q5 _ ?side1 A8.out).mono ?_); (case side1 => exact Kd.R_V (Kd.R_tight rfl (HO_5.out))); rintro e w10 ⟨v421, rfl, ho0, hb⟩; refine ⟨_, rfl, ?_⟩; have q8 := aK (Kd.V_lower (Kd.V_mono (ok' := fun k_ => (w.heap.size ≤ k_)) ho0 (fun k_ hk_ => Or.elim hk_ (fun hs_ => ((HO_5.out).1 k_ hs_.symm)) (fun hn_ => (Nat.le_trans (below_size (kH HB)) hn_)))) (below_size (kH HB))); replace HO_5 := aK (Kd.R_below (kR HO_5) hb); replace HB := aK (below_step (kH HB) hb); (try clear hb); (try clear hb2); (try clear hk); (try clear hi); (try clear ho0)))
   go_ret
   exact ⟨_, by first | rfl | (simp [errW_none, errW_some] <;> rfl) | (simp [*, errW_none, errW_some] <;> rfl), by (with_reducible repeat (first | apply Kd.V_alloc | apply Kd.V_drewN | apply Kd.V_drew)); exact q8.out, kH HB⟩
def r2_Cmp.l0 : Nat → List Int → List Int → Int → Option (Int)
 | 0, _, _, _ => none
 | k + 1, x0, x1, x5 => if x5 ≥ 0 then ((r2_at.f x0 x5).bind fun q4 => ((r2_at.f x1 x5).bind fun q3 => (if q4 < q3 then (some (-1)) else ((r2_at.f x0 x5).bind fun q2 => ((r2_at.f x1 x5).bind fun q1 => (if q2 > q1 then (some 1) else (r2_Cmp.l0 k x0 x1 (wrap64 (x5 - 1))))))))) else (some 0)
def r2_Cmp.f (k : Nat) (l0 : List Int) (l1 : List Int) : Option (Int) := if (l0.length : Int) < (l1.length : Int) then (r2_Cmp.l0 k l0 l1 (wrap64 ((l1.length : Int) - 1))) else (r2_Cmp.l0 k l0 l1 (wrap64 ((l0.length : Int) - 1)))
theorem r2_Cmp.mono_l : ∀ k, (∀ y0 y1 y2, LeO (r2_Cmp.l0 k y0 y1 y2) (r2_Cmp.l0 (k + 1) y0 y1 y2))
 | 0 => fun _ _ _ r h => by simp [r2_Cmp.l0] at h
 | k + 1 => by
  have ih0 := r2_Cmp.mono_l k
  · intro y0 y1 y2
    unfold r2_Cmp.l0
    repeat' (with_reducible first | exact ih0 _ _ _ | exact LeO.refl _ | exact LeO.none _ | refine LeO.ite ?_ ?_ | refine LeO.bind ?_ (fun _ => ?_))
theorem r2_Cmp.mono : ∀ a0 a1 k, LeO (r2_Cmp.f k a0 a1) (r2_Cmp.f (k + 1) a0 a1) := by
 intro a0 a1 k; have ih0 := r2_Cmp.mono_l k
 unfold r2_Cmp.f
 repeat' (with_reducible first | exact ih0 _ _ _ | exact LeO.refl _ | exact LeO.none _ | refine LeO.ite ?_ ?_ | refine LeO.bind ?_ (fun _ => ?_))
set_option maxHeartbeats 8000000 in
set_option maxRecDepth 100000 in
theorem r2_Cmp.calls (k : Nat) (A0 : Option Addr) (c0 : Nat) (l0 : List Int) (A1 : Option Addr) (c1 : Nat) (l1 : List Int) (r : Int) (w : World) (hr0 : Kd.C (Kd.int .u32) w A0 l0.length l0) (hc0 : l0.length ≤ c0) (hr1 : Kd.C (Kd.int .u32) w A1 l1.length l1) (hc1 : l1.length ≤ c1) (h : r2_Cmp.f k l0 l1 = some r) :
 Calls Try.prog 91 #[.slice A0 l0.length c0, .slice A1 l1.length c1] w fun e w' => e = .returned (.int .i64 r) ∧ Below w.heap.size w w' := by
 have HR0 := aK hr0; have HC0 := aK hc0; clear hr0 hc0; have HR1 := aK hr1; have HC1 := aK hc1; clear hr1 hc1; have HB := aK (Below.refl w.heap.size w); have H : (if (l0.length : Int) < (l1.length : Int) then (r2_Cmp.l0 k l0 l1 (wrap64 ((l1.length : Int) - 1))) else (r2_Cmp.l0 k l0 l1 (wrap64 ((l0.length : Int) - 1)))) = some r := h; clear h
 by_cases c3 : (l0.length : Int) < (l1.length : Int)
 · rw [if_pos c3] at H
   have c3i := eq_true c3; have q5 : decide ((l0.length : Int) < (l1.length : Int)) = true := decide_eq_true c3; have q6 : decide (l0.length < l1.length) = true := decide_eq_true (Int.ofNat_lt.mp c3); clear c3; have H' := aK H; clear H
   go_enter Try.func91, Try.ntmps91
   go_wp2
   go_loopg [5] k (fun kq v5 w' => ∃ (q0 : Int), v5 = .int .i64 q0 ∧ Aside0 (r2_Cmp.l0 kq l0 l1 q0 = some r) ∧ Aside0 (kq ≤ k) ∧ Aside0 (Below w.heap.size w w'))
   case atStart => exact ⟨(wrap64 ((l1.length : Int) - 1)), RSq, (by first | exact H' | (subst_vars; exact H')), ⟨Nat.le_refl _⟩, ⟨kH HB⟩⟩
   case round =>
    clear H'; (try clear c1); (try clear p2); (try clear c3); (try clear q5); (try clear q6); obtain ⟨q0, rfl, HA, HK1, HB⟩ := hrel
    cases gk with
    | zero => exact absurd HA.out (by simp [r2_Cmp.l0])
    | succ k1 =>
     have H := HA.out; clear HA
     simp only [r2_Cmp.l0] at H
     by_cases c4 : q0 ≥ 0
     · rw [if_pos c4] at H
       have q7 : decide (0 ≤ q0) = true := decide_eq_true c4; clear c4; replace H := Option.bind_eq_some_iff.mp H; obtain ⟨q4, A50, H⟩ := H; replace H : ((r2_at.f l1 q0).bind fun q3 => (if q4 < q3 then (some (-1)) else ((r2_at.f l0 q0).bind fun q2 => ((r2_at.f l1 q0).bind fun q1 => (if q2 > q1 then (some 1) else (r2_Cmp.l0 k1 l0 l1 (wrap64 (q0 - 1)))))))) = some r := H; have A5 := aK A50; clear A50; replace H := Option.bind_eq_some_iff.mp H; obtain ⟨q3, A60, H⟩ := H; replace H : (if q4 < q3 then (some (-1)) else ((r2_at.f l0 q0).bind fun q2 => ((r2_at.f l1 q0).bind fun q1 => (if q2 > q1 then (some 1) else (r2_Cmp.l0 k1 l0 l1 (wrap64 (q0 - 1))))))) = some r := H; have A6 := aK A60; clear A60
       by_cases c7 : q4 < q3
       · rw [if_pos c7] at H
         have q8 : decide (q4 < q3) = true := decide_eq_true c7; clear c7; obtain rfl := Option.some.inj H
         go_wp2_with (first | ((with_reducible refine gate_callee (f := 98) rfl ?_); refine goesL_ (some 18) rfl rfl Try.func98 (by kernel_rfl) rfl #[.slice A0 l0.length c0, .int .i64 q0] rfl LMq ?_; (with_reducible refine (r2_at.calls _ _ l0 q0 q4 _ ?side1 ?side2 A5.out).mono ?_); (case side1 => exact kC (Kd.C_below HR0.out HB.out)); (case side2 => exact HC0.out); rintro e w' ⟨rfl, ⟨nd, rfl⟩⟩; refine ⟨_, rfl, ?_⟩) | ((with_reducible refine gate_callee (f := 98) rfl ?_); refine goesL_ (some 21) rfl rfl Try.func98 (by kernel_rfl) rfl #[.slice A1 l1.length c1, .int .i64 q0] rfl LMq ?_; (with_reducible refine (r2_at.calls _ _ l1 q0 q3 _ ?side1 ?side2 A6.out).mono ?_); (case side1 => exact kC (Kd.C_below HR1.out (kH HB))); (case side2 => exact HC1.out); rintro e w' ⟨rfl, ⟨nd, rfl⟩⟩; refine ⟨_, rfl, ?_⟩))
         go_ret
         exact ⟨by first | rfl | (simp [errW_none, errW_some] <;> rfl) | (simp [*, errW_none, errW_some] <;> rfl), kH HB⟩
       rw [if_neg c7] at H
       have q8 : decide (q4 < q3) = false := decide_eq_false c7; clear c7; replace H := Option.bind_eq_some_iff.mp H; obtain ⟨q2, A80, H⟩ := H; replace H : ((r2_at.f l1 q0).bind fun q1 => (if q2 > q1 then (some 1) else (r2_Cmp.l0 k1 l0 l1 (wrap64 (q0 - 1))))) = some r := H; have A8 := aK A80; clear A80; replace H := Option.bind_eq_some_iff.mp H; obtain ⟨q1, A90, H⟩ := H; replace H : (if q2 > q1 then (some 1) else (r2_Cmp.l0 k1 l0 l1 (wrap64 (q0 - 1)))) = some r := H; have A9 := aK A90; clear A90
       by_cases c10 : q2 > q1
       · rw [if_pos c10] at H
         have q9 : decide (q1 < q2) = true := decide_eq_true c10; clear c10; obtain rfl := Option.some.inj H
         go_wp2_with (first | ((with_reducible refine gate_callee (f := 98) rfl ?_); refine goesL_ (some 18) rfl rfl Try.func98 (by kernel_rfl) rfl #[.slice A0 l0.length c0, .int .i64 q0] rfl LMq ?_; (with_reducible refine (r2_at.calls _ _ l0 q0 q4 _ ?side1 ?side2 A5.out).mono ?_); (case side1 => exact kC (Kd.C_below HR0.out HB.out)); (case side2 => exact HC0.out); rintro e w' ⟨rfl, ⟨nd, rfl⟩⟩; refine ⟨_, rfl, ?_⟩) | ((with_reducible refine gate_callee (f := 98) rfl ?_); refine goesL_ (some 21) rfl rfl Try.func98 (by kernel_rfl) rfl #[.slice A1 l1.length c1, .int .i64 q0] rfl LMq ?_; (with_reducible refine (r2_at.calls _ _ l1 q0 q3 _ ?side1 ?side2 A6.out).mono ?_); (case side1 => exact kC (Kd.C_below HR1.out (kH HB))); (case side2 => exact HC1.out); rintro e w' ⟨rfl, ⟨nd, rfl⟩⟩; refine ⟨_, rfl, ?_⟩) | ((with_reducible refine gate_callee (f := 98) rfl ?_); refine goesL_ (some 25) rfl rfl Try.func98 (by kernel_rfl) rfl #[.slice A0 l0.length c0, .int .i64 q0] rfl LMq ?_; (with_reducible refine (r2_at.calls _ _ l0 q0 q2 _ ?side1 ?side2 A8.out).mono ?_); (case side1 => exact kC (Kd.C_below HR0.out (kH HB))); (case side2 => exact HC0.out); rintro e w' ⟨rfl, ⟨nd, rfl⟩⟩; refine ⟨_, rfl, ?_⟩) | ((with_reducible refine gate_callee (f := 98) rfl ?_); refine goesL_ (some 28) rfl rfl Try.func98 (by kernel_rfl) rfl #[.slice A1 l1.length c1, .int .i64 q0] rfl LMq ?_; (with_reducible refine (r2_at.calls _ _ l1 q0 q1 _ ?side1 ?side2 A9.out).mono ?_); (case side1 => exact kC (Kd.C_below HR1.out (kH HB))); (case side2 => exact HC1.out); rintro e w' ⟨rfl, ⟨nd, rfl⟩⟩; refine ⟨_, rfl, ?_⟩))
         go_ret
         exact ⟨by first | rfl | (simp [errW_none, errW_some] <;> rfl) | (simp [*, errW_none, errW_some] <;> rfl), kH HB⟩
       rw [if_neg c10] at H
       have q9 : decide (q1 < q2) = false := decide_eq_false c10; clear c10; have H' := aK H; clear H
       go_wp2_with (first | ((with_reducible refine gate_callee (f := 98) rfl ?_); refine goesL_ (some 18) rfl rfl Try.func98 (by kernel_rfl) rfl #[.slice A0 l0.length c0, .int .i64 q0] rfl LMq ?_; (with_reducible refine (r2_at.calls _ _ l0 q0 q4 _ ?side1 ?side2 A5.out).mono ?_); (case side1 => exact kC (Kd.C_below HR0.out HB.out)); (case side2 => exact HC0.out); rintro e w' ⟨rfl, ⟨nd, rfl⟩⟩; refine ⟨_, rfl, ?_⟩) | ((with_reducible refine gate_callee (f := 98) rfl ?_); refine goesL_ (some 21) rfl rfl Try.func98 (by kernel_rfl) rfl #[.slice A1 l1.length c1, .int .i64 q0] rfl LMq ?_; (with_reducible refine (r2_at.calls _ _ l1 q0 q3 _ ?side1 ?side2 A6.out).mono ?_); (case side1 => exact kC (Kd.C_below HR1.out (kH HB))); (case side2 => exact HC1.out); rintro e w' ⟨rfl, ⟨nd, rfl⟩⟩; refine ⟨_, rfl, ?_⟩) | ((with_reducible refine gate_callee (f := 98) rfl ?_); refine goesL_ (some 25) rfl rfl Try.func98 (by kernel_rfl) rfl #[.slice A0 l0.length c0, .int .i64 q0] rfl LMq ?_; (with_reducible refine (r2_at.calls _ _ l0 q0 q2 _ ?side1 ?side2 A8.out).mono ?_); (case side1 => exact kC (Kd.C_below HR0.out (kH HB))); (case side2 => exact HC0.out); rintro e w' ⟨rfl, ⟨nd, rfl⟩⟩; refine ⟨_, rfl, ?_⟩) | ((with_reducible refine gate_callee (f := 98) rfl ?_); refine goesL_ (some 28) rfl rfl Try.func98 (by kernel_rfl) rfl #[.slice A1 l1.length c1, .int .i64 q0] rfl LMq ?_; (with_reducible refine (r2_at.calls _ _ l1 q0 q1 _ ?side1 ?side2 A9.out).mono ?_); (case side1 => exact kC (Kd.C_below HR1.out (kH HB))); (case side2 => exact HC1.out); rintro e w' ⟨rfl, ⟨nd, rfl⟩⟩; refine ⟨_, rfl, ?_⟩))
       go_roundg k1
       case measure => have := HK1.out; omega
       case rel => exact ⟨(wrap64 (q0 - 1)), RSq, (by first | exact H' | (subst_vars; exact H')), ⟨by have := HK1.out; omega⟩, ⟨kH HB⟩⟩
     rw [if_neg c4] at H
     have q7 : decide (0 ≤ q0) = false := decide_eq_false c4; clear c4; obtain rfl := Option.some.inj H
     go_wp2
     go_ret
     exact ⟨by first | rfl | (simp [errW_none, errW_some] <;> rfl) | (simp [*, errW_none, errW_some] <;> rfl), kH HB⟩
 rw [if_neg c3] at H
 have c3i := eq_false c3; have q5 : decide ((l0.length : Int) < (l1.length : Int)) = false := decide_eq_false c3; have q6 : decide (l0.length < l1.length) = false := decide_eq_false (fun h => c3 (Int.ofNat_lt.mpr h)); clear c3; have H' := aK H; clear H
 go_enter Try.func91, Try.ntmps91
 go_wp2
 go_loopg [5] k (fun kq v5 w' => ∃ (q0 : Int), v5 = .int .i64 q0 ∧ Aside0 (r2_Cmp.l0 kq l0 l1 q0 = some r) ∧ Aside0 (kq ≤ k) ∧ Aside0 (Below w.heap.size w w'))
 case atStart => exact ⟨(wrap64 ((l0.length : Int) - 1)), RSq, (by first | exact H' | (subst_vars; exact H')), ⟨Nat.le_refl _⟩, ⟨kH HB⟩⟩
 case round =>
  clear H'; (try clear c1); (try clear p2); (try clear c3); (try clear q5); (try clear q6); (try clear c4); (try clear q7); (try clear p6); (try clear c7); (try clear q8); (try clear c9); (try clear c10); (try clear q9); (try clear p2); obtain ⟨q0, rfl, HA, HK1, HB⟩ := hrel
  cases gk with
  | zero => exact absurd HA.out (by simp [r2_Cmp.l0])
  | succ k1 =>
   have H := HA.out; clear HA
   simp only [r2_Cmp.l0] at H
   by_cases c11 : q0 ≥ 0
   · rw [if_pos c11] at H
     have qe : decide (0 ≤ q0) = true := decide_eq_true c11; clear c11; replace H := Option.bind_eq_some_iff.mp H; obtain ⟨q4, qa, H⟩ := H; replace H : ((r2_at.f l1 q0).bind fun q3 => (if q4 < q3 then (some (-1)) else ((r2_at.f l0 q0).bind fun q2 => ((r2_at.f l1 q0).bind fun q1 => (if q2 > q1 then (some 1) else (r2_Cmp.l0 k1 l0 l1 (wrap64 (q0 - 1)))))))) = some r := H; have A12 := aK qa; clear qa; replace H := Option.bind_eq_some_iff.mp H; obtain ⟨q3, qb, H⟩ := H; replace H : (if q4 < q3 then (some (-1)) else ((r2_at.f l0 q0).bind fun q2 => ((r2_at.f l1 q0).bind fun q1 => (if q2 > q1 then (some 1) else (r2_Cmp.l0 k1 l0 l1 (wrap64 (q0 - 1))))))) = some r := H; have A13 := aK qb; clear qb
     by_cases c14 : q4 < q3
     · rw [if_pos c14] at H
       have qf : decide (q4 < q3) = true := decide_eq_true c14; clear c14; obtain rfl := Option.some.inj H
       go_wp2_with (first | ((with_reducible refine gate_callee (f := 98) rfl ?_); refine goesL_ (some 18) rfl rfl Try.func98 (by kernel_rfl) rfl #[.slice A0 l0.length c0, .int .i64 q0] rfl LMq ?_; (with_reducible refine (r2_at.calls _ _ l0 q0 q4 _ ?side1 ?side2 A12.out).mono ?_); (case side1 => exact kC (Kd.C_below HR0.out HB.out)); (case side2 => exact HC0.out); rintro e w' ⟨rfl, ⟨nd, rfl⟩⟩; refine ⟨_, rfl, ?_⟩) | ((with_reducible refine gate_callee (f := 98) rfl ?_); refine goesL_ (some 21) rfl rfl Try.func98 (by kernel_rfl) rfl #[.slice A1 l1.length c1, .int .i64 q0] rfl LMq ?_; (with_reducible refine (r2_at.calls _ _ l1 q0 q3 _ ?side1 ?side2 A13.out).mono ?_); (case side1 => exact kC (Kd.C_below HR1.out (kH HB))); (case side2 => exact HC1.out); rintro e w' ⟨rfl, ⟨nd, rfl⟩⟩; refine ⟨_, rfl, ?_⟩))
       go_ret
       exact ⟨by first | rfl | (simp [errW_none, errW_some] <;> rfl) | (simp [*, errW_none, errW_some] <;> rfl), kH HB⟩
     rw [if_neg c14] at H
     have qf : decide (q4 < q3) = false := decide_eq_false c14; clear c14; replace H := Option.bind_eq_some_iff.mp H; obtain ⟨q2, qc, H⟩ := H; replace H : ((r2_at.f l1 q0).bind fun q1 => (if q2 > q1 then (some 1) else (r2_Cmp.l0 k1 l0 l1 (wrap64 (q0 - 1))))) = some r := H; have A15 := aK qc; clear qc; replace H := Option.bind_eq_some_iff.mp H; obtain ⟨q1, qd, H⟩ := H; replace H : (if q2 > q1 then (some 1) else (r2_Cmp.l0 k1 l0 l1 (wrap64 (q0 - 1)))) = some r := H; have A16 := aK qd; clear qd
     by_cases c17 : q2 > q1
     · rw [if_pos c17] at H
       have qg : decide (q1 < q2) = true := decide_eq_true c17; clear c17; obtain rfl := Option.some.inj H
       go_wp2_with (first | ((with_reducible refine gate_callee (f := 98) rfl ?_); refine goesL_ (some 18) rfl rfl Try.func98 (by kernel_rfl) rfl #[.slice A0 l0.length c0, .int .i64 q0] rfl LMq ?_; (with_reducible refine (r2_at.calls _ _ l0 q0 q4 _ ?side1 ?side2 A12.out).mono ?_); (case side1 => exact kC (Kd.C_below HR0.out HB.out)); (case side2 => exact HC0.out); rintro e w' ⟨rfl, ⟨nd, rfl⟩⟩; refine ⟨_, rfl, ?_⟩) | ((with_reducible refine gate_callee (f := 98) rfl ?_); refine goesL_ (some 21) rfl rfl Try.func98 (by kernel_rfl) rfl #[.slice A1 l1.length c1, .int .i64 q0] rfl LMq ?_; (with_reducible refine (r2_at.calls _ _ l1 q0 q3 _ ?side1 ?side2 A13.out).mono ?_); (case side1 => exact kC (Kd.C_below HR1.out (kH HB))); (case side2 => exact HC1.out); rintro e w' ⟨rfl, ⟨nd, rfl⟩⟩; refine ⟨_, rfl, ?_⟩) | ((with_reducible refine gate_callee (f := 98) rfl ?_); refine goesL_ (some 25) rfl rfl Try.func98 (by kernel_rfl) rfl #[.slice A0 l0.length c0, .int .i64 q0] rfl LMq ?_; (with_reducible refine (r2_at.calls _ _ l0 q0 q2 _ ?side1 ?side2 A15.out).mono ?_); (case side1 => exact kC (Kd.C_below HR0.out (kH HB))); (case side2 => exact HC0.out); rintro e w' ⟨rfl, ⟨nd, rfl⟩⟩; refine ⟨_, rfl, ?_⟩) | ((with_reducible refine gate_callee (f := 98) rfl ?_); refine goesL_ (some 28) rfl rfl Try.func98 (by kernel_rfl) rfl #[.slice A1 l1.length c1, .int .i64 q0] rfl LMq ?_; (with_reducible refine (r2_at.calls _ _ l1 q0 q1 _ ?side1 ?side2 A16.out).mono ?_); (case side1 => exact kC (Kd.C_below HR1.out (kH HB))); (case side2 => exact HC1.out); rintro e w' ⟨rfl, ⟨nd, rfl⟩⟩; refine ⟨_, rfl, ?_⟩))
       go_ret
       exact ⟨by first | rfl | (simp [errW_none, errW_some] <;> rfl) | (simp [*, errW_none, errW_some] <;> rfl), kH HB⟩
     rw [if_neg c17] at H
     have qg : decide (q1 < q2) = false := decide_eq_false c17; clear c17; have H' := aK H; clear H
     go_wp2_with (first | ((with_reducible refine gate_callee (f := 98) rfl ?_); refine goesL_ (some 18) rfl rfl Try.func98 (by kernel_rfl) rfl #[.slice A0 l0.length c0, .int .i64 q0] rfl LMq ?_; (with_reducible refine (r2_at.calls _ _ l0 q0 q4 _ ?side1 ?side2 A12.out).mono ?_); (case side1 => exact kC (Kd.C_below HR0.out HB.out)); (case side2 => exact HC0.out); rintro e w' ⟨rfl, ⟨nd, rfl⟩⟩; refine ⟨_, rfl, ?_⟩) | ((with_reducible refine gate_callee (f := 98) rfl ?_); refine goesL_ (some 21) rfl rfl Try.func98 (by kernel_rfl) rfl #[.slice A1 l1.length c1, .int .i64 q0] rfl LMq ?_; (with_reducible refine (r2_at.calls _ _ l1 q0 q3 _ ?side1 ?side2 A13.out).mono ?_); (case side1 => exact kC (Kd.C_below HR1.out (kH HB))); (case side2 => exact HC1.out); rintro e w' ⟨rfl, ⟨nd, rfl⟩⟩; refine ⟨_, rfl, ?_⟩) | ((with_reducible refine gate_callee (f := 98) rfl ?_); refine goesL_ (some 25) rfl rfl Try.func98 (by kernel_rfl) rfl #[.slice A0 l0.length c0, .int .i64 q0] rfl LMq ?_; (with_reducible refine (r2_at.calls _ _ l0 q0 q2 _ ?side1 ?side2 A15.out).mono ?_); (case side1 => exact kC (Kd.C_below HR0.out (kH HB))); (case side2 => exact HC0.out); rintro e w' ⟨rfl, ⟨nd, rfl⟩⟩; refine ⟨_, rfl, ?_⟩) | ((with_reducible refine gate_callee (f := 98) rfl ?_); refine goesL_ (some 28) rfl rfl Try.func98 (by kernel_rfl) rfl #[.slice A1 l1.length c1, .int .i64 q0] rfl LMq ?_; (with_reducible refine (r2_at.calls _ _ l1 q0 q1 _ ?side1 ?side2 A16.out).mono ?_); (case side1 => exact kC (Kd.C_below HR1.out (kH HB))); (case side2 => exact HC1.out); rintro e w' ⟨rfl, ⟨nd, rfl⟩⟩; refine ⟨_, rfl, ?_⟩))
     go_roundg k1
     case measure => have := HK1.out; omega
     case rel => exact ⟨(wrap64 (q0 - 1)), RSq, (by first | exact H' | (subst_vars; exact H')), ⟨by have := HK1.out; omega⟩, ⟨kH HB⟩⟩
   rw [if_neg c11] at H
   have qe : decide (0 ≤ q0) = false := decide_eq_false c11; clear c11; obtain rfl := Option.some.inj H
   go_wp2
   go_ret
   exact ⟨by first | rfl | (simp [errW_none, errW_some] <;> rfl) | (simp [*, errW_none, errW_some] <;> rfl), kH HB⟩
mutual
def r2_Mul.l0 : Nat → List Int → List Int → List Int → Int → Option (List Int)
 | 0, _, _, _, _ => none
 | k + 1, x0, x1, x5, x6 => if x6 < (x0.length : Int) then (r2_Mul.l1 k x0 x1 x5 x6 0 0) else ((r2_trim.f k x5).bind fun q5 => (some q5))
def r2_Mul.l1 : Nat → List Int → List Int → List Int → Int → Int → Int → Option (List Int)
 | 0, _, _, _, _, _, _ => none
 | k + 1, x0, x1, x5, x6, x7, x8 => if x8 < (x1.length : Int) then (if 0 ≤ (wrap64 (x6 + x8)) then (if (wrap64 (x6 + x8)) < (x5.length : Int) then (if 0 ≤ x6 then (if x6 < (x0.length : Int) then (if 0 ≤ x8 then (r2_Mul.l1 k x0 x1 (x5.set ((wrap64 (x6 + x8)) : Int).toNat ((Int.tmod (IntKind.u64.wrap ((IntKind.u64.wrap (x7 + (IntKind.u64.wrap (rd x5 (wrap64 (x6 + x8)))))) + (IntKind.u64.wrap ((IntKind.u64.wrap (rd x0 x6)) * (IntKind.u64.wrap (rd x1 x8)))))) 65536) % 4294967296)) x6 (IntKind.u64.wrap (Int.tdiv (IntKind.u64.wrap ((IntKind.u64.wrap (x7 + (IntKind.u64.wrap (rd x5 (wrap64 (x6 + x8)))))) + (IntKind.u64.wrap ((IntKind.u64.wrap (rd x0 x6)) * (IntKind.u64.wrap (rd x1 x8)))))) 65536)) (wrap64 (x8 + 1))) else (none)) else (none)) else (none)) else (none)) else (none)) else (if 0 ≤ (wrap64 (x6 + (x1.length : Int))) then (if (wrap64 (x6 + (x1.length : Int))) < (x5.length : Int) then (r2_Mul.l0 k x0 x1 (x5.set ((wrap64 (x6 + (x1.length : Int))) : Int).toNat ((x7) % 4294967296)) (wrap64 (x6 + 1))) else (none)) else (none))
end
def r2_Mul.f (k : Nat) (l0 : List Int) (l1 : List Int) : Option (List Int) := if 0 ≤ (wrap64 ((l0.length : Int) + (l1.length : Int))) then (if (wrap64 ((l0.length : Int) + (l1.length : Int)) : Int).toNat ≤ 70368744177664 then (r2_Mul.l0 k l0 l1 (List.replicate (wrap64 ((l0.length : Int) + (l1.length : Int)) : Int).toNat 0) 0) else (none)) else (none)
theorem r2_Mul.mono_l : ∀ k, (∀ y0 y1 y2 y3, LeO (r2_Mul.l0 k y0 y1 y2 y3) (r2_Mul.l0 (k + 1) y0 y1 y2 y3)) ∧ (∀ y0 y1 y2 y3 y4 y5, LeO (r2_Mul.l1 k y0 y1 y2 y3 y4 y5) (r2_Mul.l1 (k + 1) y0 y1 y2 y3 y4 y5))
 | 0 => ⟨fun _ _ _ _ r h => by simp [r2_Mul.l0] at h, fun _ _ _ _ _ _ r h => by simp [r2_Mul.l1] at h⟩
 | k + 1 => by
  obtain ⟨ih0, ih1⟩ := r2_Mul.mono_l k; refine ⟨?_, ?_⟩
  · intro y0 y1 y2 y3
    unfold r2_Mul.l0
    repeat' (with_reducible first | exact ih0 _ _ _ _ | exact ih1 _ _ _ _ _ _ | exact r2_trim.mono _ _ | exact LeO.refl _ | exact LeO.none _ | refine LeO.ite ?_ ?_ | refine LeO.bind ?_ (fun _ => ?_))
  intro y0 y1 y2 y3 y4 y5
  unfold r2_Mul.l1
  repeat' (with_reducible first | exact ih0 _ _ _ _ | exact ih1 _ _ _ _ _ _ | exact r2_trim.mono _ _ | exact LeO.refl _ | exact LeO.none _ | refine LeO.ite ?_ ?_ | refine LeO.bind ?_ (fun _ => ?_))
theorem r2_Mul.mono : ∀ a0 a1 k, LeO (r2_Mul.f k a0 a1) (r2_Mul.f (k + 1) a0 a1) := by
 intro a0 a1 k; obtain ⟨ih0, ih1⟩ := r2_Mul.mono_l k
 unfold r2_Mul.f
 repeat' (with_reducible first | exact ih0 _ _ _ _ | exact ih1 _ _ _ _ _ _ | exact r2_trim.mono _ _ | exact LeO.refl _ | exact LeO.none _ | refine LeO.ite ?_ ?_ | refine LeO.bind ?_ (fun _ => ?_))
set_option maxHeartbeats 8000000 in
set_option maxRecDepth 100000 in
theorem r2_Mul.calls (k : Nat) (A0 : Option Addr) (c0 : Nat) (l0 : List Int) (A1 : Option Addr) (c1 : Nat) (l1 : List Int) (r : List Int) (w : World) (hr0 : Kd.C (Kd.int .u32) w A0 l0.length l0) (hc0 : l0.length ≤ c0) (hr1 : Kd.C (Kd.int .u32) w A1 l1.length l1) (hc1 : l1.length ≤ c1) (h : r2_Mul.f k l0 l1 = some r) :
 Calls Try.prog 90 #[.slice A0 l0.length c0, .slice A1 l1.length c1] w fun e w' => ∃ v0_ : Value, e = .returned (v0_) ∧ Kd.V (Kd.int .u32) 124 w' w.heap.size (fun k_ => (w.heap.size ≤ k_)) v0_ r ∧ Below w.heap.size w w' := by
 have HR0 := aK hr0; have HC0 := aK hc0; clear hr0 hc0; have HR1 := aK hr1; have HC1 := aK hc1; clear hr1 hc1; have HB := aK (Below.refl w.heap.size w); have H : (if 0 ≤ (wrap64 ((l0.length : Int) + (l1.length : Int))) then (if (wrap64 ((l0.length : Int) + (l1.length : Int)) : Int).toNat ≤ 70368744177664 then (r2_Mul.l0 k l0 l1 (List.replicate (wrap64 ((l0.length : Int) + (l1.length : Int)) : Int).toNat 0) 0) else (none)) else (none)) = some r := h; clear h; obtain ⟨ji3, hji3⟩ : ∃ j_ : Int, (wrap64 ((l0.length : Int) + (l1.length : Int))) = j_ := ⟨_, rfl⟩
 replace H : (if 0 ≤ (ji3) then (if (ji3 : Int).toNat ≤ 70368744177664 then (r2_Mul.l0 k l0 l1 (List.replicate (ji3 : Int).toNat 0) 0) else (none)) else (none)) = some r := by first | (rw [hji3] at H; exact H) | (simp only [hji3] at H ⊢; exact H)
 have hji3w : (IntKind.i64.wrap ((l0.length : Int) + (l1.length : Int))) = ji3 := (i64_w _).trans hji3
 by_cases c4 : 0 ≤ (ji3)
 · rw [if_pos c4] at H
   have qi := eq_true c4; have qj : decide (0 ≤ (ji3)) = true := decide_eq_true c4; clear c4
   by_cases c5 : (ji3 : Int).toNat ≤ 70368744177664
   · rw [if_pos c5] at H
     have qk := eq_true c5; have ql : decide ((ji3 : Int).toNat ≤ 70368744177664) = true := decide_eq_true c5; clear c5; obtain ⟨y497, hy497⟩ : ∃ y_ : List Int, y_ = (List.replicate (ji3 : Int).toNat 0) := ⟨_, rfl⟩
     replace H : (r2_Mul.l0 k l0 l1 y497 0) = some r := by first | (rw [hy497]; with_reducible exact H) | (have H2_ := (Option.bind_some _ _).symm.trans H; rw [hy497]; with_reducible exact H2_) | (have H2_ := (Option.bind_some _ _).symm.trans H; with_reducible exact H2_) | with_reducible exact H | (rw [hy497]; exact H) | exact H
     have Ny497 := aK hy497; clear hy497; have H' := aK H; clear H
     go_enter Try.func90, Try.ntmps90
     go_wp2_with (first | ((with_reducible refine gate_dst (N := 14) rfl ?_); refine Kd.R_make (Kd.int .u32) _ 124 rfl (N := 14) rfl 75 _ _ rfl ji3 rfl rfl Try.underlying75 (.int .u32 0) 4 info124 rfl (by decide) (by omega) 0 (ok := fun _ => True) (okp := fun _ => True) rfl (fun _ hk => hk) trivial (of_decide_eq_true ASq) (Nat.le_trans (Nat.mul_le_mul_right _ (of_decide_eq_true ASq : ji3.toNat ≤ 70368744177664)) (by omega)) (Below.refl _ _) (Nat.le_refl _) ?_; intro v498 w6 ho7 hb hg_ hnew_; clear hg_ hnew_; (first | rw [← Ny497.out] at ho7 | (simp only [Int.reduceToNat] at ho7; rw [← Ny497.out] at ho7)); have q6 := aK (Kd.R_lower (Kd.R_newM (M := fun k_ => (w.heap.size ≤ k_)) ho7 (below_size (kH HB)) (fun k_ h_ => h_)) (below_size (kH HB))); replace HB := aK (below_step (kH HB) hb); clear hb ho7))
     repeat (go_quiet (first | ((with_reducible refine gate_dst (N := 14) rfl ?_); refine Kd.R_make (Kd.int .u32) _ 124 rfl (N := 14) rfl 75 _ _ rfl ji3 rfl rfl Try.underlying75 (.int .u32 0) 4 info124 rfl (by decide) (by omega) 0 (ok := fun _ => True) (okp := fun _ => True) rfl (fun _ hk => hk) trivial (of_decide_eq_true ASq) (Nat.le_trans (Nat.mul_le_mul_right _ (of_decide_eq_true ASq : ji3.toNat ≤ 70368744177664)) (by omega)) (Below.refl _ _) (Nat.le_refl _) ?_; intro v498 w6 ho7 hb hg_ hnew_; clear hg_ hnew_; (first | rw [← Ny497.out] at ho7 | (simp only [Int.reduceToNat] at ho7; rw [← Ny497.out] at ho7)); have q6 := aK (Kd.R_lower (Kd.R_newM (M := fun k_ => (w.heap.size ≤ k_)) ho7 (below_size (kH HB)) (fun k_ h_ => h_)) (below_size (kH HB))); replace HB := aK (below_step (kH HB) hb); clear hb ho7)); try go_wp2_with (first | ((with_reducible refine gate_dst (N := 14) rfl ?_); refine Kd.R_make (Kd.int .u32) _ 124 rfl (N := 14) rfl 75 _ _ rfl ji3 rfl rfl Try.underlying75 (.int .u32 0) 4 info124 rfl (by decide) (by omega) 0 (ok := fun _ => True) (okp := fun _ => True) rfl (fun _ hk => hk) trivial (of_decide_eq_true ASq) (Nat.le_trans (Nat.mul_le_mul_right _ (of_decide_eq_true ASq : ji3.toNat ≤ 70368744177664)) (by omega)) (Below.refl _ _) (Nat.le_refl _) ?_; intro v498 w6 ho7 hb hg_ hnew_; clear hg_ hnew_; (first | rw [← Ny497.out] at ho7 | (simp only [Int.reduceToNat] at ho7; rw [← Ny497.out] at ho7)); have q6 := aK (Kd.R_lower (Kd.R_newM (M := fun k_ => (w.heap.size ≤ k_)) ho7 (below_size (kH HB)) (fun k_ h_ => h_)) (below_size (kH HB))); replace HB := aK (below_step (kH HB) hb); clear hb ho7)))
     go_loopg [6] k (fun kq v6 w' => ∃ (q4 : List Int) (q0 : Int), v6 = .int .i64 q0 ∧ Aside0 (r2_Mul.l0 kq l0 l1 q4 q0 = some r) ∧ Aside0 (kq ≤ k) ∧ Aside0 (Kd.R (Kd.int .u32) 124 w' w.heap.size (fun k_ => (w.heap.size ≤ k_)) v498 q4) ∧ Aside0 (Below w.heap.size w w'))
     case atStart => exact ⟨(y497), (0), RSq, (by first | exact H' | (subst_vars; exact H')), ⟨Nat.le_refl _⟩, ⟨by (with_reducible repeat (first | apply Kd.R_alloc | apply Kd.R_drewN | apply Kd.R_drew)); exact Kd.R_mono q6.out (fun _ hk => hk.1)⟩, ⟨kH HB⟩⟩
     case round =>
      clear H'; (try clear c1); (try clear p2); (try clear c4); (try clear qi); (try clear qj); (try clear c5); (try clear qk); (try clear ql); (try clear p6); obtain ⟨q4, q0, rfl, HA, HK1, HO_5, HB⟩ := hrel
      cases gk with
      | zero => exact absurd HA.out (by simp [r2_Mul.l0])
      | succ k1 =>
       have H := HA.out; clear HA
       simp only [r2_Mul.l0] at H
       by_cases c8 : q0 < (l0.length : Int)
       · rw [if_pos c8] at H
         have qm : decide (q0 < (l0.length : Int)) = true := decide_eq_true c8; clear c8; have H' := aK H; clear H
         go_wp2
         repeat (go_quiet (fail); try go_wp2)
         go_loopg [7, 8] k1 (fun kq v7 v8 w' => ∃ (q1 : List Int) (q3 : Int) (q2 : Int), v7 = .int .u64 q3 ∧ v8 = .int .i64 q2 ∧ Aside0 (r2_Mul.l1 kq l0 l1 q1 q0 q3 q2 = some r) ∧ Aside0 (kq ≤ k1) ∧ Aside0 (Kd.R (Kd.int .u32) 124 w' w.heap.size (fun k_ => (w.heap.size ≤ k_)) v498 q1) ∧ Aside0 (Below w.heap.size w w'))
         case atStart => exact ⟨(q4), (0), (0), RSq, RSq, (by first | exact H' | (subst_vars; exact H')), ⟨Nat.le_refl _⟩, ⟨kR HO_5⟩, ⟨kH HB⟩⟩
         case round =>
          clear H'; (try clear c1); (try clear p2); (try clear c4); (try clear qi); (try clear qj); (try clear c5); (try clear qk); (try clear ql); (try clear p6); (try clear c8); (try clear qm); (try clear p2); (try clear p6); obtain ⟨q1, q3, q2, rfl, rfl, HA, HK2, HO_5, HB⟩ := hrel
          cases gk with
          | zero => exact absurd HA.out (by simp [r2_Mul.l1])
          | succ k2 =>
           have H := HA.out; clear HA
           simp only [r2_Mul.l1] at H
           by_cases c9 : q2 < (l1.length : Int)
           · rw [if_pos c9] at H
             have qq : decide (q2 < (l1.length : Int)) = true := decide_eq_true c9; clear c9; obtain ⟨ji10, hji10⟩ : ∃ j_ : Int, (wrap64 (q0 + q2)) = j_ := ⟨_, rfl⟩
             replace H : (if 0 ≤ (ji10) then (if (ji10) < (q1.length : Int) then (if 0 ≤ q0 then (if q0 < (l0.length : Int) then (if 0 ≤ q2 then (r2_Mul.l1 k2 l0 l1 (q1.set ((ji10) : Int).toNat ((Int.tmod (IntKind.u64.wrap ((IntKind.u64.wrap (q3 + (IntKind.u64.wrap (rd q1 (ji10))))) + (IntKind.u64.wrap ((IntKind.u64.wrap (rd l0 q0)) * (IntKind.u64.wrap (rd l1 q2)))))) 65536) % 4294967296)) q0 (IntKind.u64.wrap (Int.tdiv (IntKind.u64.wrap ((IntKind.u64.wrap (q3 + (IntKind.u64.wrap (rd q1 (ji10))))) + (IntKind.u64.wrap ((IntKind.u64.wrap (rd l0 q0)) * (IntKind.u64.wrap (rd l1 q2)))))) 65536)) (wrap64 (q2 + 1))) else (none)) else (none)) else (none)) else (none)) else (none)) = some r := by first | (rw [hji10] at H; exact H) | (simp only [hji10] at H ⊢; exact H)
             have hji10w : (IntKind.i64.wrap (q0 + q2)) = ji10 := (i64_w _).trans hji10
             by_cases c11 : 0 ≤ (ji10)
             · rw [if_pos c11] at H
               have c11b0 : decide (0 ≤ (ji10)) = true := decide_eq_true c11; clear c11
               by_cases c12 : (ji10) < (q1.length : Int)
               · rw [if_pos c12] at H
                 have c12b0 : decide ((ji10) < (q1.length : Int)) = true := decide_eq_true c12; clear c12
                 by_cases c13 : 0 ≤ q0
                 · rw [if_pos c13] at H
                   have c13b0 : decide (0 ≤ q0) = true := decide_eq_true c13; clear c13
                   by_cases c14 : q0 < (l0.length : Int)
                   · rw [if_pos c14] at H
                     have c14b0 : decide (q0 < (l0.length : Int)) = true := decide_eq_true c14; clear c14
                     by_cases c15 : 0 ≤ q2
                     · rw [if_pos c15] at H
                       have c15b0 : decide (0 ≤ q2) = true := decide_eq_true c15; clear c15; obtain ⟨y506, hy506⟩ : ∃ y_ : List Int, y_ = (q1.set ((ji10) : Int).toNat ((Int.tmod (IntKind.u64.wrap ((IntKind.u64.wrap (q3 + (IntKind.u64.wrap (rd q1 (ji10))))) + (IntKind.u64.wrap ((IntKind.u64.wrap (rd l0 q0)) * (IntKind.u64.wrap (rd l1 q2)))))) 65536) % 4294967296)) := ⟨_, rfl⟩
                       replace H : (r2_Mul.l1 k2 l0 l1 y506 q0 (IntKind.u64.wrap (Int.tdiv (IntKind.u64.wrap ((IntKind.u64.wrap (q3 + (IntKind.u64.wrap (rd q1 (ji10))))) + (IntKind.u64.wrap ((IntKind.u64.wrap (rd l0 q0)) * (IntKind.u64.wrap (rd l1 q2)))))) 65536)) (wrap64 (q2 + 1))) = some r := by first | (rw [hy506]; with_reducible exact H) | (have H2_ := (Option.bind_some _ _).symm.trans H; rw [hy506]; with_reducible exact H2_) | (have H2_ := (Option.bind_some _ _).symm.trans H; with_reducible exact H2_) | with_reducible exact H | (rw [hy506]; exact H) | exact H
                       have Ny506 := aK hy506; clear hy506; have H' := aK H; clear H; obtain ⟨Ao17, q7, eo17⟩ := Kd.R_slice HO_5.out; subst eo17; have p503 : 0 ≤ ((ji10) : Int) := of_decide_eq_true ASq; have q503 : (ji10) < (q1.length : Int) := of_decide_eq_true ASq; obtain ⟨ad503, e503, qr⟩ := Kd.at_int (Kd.R_reads' HO_5.out).2.2 (ji10) p503 q503
                       cases e503
                       replace p503 := eq_true p503; replace q503 := eq_true q503; have p504 : 0 ≤ (q0 : Int) := of_decide_eq_true ASq; have q504 : q0 < (l0.length : Int) := of_decide_eq_true ASq; obtain ⟨ad504, e504, q8⟩ := Kd.at_int HR0.out q0 p504 q504
                       cases e504
                       replace q8 := (HB.out.cell (World.block_lt_of_cell? w _ q8)).trans q8; replace p504 := eq_true p504; replace q504 := eq_true q504; have p505 : 0 ≤ (q2 : Int) := of_decide_eq_true ASq; have q505 : q2 < (l1.length : Int) := of_decide_eq_true ASq; obtain ⟨ad505, e505, q9⟩ := Kd.at_int HR1.out q2 p505 q505
                       cases e505
                       replace q9 := (HB.out.cell (World.block_lt_of_cell? w _ q9)).trans q9; replace p505 := eq_true p505; replace q505 := eq_true q505; have p16 : 0 ≤ ((ji10) : Int) := of_decide_eq_true ASq; have q16 : ((ji10) : Int) < ((q1.length : Int) : Int) := of_decide_eq_true ASq; obtain ⟨go16, co16, eo16, qn, gl16, cl16, HG16⟩ := Kd.R_form HO_5.out (by omega)
                       (first | cases eo16 | (injection eo16 with ea_ en_ ec_; (first | subst ea_ | (injection ea_ with ea_; subst ea_)); subst ec_; clear en_))
                       have GB16 := aK qn; have GG16 := aK HG16; clear qn gl16 HG16
                       (first | simp only [add_plain] at qr | skip)
                       obtain ⟨qa, qb⟩ := Kd.R_celln 0 HO_5.out ((ji10) : Int) p16 q16; replace p16 := eq_true p16; replace q16 := eq_true q16; have HP18 := Kd.R_putg HO_5.out ((ji10) : Int) ((Int.tmod (IntKind.u64.wrap ((IntKind.u64.wrap (q3 + (IntKind.u64.wrap (rd q1 (ji10))))) + (IntKind.u64.wrap ((IntKind.u64.wrap (rd l0 q0)) * (IntKind.u64.wrap (rd l1 q2)))))) 65536) % 4294967296)
                       go_wp2_with (first | ((with_reducible refine gate_store (t := 124) (p := 55) rfl ?_); (try (rw [drewN_self wr]; generalize hq_ : World.drewN wr _ = wr; replace HO_5 := aK (Kd.R_at hq_ HO_5.out); replace HB := aK (below_at hq_ HB.out); clear hq_; (try (obtain ⟨qa, qb⟩ := Kd.R_celln 0 HO_5.out ((ji10) : Int) (of_eq_true p16) (of_eq_true q16))); (try (have HP18 := Kd.R_putg HO_5.out ((ji10) : Int) ((Int.tmod (IntKind.u64.wrap ((IntKind.u64.wrap (q3 + (IntKind.u64.wrap (rd q1 (ji10))))) + (IntKind.u64.wrap ((IntKind.u64.wrap (rd l0 q0)) * (IntKind.u64.wrap (rd l1 q2)))))) 65536) % 4294967296))))); refine store_event (t := 124) (p := 55) (v := ?vo_w19) (w1 := (wr.setCell ⟨go16, ((ji10) : Int).toNat, none⟩ (.int .u32 ((Int.tmod (IntKind.u64.wrap ((IntKind.u64.wrap (q3 + (IntKind.u64.wrap (rd q1 (ji10))))) + (IntKind.u64.wrap ((IntKind.u64.wrap (rd l0 q0)) * (IntKind.u64.wrap (rd l1 q2)))))) 65536) % 4294967296)))) ?hg ?ho ?hn ?hr ?_; (case ho => rfl); (case hg => rfl); (case hn => rfl); (case hr => first | (go_simp; done) | (go_simp; rfl)); intro w19 hw; have hg : wr.grownBy w19 (some go16) := (by rw [hw]; exact HP18.2); have hp_ : Kd.R (Kd.int .u32) 124 w19 w.heap.size (fun k_ => (w.heap.size ≤ k_)) (.slice (some ⟨go16, 0, none⟩) q1.length q7) y506 := (by rw [hw, Ny506.out]; exact HP18.1); clear HP18; replace HO_5 := aK (hp_); replace HB := aK ((by rw [hw]; exact below_set (HB.out) GB16.out : Below w.heap.size w w19)); clear hg hw hp_))
                       repeat (go_quiet (first | ((with_reducible refine gate_store (t := 124) (p := 55) rfl ?_); (try (rw [drewN_self wr]; generalize hq_ : World.drewN wr _ = wr; replace HO_5 := aK (Kd.R_at hq_ HO_5.out); replace HB := aK (below_at hq_ HB.out); clear hq_; (try (obtain ⟨qa, qb⟩ := Kd.R_celln 0 HO_5.out ((ji10) : Int) (of_eq_true p16) (of_eq_true q16))); (try (have HP18 := Kd.R_putg HO_5.out ((ji10) : Int) ((Int.tmod (IntKind.u64.wrap ((IntKind.u64.wrap (q3 + (IntKind.u64.wrap (rd q1 (ji10))))) + (IntKind.u64.wrap ((IntKind.u64.wrap (rd l0 q0)) * (IntKind.u64.wrap (rd l1 q2)))))) 65536) % 4294967296))))); refine store_event (t := 124) (p := 55) (v := ?vo_w19) (w1 := (wr.setCell ⟨go16, ((ji10) : Int).toNat, none⟩ (.int .u32 ((Int.tmod (IntKind.u64.wrap ((IntKind.u64.wrap (q3 + (IntKind.u64.wrap (rd q1 (ji10))))) + (IntKind.u64.wrap ((IntKind.u64.wrap (rd l0 q0)) * (IntKind.u64.wrap (rd l1 q2)))))) 65536) % 4294967296)))) ?hg ?ho ?hn ?hr ?_; (case ho => rfl); (case hg => rfl); (case hn => rfl); (case hr => first | (go_simp; done) | (go_simp; rfl)); intro w19 hw; have hg : wr.grownBy w19 (some go16) := (by rw [hw]; exact HP18.2); have hp_ : Kd.R (Kd.int .u32) 124 w19 w.heap.size (fun k_ => (w.heap.size ≤ k_)) (.slice (some ⟨go16, 0, none⟩) q1.length q7) y506 := (by rw [hw, Ny506.out]; exact HP18.1); clear HP18; replace HO_5 := aK (hp_); replace HB := aK ((by rw [hw]; exact below_set (HB.out) GB16.out : Below w.heap.size w w19)); clear hg hw hp_)); try go_wp2_with (first | ((with_reducible refine gate_store (t := 124) (p := 55) rfl ?_); (try (rw [drewN_self wr]; generalize hq_ : World.drewN wr _ = wr; replace HO_5 := aK (Kd.R_at hq_ HO_5.out); replace HB := aK (below_at hq_ HB.out); clear hq_; (try (obtain ⟨qa, qb⟩ := Kd.R_celln 0 HO_5.out ((ji10) : Int) (of_eq_true p16) (of_eq_true q16))); (try (have HP18 := Kd.R_putg HO_5.out ((ji10) : Int) ((Int.tmod (IntKind.u64.wrap ((IntKind.u64.wrap (q3 + (IntKind.u64.wrap (rd q1 (ji10))))) + (IntKind.u64.wrap ((IntKind.u64.wrap (rd l0 q0)) * (IntKind.u64.wrap (rd l1 q2)))))) 65536) % 4294967296))))); refine store_event (t := 124) (p := 55) (v := ?vo_w19) (w1 := (wr.setCell ⟨go16, ((ji10) : Int).toNat, none⟩ (.int .u32 ((Int.tmod (IntKind.u64.wrap ((IntKind.u64.wrap (q3 + (IntKind.u64.wrap (rd q1 (ji10))))) + (IntKind.u64.wrap ((IntKind.u64.wrap (rd l0 q0)) * (IntKind.u64.wrap (rd l1 q2)))))) 65536) % 4294967296)))) ?hg ?ho ?hn ?hr ?_; (case ho => rfl); (case hg => rfl); (case hn => rfl); (case hr => first | (go_simp; done) | (go_simp; rfl)); intro w19 hw; have hg : wr.grownBy w19 (some go16) := (by rw [hw]; exact HP18.2); have hp_ : Kd.R (Kd.int .u32) 124 w19 w.heap.size (fun k_ => (w.heap.size ≤ k_)) (.slice (some ⟨go16, 0, none⟩) q1.length q7) y506 := (by rw [hw, Ny506.out]; exact HP18.1); clear HP18; replace HO_5 := aK (hp_); replace HB := aK ((by rw [hw]; exact below_set (HB.out) GB16.out : Below w.heap.size w w19)); clear hg hw hp_)))
                       go_roundg k2
                       case measure => have := HK1.out; have := HK2.out; omega
                       case rel => exact ⟨(y506), (IntKind.u64.wrap (Int.tdiv (IntKind.u64.wrap ((IntKind.u64.wrap (q3 + (IntKind.u64.wrap (rd q1 (ji10))))) + (IntKind.u64.wrap ((IntKind.u64.wrap (rd l0 q0)) * (IntKind.u64.wrap (rd l1 q2)))))) 65536)), (wrap64 (q2 + 1)), (by first | rfl | (simp; done) | (simp only [← hji10] <;> (first | rfl | simp)) | (simp [*]; done)), RSq, (by first | exact H' | (subst_vars; exact H')), ⟨by have := HK1.out; have := HK2.out; omega⟩, ⟨kR HO_5⟩, ⟨kH HB⟩⟩
                     rw [if_neg c15] at H
                     exact absurd H (by simp)
                   rw [if_neg c14] at H
                   exact absurd H (by simp)
                 rw [if_neg c13] at H
                 exact absurd H (by simp)
               rw [if_neg c12] at H
               exact absurd H (by simp)
             rw [if_neg c11] at H
             exact absurd H (by simp)
           rw [if_neg c9] at H
           have qq : decide (q2 < (l1.length : Int)) = false := decide_eq_false c9; clear c9; obtain ⟨ji20, hji20⟩ : ∃ j_ : Int, (wrap64 (q0 + (l1.length : Int))) = j_ := ⟨_, rfl⟩
           replace H : (if 0 ≤ (ji20) then (if (ji20) < (q1.length : Int) then (r2_Mul.l0 k2 l0 l1 (q1.set ((ji20) : Int).toNat ((q3) % 4294967296)) (wrap64 (q0 + 1))) else (none)) else (none)) = some r := by first | (rw [hji20] at H; exact H) | (simp only [hji20] at H ⊢; exact H)
           have hji20w : (IntKind.i64.wrap (q0 + (l1.length : Int))) = ji20 := (i64_w _).trans hji20
           by_cases c21 : 0 ≤ (ji20)
           · rw [if_pos c21] at H
             have c21b0 : decide (0 ≤ (ji20)) = true := decide_eq_true c21; clear c21
             by_cases c22 : (ji20) < (q1.length : Int)
             · rw [if_pos c22] at H
               have c22b0 : decide ((ji20) < (q1.length : Int)) = true := decide_eq_true c22; clear c22; obtain ⟨y507, hy507⟩ : ∃ y_ : List Int, y_ = (q1.set ((ji20) : Int).toNat ((q3) % 4294967296)) := ⟨_, rfl⟩
               replace H : (r2_Mul.l0 k2 l0 l1 y507 (wrap64 (q0 + 1))) = some r := by first | (rw [hy507]; with_reducible exact H) | (have H2_ := (Option.bind_some _ _).symm.trans H; rw [hy507]; with_reducible exact H2_) | (have H2_ := (Option.bind_some _ _).symm.trans H; with_reducible exact H2_) | with_reducible exact H | (rw [hy507]; exact H) | exact H
               have Ny507 := aK hy507; clear hy507; have H' := aK H; clear H; have p23 : 0 ≤ ((ji20) : Int) := of_decide_eq_true ASq; have q23 : ((ji20) : Int) < ((q1.length : Int) : Int) := of_decide_eq_true ASq; obtain ⟨go23, qc, eo23, qo, gl23, cl23, HG23⟩ := Kd.R_form HO_5.out (by omega)
               (first | cases eo23 | (injection eo23 with ea_ en_ ec_; (first | subst ea_ | (injection ea_ with ea_; subst ea_)); subst ec_; clear en_))
               have GB23 := aK qo; have GG23 := aK HG23; clear qo gl23 HG23; obtain ⟨qd, qe⟩ := Kd.R_celln 0 HO_5.out ((ji20) : Int) p23 q23; replace p23 := eq_true p23; replace q23 := eq_true q23; have HP24 := Kd.R_putg HO_5.out ((ji20) : Int) ((q3) % 4294967296)
               go_wp2_with (first | ((with_reducible refine gate_store (t := 124) (p := 65) rfl ?_); (try (rw [drewN_self wr]; generalize hq_ : World.drewN wr _ = wr; replace HO_5 := aK (Kd.R_at hq_ HO_5.out); replace HB := aK (below_at hq_ HB.out); clear hq_; (try (obtain ⟨qd, qe⟩ := Kd.R_celln 0 HO_5.out ((ji20) : Int) (of_eq_true p23) (of_eq_true q23))); (try (have HP24 := Kd.R_putg HO_5.out ((ji20) : Int) ((q3) % 4294967296))))); refine store_event (t := 124) (p := 65) (v := ?vo_w25) (w1 := (wr.setCell ⟨go23, ((ji20) : Int).toNat, none⟩ (.int .u32 ((q3) % 4294967296)))) ?hg ?ho ?hn ?hr ?_; (case ho => rfl); (case hg => rfl); (case hn => rfl); (case hr => first | (go_simp; done) | (go_simp; rfl)); intro w25 hw; have hg : wr.grownBy w25 (some go23) := (by rw [hw]; exact HP24.2); have hp_ : Kd.R (Kd.int .u32) 124 w25 w.heap.size (fun k_ => (w.heap.size ≤ k_)) (.slice (some ⟨go23, 0, none⟩) q1.length qc) y507 := (by rw [hw, Ny507.out]; exact HP24.1); clear HP24; replace HO_5 := aK (hp_); replace HB := aK ((by rw [hw]; exact below_set (HB.out) GB23.out : Below w.heap.size w w25)); clear hg hw hp_))
               repeat (go_quiet (first | ((with_reducible refine gate_store (t := 124) (p := 65) rfl ?_); (try (rw [drewN_self wr]; generalize hq_ : World.drewN wr _ = wr; replace HO_5 := aK (Kd.R_at hq_ HO_5.out); replace HB := aK (below_at hq_ HB.out); clear hq_; (try (obtain ⟨qd, qe⟩ := Kd.R_celln 0 HO_5.out ((ji20) : Int) (of_eq_true p23) (of_eq_true q23))); (try (have HP24 := Kd.R_putg HO_5.out ((ji20) : Int) ((q3) % 4294967296))))); refine store_event (t := 124) (p := 65) (v := ?vo_w25) (w1 := (wr.setCell ⟨go23, ((ji20) : Int).toNat, none⟩ (.int .u32 ((q3) % 4294967296)))) ?hg ?ho ?hn ?hr ?_; (case ho => rfl); (case hg => rfl); (case hn => rfl); (case hr => first | (go_simp; done) | (go_simp; rfl)); intro w25 hw; have hg : wr.grownBy w25 (some go23) := (by rw [hw]; exact HP24.2); have hp_ : Kd.R (Kd.int .u32) 124 w25 w.heap.size (fun k_ => (w.heap.size ≤ k_)) (.slice (some ⟨go23, 0, none⟩) q1.length qc) y507 := (by rw [hw, Ny507.out]; exact HP24.1); clear HP24; replace HO_5 := aK (hp_); replace HB := aK ((by rw [hw]; exact below_set (HB.out) GB23.out : Below w.heap.size w w25)); clear hg hw hp_)); try go_wp2_with (first | ((with_reducible refine gate_store (t := 124) (p := 65) rfl ?_); (try (rw [drewN_self wr]; generalize hq_ : World.drewN wr _ = wr; replace HO_5 := aK (Kd.R_at hq_ HO_5.out); replace HB := aK (below_at hq_ HB.out); clear hq_; (try (obtain ⟨qd, qe⟩ := Kd.R_celln 0 HO_5.out ((ji20) : Int) (of_eq_true p23) (of_eq_true q23))); (try (have HP24 := Kd.R_putg HO_5.out ((ji20) : Int) ((q3) % 4294967296))))); refine store_event (t := 124) (p := 65) (v := ?vo_w25) (w1 := (wr.setCell ⟨go23, ((ji20) : Int).toNat, none⟩ (.int .u32 ((q3) % 4294967296)))) ?hg ?ho ?hn ?hr ?_; (case ho => rfl); (case hg => rfl); (case hn => rfl); (case hr => first | (go_simp; done) | (go_simp; rfl)); intro w25 hw; have hg : wr.grownBy w25 (some go23) := (by rw [hw]; exact HP24.2); have hp_ : Kd.R (Kd.int .u32) 124 w25 w.heap.size (fun k_ => (w.heap.size ≤ k_)) (.slice (some ⟨go23, 0, none⟩) q1.length qc) y507 := (by rw [hw, Ny507.out]; exact HP24.1); clear HP24; replace HO_5 := aK (hp_); replace HB := aK ((by rw [hw]; exact below_set (HB.out) GB23.out : Below w.heap.size w w25)); clear hg hw hp_)))
               go_roundg k2
               case measure => have := HK1.out; have := HK2.out; omega
               case rel => exact ⟨(y507), (wrap64 (q0 + 1)), RSq, (by first | exact H' | (subst_vars; exact H')), ⟨by have := HK1.out; have := HK2.out; omega⟩, ⟨kR HO_5⟩, ⟨kH HB⟩⟩
             rw [if_neg c22] at H
             exact absurd H (by simp)
           rw [if_neg c21] at H
           exact absurd H (by simp)
       rw [if_neg c8] at H
       have qm : decide (q0 < (l0.length : Int)) = false := decide_eq_false c8; clear c8; replace H := Option.bind_eq_some_iff.mp H; obtain ⟨q5, qp, H⟩ := H; replace H : (some q5) = some r := H; have A26 := aK qp; clear qp; obtain rfl := Option.some.inj H; obtain ⟨qf, qg, eo27⟩ := Kd.R_slice HO_5.out; subst eo27
       go_wp2_with (first | (go_at_call 97; (with_reducible refine (r2_trim.calls k1 (fun k_ => some k_ = (.slice qf q4.length qg : Value).ownBlock) _ _ q4 q5 _ ?side1 A26.out).mono ?_); (case side1 => exact Kd.R_V (Kd.R_tight rfl (HO_5.out))); rintro e w28 ⟨v501, rfl, ho0, hb⟩; have qh := aK (Kd.V_lower (Kd.V_mono (ok' := fun k_ => (w.heap.size ≤ k_)) ho0 (fun k_ hk_ => Or.elim hk_ (fun hs_ => ((HO_5.out).1 k_ hs_.symm)) (fun hn_ => (Nat.le_trans (below_size (kH HB)) hn_)))) (below_size (kH HB))); replace HO_5 := aK (Kd.R_below (kR HO_5) hb); replace HB := aK (below_step (kH HB) hb); (try clear hb); (try clear hb2); (try clear hk); (try clear hi); (try clear ho0)))
       repeat (go_quiet (first | (go_at_call 97; (with_reducible refine (r2_trim.calls k1 (fun k_ => some k_ = (.slice qf q4.length qg : Value).ownBlock) _ _ q4 q5 _ ?side1 A26.out).mono ?_); (case side1 => exact Kd.R_V (Kd.R_tight rfl (HO_5.out))); rintro e w28 ⟨v501, rfl, ho0, hb⟩; have qh := aK (Kd.V_lower (Kd.V_mono (ok' := fun k_ => (w.heap.size ≤ k_)) ho0 (fun k_ hk_ => Or.elim hk_ (fun hs_ => ((HO_5.out).1 k_ hs_.symm)) (fun hn_ => (Nat.le_trans (below_size (kH HB)) hn_)))) (below_size (kH HB))); replace HO_5 := aK (Kd.R_below (kR HO_5) hb); replace HB := aK (below_step (kH HB) hb); (try clear hb); (try clear hb2); (try clear hk); (try clear hi); (try clear ho0))); try go_wp2_with (first | (go_at_call 97; (with_reducible refine (r2_trim.calls k1 (fun k_ => some k_ = (.slice qf q4.length qg : Value).ownBlock) _ _ q4 q5 _ ?side1 A26.out).mono ?_); (case side1 => exact Kd.R_V (Kd.R_tight rfl (HO_5.out))); rintro e w28 ⟨v501, rfl, ho0, hb⟩; have qh := aK (Kd.V_lower (Kd.V_mono (ok' := fun k_ => (w.heap.size ≤ k_)) ho0 (fun k_ hk_ => Or.elim hk_ (fun hs_ => ((HO_5.out).1 k_ hs_.symm)) (fun hn_ => (Nat.le_trans (below_size (kH HB)) hn_)))) (below_size (kH HB))); replace HO_5 := aK (Kd.R_below (kR HO_5) hb); replace HB := aK (below_step (kH HB) hb); (try clear hb); (try clear hb2); (try clear hk); (try clear hi); (try clear ho0))))
       go_ret
       exact ⟨_, by first | rfl | (simp [errW_none, errW_some] <;> rfl) | (simp only [← hji3]; first | rfl | (simp [errW_none, errW_some] <;> rfl)) | (simp [*, errW_none, errW_some] <;> rfl), by (with_reducible repeat (first | apply Kd.V_alloc | apply Kd.V_drewN | apply Kd.V_drew)); exact qh.out, kH HB⟩
   rw [if_neg c5] at H
   exact absurd H (by simp)
 rw [if_neg c4] at H
 exact absurd H (by simp)
def r2_Of.f (k : Nat) (a0 : Int) : Option (List Int) := (r2_trim.f k (([(Int.tmod a0 65536) % 4294967296, (Int.tmod (IntKind.u64.wrap (Int.tdiv a0 65536)) 65536) % 4294967296, (Int.tmod (IntKind.u64.wrap (Int.tdiv a0 4294967296)) 65536) % 4294967296, (IntKind.u64.wrap (Int.tdiv a0 281474976710656)) % 4294967296] : List Int))).bind fun q0 => (some q0)
theorem r2_Of.mono : ∀ a0 k, LeO (r2_Of.f k a0) (r2_Of.f (k + 1) a0) := by
 intro a0 k
 unfold r2_Of.f
 repeat' (with_reducible first | exact r2_trim.mono _ _ | exact LeO.refl _ | exact LeO.none _ | refine LeO.ite ?_ ?_ | refine LeO.bind ?_ (fun _ => ?_))
set_option maxHeartbeats 8000000 in
set_option maxRecDepth 100000 in
theorem r2_Of.calls (k : Nat) (a0 : Int) (r : List Int) (w : World) (h : r2_Of.f k a0 = some r) :
 Calls Try.prog 71 #[.int .u64 a0] w fun e w' => ∃ v0_ : Value, e = .returned (v0_) ∧ Kd.V (Kd.int .u32) 124 w' w.heap.size (fun k_ => (w.heap.size ≤ k_)) v0_ r ∧ Below w.heap.size w w' := by
 have HB := aK (Below.refl w.heap.size w); have H : ((r2_trim.f k (([(Int.tmod a0 65536) % 4294967296, (Int.tmod (IntKind.u64.wrap (Int.tdiv a0 65536)) 65536) % 4294967296, (Int.tmod (IntKind.u64.wrap (Int.tdiv a0 4294967296)) 65536) % 4294967296, (IntKind.u64.wrap (Int.tdiv a0 281474976710656)) % 4294967296] : List Int))).bind fun q0 => (some q0)) = some r := h; clear h; obtain ⟨y382, hy382⟩ : ∃ y_ : List Int, y_ = (([(Int.tmod a0 65536) % 4294967296, (Int.tmod (IntKind.u64.wrap (Int.tdiv a0 65536)) 65536) % 4294967296, (Int.tmod (IntKind.u64.wrap (Int.tdiv a0 4294967296)) 65536) % 4294967296, (IntKind.u64.wrap (Int.tdiv a0 281474976710656)) % 4294967296] : List Int)) := ⟨_, rfl⟩
 replace H : ((r2_trim.f k y382).bind fun q0 => (some q0)) = some r := by first | (rw [hy382]; with_reducible exact H) | (have H2_ := (Option.bind_some _ _).symm.trans H; rw [hy382]; with_reducible exact H2_) | (have H2_ := (Option.bind_some _ _).symm.trans H; with_reducible exact H2_) | with_reducible exact H | (rw [hy382]; exact H) | exact H
 have Ny382 := aK hy382; clear hy382; replace H := Option.bind_eq_some_iff.mp H; obtain ⟨q0, A20, H⟩ := H; replace H : (some q0) = some r := H; have A2 := aK A20; clear A20; obtain rfl := Option.some.inj H
 go_enter Try.func71, Try.ntmps71
 go_wp2_with (first | ((with_reducible refine gate_dst (N := 17) rfl ?_); refine Kd.R_lit (Kd.int .u32) _ 124 ?hg (N := 17) ?hd (xs := ([(Int.tmod a0 65536) % 4294967296, (Int.tmod (IntKind.u64.wrap (Int.tdiv a0 65536)) 65536) % 4294967296, (Int.tmod (IntKind.u64.wrap (Int.tdiv a0 4294967296)) 65536) % 4294967296, (IntKind.u64.wrap (Int.tdiv a0 281474976710656)) % 4294967296] : List Int)) (inner := [.int .u32 ((Int.tmod a0 65536) % 4294967296), .int .u32 ((Int.tmod (IntKind.u64.wrap (Int.tdiv a0 65536)) 65536) % 4294967296), .int .u32 ((Int.tmod (IntKind.u64.wrap (Int.tdiv a0 4294967296)) 65536) % 4294967296), .int .u32 ((IntKind.u64.wrap (Int.tdiv a0 281474976710656)) % 4294967296)]) (ok := fun _ => True) (okp := fun _ => True) ?hr ?hp (fun _ hk => hk) trivial (Below.refl _ _) (Nat.le_refl _) (by simp) ?_; (case hd => rfl); (case hg => rfl); (case hr => first | (go_simp; done) | (go_simp; rfl)); (case hp => exact (Reps.one (show Kd.M (Kd.int .u32) _ _ _ ((Int.tmod a0 65536) % 4294967296) [.int .u32 ((Int.tmod a0 65536) % 4294967296)] from rfl) (Reps.one (show Kd.M (Kd.int .u32) _ _ _ ((Int.tmod (IntKind.u64.wrap (Int.tdiv a0 65536)) 65536) % 4294967296) [.int .u32 ((Int.tmod (IntKind.u64.wrap (Int.tdiv a0 65536)) 65536) % 4294967296)] from rfl) (Reps.one (show Kd.M (Kd.int .u32) _ _ _ ((Int.tmod (IntKind.u64.wrap (Int.tdiv a0 4294967296)) 65536) % 4294967296) [.int .u32 ((Int.tmod (IntKind.u64.wrap (Int.tdiv a0 4294967296)) 65536) % 4294967296)] from rfl) (Reps.one (show Kd.M (Kd.int .u32) _ _ _ ((IntKind.u64.wrap (Int.tdiv a0 281474976710656)) % 4294967296) [.int .u32 ((IntKind.u64.wrap (Int.tdiv a0 281474976710656)) % 4294967296)] from rfl) (Reps.none _ _)))))); intro v383 w3 ho4 hb hg_ hnew_; clear hg_ hnew_; (first | rw [← Ny382.out] at ho4 | (simp only [Int.reduceToNat] at ho4; rw [← Ny382.out] at ho4)); have q1 := aK (Kd.R_lower (Kd.R_newM (M := fun k_ => (w.heap.size ≤ k_)) ho4 (below_size (kH HB)) (fun k_ h_ => h_)) (below_size (kH HB))); replace HB := aK (below_step (kH HB) hb); clear hb ho4; obtain ⟨Ao5, co5, eo5⟩ := Kd.R_slice q1.out; subst eo5) | ((with_reducible refine gate_callee (f := 97) rfl ?_); refine goesL_ (some 18) rfl rfl Try.func97 (by kernel_rfl) rfl #[.slice Ao5 y382.length co5] rfl LMq ?_; (with_reducible refine (r2_trim.calls k (fun k_ => some k_ = (.slice Ao5 y382.length co5 : Value).ownBlock) _ _ y382 q0 _ ?side1 A2.out).mono ?_); (case side1 => exact Kd.R_V (Kd.R_tight rfl (q1.out))); rintro e w6 ⟨v386, rfl, ho0, hb⟩; refine ⟨_, rfl, ?_⟩; have q2 := aK (Kd.V_lower (Kd.V_mono (ok' := fun k_ => (w.heap.size ≤ k_)) ho0 (fun k_ hk_ => Or.elim hk_ (fun hs_ => ((q1.out).1 k_ hs_.symm).1) (fun hn_ => (Nat.le_trans (below_size (kH HB)) hn_)))) (below_size (kH HB))); replace q1 := aK (Kd.R_below (kR q1) hb); replace HB := aK (below_step (kH HB) hb); (try clear hb); (try clear hb2); (try clear hk); (try clear hi); (try clear ho0)))
 go_ret
 exact ⟨_, by first | rfl | (simp [errW_none, errW_some] <;> rfl) | (simp [*, errW_none, errW_some] <;> rfl), by (with_reducible repeat (first | apply Kd.V_alloc | apply Kd.V_drewN | apply Kd.V_drew)); exact q2.out, kH HB⟩
def r4_Pattern.f (k : Nat) (a0 : Int) : Option (Bool × Int × List Int) := (r3_Take.f a0).bind fun qb => ((r2_Of.f k qb.2.2.2).bind fun q7 => (some (qb.1, qb.2.2.1, q7)))
theorem r4_Pattern.mono : ∀ a0 k, LeO (r4_Pattern.f k a0) (r4_Pattern.f (k + 1) a0) := by
 intro a0 k
 unfold r4_Pattern.f
 repeat' (with_reducible first | exact r2_Of.mono _ _ | exact LeO.refl _ | exact LeO.none _ | refine LeO.ite ?_ ?_ | refine LeO.bind ?_ (fun _ => ?_))
def r4_Pattern.T2 : Bool × List (List Nat × List Nat) := (true, [([], []), ([0], [0]), ([], []), ([2], [2]), ([], []), ([4], [4]), ([5], [5]), ([1, 3, 6], [1, 3, 6]), ([7, 6, 0, 1, 2, 3, 4, 5, 6, 7], [7])])
def r4_Pattern.B2 : List Nat := [0, 1, 0, 4, 0, 16, 48, 127, 255]
theorem r4_Pattern.tab2 : rtab .any (opsOf Try.f58 2) = r4_Pattern.T2 := by kernel_rfl
theorem r4_Pattern.bits2 : waitsOk r4_Pattern.T2.2 r4_Pattern.B2 = true := by kernel_rfl
set_option maxHeartbeats 8000000 in
set_option maxRecDepth 100000 in
theorem r4_Pattern.calls (k : Nat) (a0 : Int) (r1 : Bool) (r2 : Int) (r3 : List Int) (w : World) (h : r4_Pattern.f k a0 = some (r1, r2, r3)) :
 Calls Try.prog 58 #[.int .u64 a0] w fun e w' => ∃ v2_ : Value, e = .returned (.agg #[.bool r1, .int .i64 r2, v2_]) ∧ Kd.V (Kd.int .u32) 124 w' w.heap.size (fun k_ => (w.heap.size ≤ k_)) v2_ r3 ∧ Below w.heap.size w w' := by
 have hu77 := Try.underlying77; have hu93 := Try.underlying93; have HB := aK (Below.refl w.heap.size w); have H : ((r3_Take.f a0).bind fun qb => ((r2_Of.f k qb.2.2.2).bind fun q7 => (some (qb.1, qb.2.2.1, q7)))) = some (r1, r2, r3) := h; clear h; replace H := Option.bind_eq_some_iff.mp H; obtain ⟨⟨q4, q9, q6, q8⟩, A20, H⟩ := H; replace H : ((r2_Of.f k q8).bind fun q7 => (some (q4, q6, q7))) = some (r1, r2, r3) := H; have A2 := aK A20; clear A20; replace H := Option.bind_eq_some_iff.mp H; obtain ⟨q7, A30, H⟩ := H; replace H : (some (q4, q6, q7)) = some (r1, r2, r3) := H; have A3 := aK A30; clear A30
 simp only [Option.some.injEq, Prod.mk.injEq] at H
 obtain ⟨rfl, rfl, rfl⟩ := H
 go_enter Try.func58, Try.ntmps58
 try go_wp2_with (first | ((with_reducible refine gate_dst (N := 2) rfl ?_); refine box_event ?hg (N := 2) ?hd (cs := #[.bool false, .int .i64 0, .slice none 0 0]) (t := 77) ?hr ?_; (case hd => rfl); (case hg => rfl); (case hr => first | (go_simp; done) | (go_simp; rfl)); intro q0 hg w4 hbox hb; have q2 := aK (hbox); have GW488 := aK ((by rw [hg]; exact (below_size (kH HB)) : w.heap.size ≤ q0)); have qc := aK ((by rw [hg]; exact (below_size (kH HB)) : w.heap.size ≤ q0)); replace HB := aK (below_step (kH HB) hb); clear hb hbox hg) | ((with_reducible refine gate_callee (f := 67) rfl ?_); refine goesL_ (some 5) rfl rfl Try.func67 (by kernel_rfl) rfl #[.int .u64 a0] rfl LMq ?_; (with_reducible refine (r3_Take.calls a0 q4 q9 q6 q8 _ A2.out).mono ?_); rintro e w5 ⟨rfl, hb⟩; refine ⟨_, rfl, ?_⟩; replace q2 := aK (blk_below (g := q0) (o := .cells #[.bool false, .int .i64 0, .slice none 0 0] 77 (0, 0)) (kB q2) hb); replace HB := aK (below_step (kHs HB qc) hb); (try clear hb); (try clear hb2); (try clear hk); (try clear hi)) | ((with_reducible refine gate_dst (N := 3) rfl ?_); refine box_event ?hg (N := 3) ?hd (cs := #[.bool false, .int .i64 0, .int .i64 0, .int .u64 0]) (t := 93) ?hr ?_; (case hd => rfl); (case hg => rfl); (case hr => first | (go_simp; done) | (go_simp; rfl)); intro q1 hg w6 hbox hb; have q3 := aK (hbox); have GW493 := aK ((by rw [hg]; exact (below_size (kHs HB qc)) : w.heap.size ≤ q1)); have qd := aK ((by rw [hg]; exact (below_size (kHs HB qc)) : w.heap.size ≤ q1)); replace HB := aK (below_step (kHs HB qc) hb); have qa := aK ((by rw [hg]; exact Nat.ne_of_lt (blk_lt (g := q0) (o := .cells #[.bool false, .int .i64 0, .slice none 0 0] 77 (0, 0)) (kB q2)) : q0 ≠ q1)); have q5 := aK ((by rw [hg]; exact Nat.ne_of_gt (blk_lt (g := q0) (o := .cells #[.bool false, .int .i64 0, .slice none 0 0] 77 (0, 0)) (kB q2)) : q1 ≠ q0)); replace q2 := aK (blk_below (g := q0) (o := .cells #[.bool false, .int .i64 0, .slice none 0 0] 77 (0, 0)) (kB q2) hb); clear hb hbox hg; have hnb7 := q5.out; have hnc7 := qa.out; obtain ⟨_, _, _, _, _, _, _, _⟩ := W4q q3))
 have n0_ : Aside0 (((((w6.setCell ⟨q1, 0, none⟩ (.bool q4)).setCell ⟨q1, 1, none⟩ (.int .i64 q9)).setCell ⟨q1, 2, none⟩ (.int .i64 q6)).setCell ⟨q1, 3, none⟩ (.int .u64 q8)).heap[q0]? = some (.cells #[.bool false, .int .i64 0, .slice none 0 0] 77 (0, 0))) := ⟨by (with_reducible repeat (first | refine blk_drewN ?_ _ | refine blk_drew ?_ | refine blk_alloc ?_ _)); refine blk_far ?_ qa.out _; refine blk_far ?_ qa.out _; refine blk_far ?_ qa.out _; refine blk_far ?_ qa.out _; (with_reducible repeat (first | refine blk_drewN ?_ _ | refine blk_drew ?_ | refine blk_alloc ?_ _)); exact q2.out⟩; have n1_ : Aside0 (((((w6.setCell ⟨q1, 0, none⟩ (.bool q4)).setCell ⟨q1, 1, none⟩ (.int .i64 q9)).setCell ⟨q1, 2, none⟩ (.int .i64 q6)).setCell ⟨q1, 3, none⟩ (.int .u64 q8)).heap[q1]? = some (.cells #[.bool q4, .int .i64 q9, .int .i64 q6, .int .u64 q8] 93 (0, 0))) := ⟨by (with_reducible repeat (first | refine blk_drewN ?_ _ | refine blk_drew ?_ | refine blk_alloc ?_ _)); refine blk_put (cs := #[.bool q4, .int .i64 q9, .int .i64 q6, .int .u64 0]) ?_ 3 _ rfl; refine blk_put (cs := #[.bool q4, .int .i64 q9, .int .i64 0, .int .u64 0]) ?_ 2 _ rfl; refine blk_put (cs := #[.bool q4, .int .i64 0, .int .i64 0, .int .u64 0]) ?_ 1 _ rfl; refine blk_put (cs := #[.bool false, .int .i64 0, .int .i64 0, .int .u64 0]) ?_ 0 _ rfl; (with_reducible repeat (first | refine blk_drewN ?_ _ | refine blk_drew ?_ | refine blk_alloc ?_ _)); exact q3.out⟩; have n2_ : Aside0 (Below w.heap.size w ((((w6.setCell ⟨q1, 0, none⟩ (.bool q4)).setCell ⟨q1, 1, none⟩ (.int .i64 q9)).setCell ⟨q1, 2, none⟩ (.int .i64 q6)).setCell ⟨q1, 3, none⟩ (.int .u64 q8))) := ⟨kHt HB qc qd⟩
 (try clear q2)
 (try clear q3)
 (try clear HB)
 generalize ((((w6.setCell ⟨q1, 0, none⟩ (.bool q4)).setCell ⟨q1, 1, none⟩ (.int .i64 q9)).setCell ⟨q1, 2, none⟩ (.int .i64 q6)).setCell ⟨q1, 3, none⟩ (.int .u64 q8)) = w9 at n0_ n1_ n2_ ⊢
 have q2 := n0_; have q3 := n1_; have HB := n2_; clear n0_ n1_ n2_; replace q2 := aK (blk_drew q2.out); replace q3 := aK (blk_drew q3.out); replace HB := aK (below_drew1 HB.out); refine start_ (n := 9) (S := fun w' => w'.cell? ⟨q1, 0, none⟩ = some (.bool q4) ∧ w'.cell? ⟨q1, 1, none⟩ = some (.int .i64 q9) ∧ w'.cell? ⟨q1, 2, none⟩ = some (.int .i64 q6) ∧ w'.cell? ⟨q1, 3, none⟩ = some (.int .u64 q8)) (ds := []) #[false, false, false, false, false, false, false, false, false] (by kernel_rfl) rfl rfl ⟨bc q3 0, bc q3 1, bc q3 2, bc q3 3⟩ (fun hHeld => ?_); refine with_tabW r4_Pattern.tab2 r4_Pattern.bits2 (fun HT_ HW_ => ?_)
 generalize w9.drew = w10 at q2 q3 HB hHeld ⊢
 refine pure_ (i := 0) (N := some 6) (v := ?_) (a' := ?_) #[true, false, false, false, false, false, false, false, false] rfl rfl (any_of HT_.out (by kernel_rfl)) (fun _ _ _ h => h) (Or.inl ⟨by rfl, ?_⟩) ?_ ?_; rotate_left
 · intro w'
   go_simp
   with_reducible rfl
 rotate_left
 · exact APq
 refine pure_ (i := 2) (N := some 8) (v := ?_) (a' := ?_) #[true, false, true, false, false, false, false, false, false] rfl rfl (any_of HT_.out (by kernel_rfl)) (fun _ _ _ h => h) (Or.inl ⟨by rfl, ?_⟩) ?_ ?_; rotate_left
 · intro w'
   go_simp
   with_reducible rfl
 rotate_left
 · exact APq
 refine pure_ (i := 4) (N := some 10) (v := ?_) (a' := ?_) #[true, false, true, false, true, false, false, false, false] rfl rfl (any_of HT_.out (by kernel_rfl)) (fun _ _ _ h => h) (Or.inl ⟨by rfl, ?_⟩) ?_ ?_; rotate_left
 · intro w'
   go_simp
   with_reducible rfl
 rotate_left
 · exact APq
 refine take_ (i := 1) (N := some 7) (v := ?_) (a' := ?_) #[true, true, true, false, true, false, false, false, false] rfl rfl (take_ofW HT_.out HW_.out (by kernel_rfl)) (fun _ _ _ h => h) (Or.inl ⟨by rfl, ?_⟩) hHeld ?_ ?_; rotate_left
 · rintro w' ⟨s0, s1, s2, s3⟩
   go_simp
   with_reducible rfl
 rotate_left
 · exact APq
 refine take_ (i := 3) (N := some 9) (v := ?_) (a' := ?_) #[true, true, true, true, true, false, false, false, false] rfl rfl (take_ofW HT_.out HW_.out (by kernel_rfl)) (fun _ _ _ h => h) (Or.inl ⟨by rfl, ?_⟩) hHeld ?_ ?_; rotate_left
 · rintro w' ⟨s0, s1, s2, s3⟩
   go_simp
   with_reducible rfl
 rotate_left
 · exact APq
 refine take_ (i := 5) (N := some 11) (v := ?_) (a' := ?_) #[true, true, true, true, true, true, false, false, false] rfl rfl (take_ofW HT_.out HW_.out (by kernel_rfl)) (fun _ _ _ h => h) (Or.inl ⟨by rfl, ?_⟩) hHeld ?_ ?_; rotate_left
 · rintro w' ⟨s0, s1, s2, s3⟩
   go_simp
   with_reducible rfl
 rotate_left
 · exact APq
 refine one_ (i := 6) (N := some 12) #[true, true, true, true, true, true, true, false, false] rfl rfl (one_of HT_.out (by kernel_rfl)) (by decide) (fun K hK => ?_); refine goes_ Try.func71 (by kernel_rfl) rfl #[.int .u64 q8] (by rfl) rfl rfl LMq ?_
 with_reducible refine (r2_Of.calls k q8 q7 _ A3.out).mono ?_
 rintro e w11 ⟨v495, rfl, ho0, hb⟩; refine ⟨_, rfl, ?_⟩; have qe := aK (Kd.V_lower (Kd.V_mono (ok' := fun k_ => (w.heap.size ≤ k_) ∧ k_ ≠ q0 ∧ k_ ≠ q1) ho0 (fun k_ hk_ => ⟨(Nat.le_trans (below_size HB.out) hk_), (Kd.freshB q2.out k_ hk_), (Kd.freshB q3.out k_ hk_)⟩)) (below_size HB.out)); replace q2 := aK (blk_below q2.out hb); replace q3 := aK (blk_below q3.out hb); replace HB := aK (below_step HB.out hb)
 (try clear hb)
 (try clear hb2)
 (try clear hk)
 (try clear hi)
 (try clear ho0)
 obtain ⟨qf, qg, eo12⟩ := Kd.V_slice qe.out
 (first | subst eo12 | (injection eo12 with f1_ f2_ f3_; have f4_ := f1_.symm; have f5_ := f3_.symm; clear f1_ f2_ f3_; subst f4_; subst f5_))
 refine hK.out _ _ ⟨bc q3 0, bc q3 1, bc q3 2, bc q3 3⟩ (fun hHeld => ?_); clear hK K; refine norm_ (a' := ?_) ?_ ?_; rotate_left
 · show Act.put _ (some 12) _ = _
   exact APq
 refine pure_ (i := 7) (N := some 13) (v := ?_) (a' := ?_) #[true, true, true, true, true, true, true, true, false] rfl rfl (any_of HT_.out (by kernel_rfl)) (fun _ _ _ h => h) (Or.inl ⟨by rfl, ?_⟩) ?_ ?_; rotate_left
 · intro w'
   go_simp
   with_reducible rfl
 rotate_left
 · exact APq
 refine one_ (i := 8) (N := none) #[true, true, true, true, true, true, true, true, true] rfl rfl (one_of HT_.out (by kernel_rfl)) (by decide) (fun K hK => ?_); have hs13 : w11.cell? ⟨q0, 0, none⟩ = some (.bool false) := bc q2 0; have hfs13 := blk_frozen q2.out 0; have hns13_1 := q5.out; have hms13_1 := qa.out; have hs14 : w11.cell? ⟨q0, 1, none⟩ = some (.int .i64 0) := bc q2 1; have hfs14 := blk_frozen q2.out 1; have hns14_1 := q5.out; have hms14_1 := qa.out; have hs15 : w11.cell? ⟨q0, 2, none⟩ = some (.slice none 0 0) := bc q2 2; have hfs15 := blk_frozen q2.out 2; have hns15_1 := q5.out; have hms15_1 := qa.out; refine skip_ (w1 := ?_) (by rfl) rfl ?_ ?_; rotate_left
 · go_simp
   rfl
 refine hK.out _ _ ⟨((cell_far (p := ⟨q0, _, none⟩) q5.out _).trans (((cell_far (p := ⟨q0, _, none⟩) q5.out _).trans (((cell_far (p := ⟨q0, _, none⟩) q5.out _).trans (hHeld.1)))))), ((cell_far (p := ⟨q0, _, none⟩) q5.out _).trans (((cell_far (p := ⟨q0, _, none⟩) q5.out _).trans (((cell_far (p := ⟨q0, _, none⟩) q5.out _).trans (hHeld.2.1)))))), ((cell_far (p := ⟨q0, _, none⟩) q5.out _).trans (((cell_far (p := ⟨q0, _, none⟩) q5.out _).trans (((cell_far (p := ⟨q0, _, none⟩) q5.out _).trans (hHeld.2.2.1)))))), ((cell_far (p := ⟨q0, _, none⟩) q5.out _).trans (((cell_far (p := ⟨q0, _, none⟩) q5.out _).trans (((cell_far (p := ⟨q0, _, none⟩) q5.out _).trans (hHeld.2.2.2))))))⟩ (fun hHeld => ?_); clear hK K; refine done_ (done_of HT_.out (by kernel_rfl)) ?_
 try go_wp2
 refine bodyPost_ret (results_cell_row rfl _ _ q0 77 #[.bool q4, .int .i64 q6, .slice qf q7.length qg] (0, 0) _ rfl (by (with_reducible repeat (first | refine blk_drewN ?_ _ | refine blk_drew ?_ | refine blk_alloc ?_ _)); refine blk_put (cs := #[.bool q4, .int .i64 q6, .slice none 0 0]) ?_ 2 _ rfl; refine blk_put (cs := #[.bool q4, .int .i64 0, .slice none 0 0]) ?_ 1 _ rfl; refine blk_put (cs := #[.bool false, .int .i64 0, .slice none 0 0]) ?_ 0 _ rfl; (with_reducible repeat (first | refine blk_drewN ?_ _ | refine blk_drew ?_ | refine blk_alloc ?_ _)); exact q2.out) Try.underlying77 rfl (by kernel_rfl)) rfl ?_; exact ⟨_, by first | rfl | (simp [errW_none, errW_some] <;> rfl) | (simp [*, errW_none, errW_some] <;> rfl), by (with_reducible repeat (first | apply Kd.V_alloc | apply Kd.V_drewN | apply Kd.V_drew)); exact Kd.V_mono (Kd.V_far (p := ⟨q0, 2, none⟩) (Kd.V_far (p := ⟨q0, 1, none⟩) (Kd.V_far (p := ⟨q0, 0, none⟩) (Kd.V_mono qe.out (fun k_ hk => (⟨hk, hk.2.1⟩ : _ ∧ k_ ≠ q0))) (fun _ hk => hk.2) (.bool q4)) (fun _ hk => hk.2) (.int .i64 q6)) (fun _ hk => hk.2) (.slice qf q7.length qg)) (fun _ hk => hk.1.1), kHt HB qc qd⟩
def r2_Len.l0 : Nat → Int → Int → Option (Int)
 | 0, _, _ => none
 | k + 1, x3, x4 => if x4 > 0 then (r2_Len.l0 k (wrap64 (x3 + 1)) ((Int.tdiv x4 2) % 4294967296)) else (some x3)
def r2_Len.f (k : Nat) (l0 : List Int) : Option (Int) := if (l0.length : Int) = 0 then (some 0) else (if 0 ≤ (wrap64 ((l0.length : Int) - 1)) then (if (wrap64 ((l0.length : Int) - 1)) < (l0.length : Int) then (r2_Len.l0 k (wrap64 (16 * (wrap64 ((l0.length : Int) - 1)))) (rd l0 (wrap64 ((l0.length : Int) - 1)))) else (none)) else (none))
theorem r2_Len.mono_l : ∀ k, (∀ y0 y1, LeO (r2_Len.l0 k y0 y1) (r2_Len.l0 (k + 1) y0 y1))
 | 0 => fun _ _ r h => by simp [r2_Len.l0] at h
 | k + 1 => by
  have ih0 := r2_Len.mono_l k
  · intro y0 y1
    unfold r2_Len.l0
    repeat' (with_reducible first | exact ih0 _ _ | exact LeO.refl _ | exact LeO.none _ | refine LeO.ite ?_ ?_ | refine LeO.bind ?_ (fun _ => ?_))
theorem r2_Len.mono : ∀ a0 k, LeO (r2_Len.f k a0) (r2_Len.f (k + 1) a0) := by
 intro a0 k; have ih0 := r2_Len.mono_l k
 unfold r2_Len.f
 repeat' (with_reducible first | exact ih0 _ _ | exact LeO.refl _ | exact LeO.none _ | refine LeO.ite ?_ ?_ | refine LeO.bind ?_ (fun _ => ?_))
set_option maxHeartbeats 8000000 in
set_option maxRecDepth 100000 in
theorem r2_Len.calls (k : Nat) (A0 : Option Addr) (c0 : Nat) (l0 : List Int) (r : Int) (w : World) (hr0 : Kd.C (Kd.int .u32) w A0 l0.length l0) (hc0 : l0.length ≤ c0) (h : r2_Len.f k l0 = some r) :
 Calls Try.prog 86 #[.slice A0 l0.length c0] w fun e w' => e = .returned (.int .i64 r) ∧ Below w.heap.size w w' := by
 have HR0 := aK hr0; have HC0 := aK hc0; clear hr0 hc0; have HB := aK (Below.refl w.heap.size w); have H : (if (l0.length : Int) = 0 then (some 0) else (if 0 ≤ (wrap64 ((l0.length : Int) - 1)) then (if (wrap64 ((l0.length : Int) - 1)) < (l0.length : Int) then (r2_Len.l0 k (wrap64 (16 * (wrap64 ((l0.length : Int) - 1)))) (rd l0 (wrap64 ((l0.length : Int) - 1)))) else (none)) else (none))) = some r := h; clear h
 by_cases c2 : (l0.length : Int) = 0
 · rw [if_pos c2] at H
   have q2 : ((l0.length : Int) == 0) = true := beq_iff_eq.mpr c2; have q4 : ((l0.length : Int) != 0) = false := bne_eq_false_iff_eq.mpr c2; clear c2; obtain rfl := Option.some.inj H
   go_enter Try.func86, Try.ntmps86
   go_wp2
   go_ret
   exact ⟨by first | rfl | (simp [errW_none, errW_some] <;> rfl) | (simp [*, errW_none, errW_some] <;> rfl), kH HB⟩
 rw [if_neg c2] at H
 have q2 : ((l0.length : Int) == 0) = false := beq_eq_false_iff_ne.mpr c2; have q4 : ((l0.length : Int) != 0) = true := bne_iff_ne.mpr c2
 have q5 : ¬ (l0 = []) := fun h_ => c2 (by rw [h_]; rfl)
 obtain ⟨ji3, hji3⟩ : ∃ j_ : Int, (wrap64 ((l0.length : Int) - 1)) = j_ := ⟨_, rfl⟩
 replace H : (if 0 ≤ (ji3) then (if (ji3) < (l0.length : Int) then (r2_Len.l0 k (wrap64 (16 * (ji3))) (rd l0 (ji3))) else (none)) else (none)) = some r := by first | (rw [hji3] at H; exact H) | (simp only [hji3] at H ⊢; exact H)
 have hji3w : (IntKind.i64.wrap ((l0.length : Int) - 1)) = ji3 := (i64_w _).trans hji3
 by_cases c4 : 0 ≤ (ji3)
 · rw [if_pos c4] at H
   have q6 : decide (0 ≤ (ji3)) = true := decide_eq_true c4; clear c4
   by_cases c5 : (ji3) < (l0.length : Int)
   · rw [if_pos c5] at H
     have q7 : decide ((ji3) < (l0.length : Int)) = true := decide_eq_true c5; clear c5; have H' := aK H; clear H; have p388 : 0 ≤ ((ji3) : Int) := of_decide_eq_true ASq; have q388 : (ji3) < (l0.length : Int) := of_decide_eq_true ASq; obtain ⟨ad388, e388, q8⟩ := Kd.at_int HR0.out (ji3) p388 q388
     cases e388
     replace p388 := eq_true p388; replace q388 := eq_true q388
     go_enter Try.func86, Try.ntmps86
     go_wp2
     go_loopg [3, 4] k (fun kq v3 v4 w' => ∃ (q1 : Int) (q0 : Int), v3 = .int .i64 q1 ∧ v4 = .int .u32 q0 ∧ Aside0 (r2_Len.l0 kq q1 q0 = some r) ∧ Aside0 (kq ≤ k) ∧ Aside0 (Below w.heap.size w w'))
     case atStart => exact ⟨(wrap64 (16 * (ji3))), (rd l0 (ji3)), (by first | rfl | (simp; done) | (simp only [← hji3] <;> (first | rfl | simp)) | (simp [*]; done)), (by first | rfl | (simp; done) | (simp only [← hji3] <;> (first | rfl | simp)) | (simp [*]; done)), (by first | exact H' | (subst_vars; exact H')), ⟨Nat.le_refl _⟩, ⟨kH HB⟩⟩
     case round =>
      clear H'; (try clear c2); (try clear q2); (try clear q4); (try clear q5); (try clear p2); (try clear p3); (try clear q3); (try clear hx3); (try clear c4); (try clear q6); (try clear c5); (try clear q7); (try clear q8); (try clear p388); (try clear q388); obtain ⟨q1, q0, rfl, rfl, HA, HK1, HB⟩ := hrel
      cases gk with
      | zero => exact absurd HA.out (by simp [r2_Len.l0])
      | succ k1 =>
       have H := HA.out; clear HA
       simp only [r2_Len.l0] at H
       by_cases c6 : q0 > 0
       · rw [if_pos c6] at H
         have q9 : decide (0 < q0) = true := decide_eq_true c6; clear c6; have H' := aK H; clear H
         go_wp2
         go_roundg k1
         case measure => have := HK1.out; omega
         case rel => exact ⟨(wrap64 (q1 + 1)), ((Int.tdiv q0 2) % 4294967296), RSq, RSq, (by first | exact H' | (subst_vars; exact H')), ⟨by have := HK1.out; omega⟩, ⟨kH HB⟩⟩
       rw [if_neg c6] at H
       have q9 : decide (0 < q0) = false := decide_eq_false c6; clear c6; obtain rfl := Option.some.inj H
       go_wp2
       go_ret
       exact ⟨by first | rfl | (simp [errW_none, errW_some] <;> rfl) | (simp only [← hji3]; first | rfl | (simp [errW_none, errW_some] <;> rfl)) | (simp [*, errW_none, errW_some] <;> rfl), kH HB⟩
   rw [if_neg c5] at H
   exact absurd H (by simp)
 rw [if_neg c4] at H
 exact absurd H (by simp)
def r2_Low.l0 : Nat → List Int → Int → Int → Option (Int)
 | 0, _, _, _ => none
 | k + 1, x0, x3, x4 => if x4 ≥ 0 then (if 0 ≤ x4 then (if x4 < (x0.length : Int) then (r2_Low.l0 k x0 (IntKind.u64.wrap ((IntKind.u64.wrap (65536 * x3)) + (IntKind.u64.wrap (rd x0 x4)))) (wrap64 (x4 - 1))) else (none)) else (none)) else (some x3)
def r2_Low.f (k : Nat) (l0 : List Int) : Option (Int) := if 4 < (l0.length : Int) then (r2_Low.l0 k l0 0 (4 - 1)) else (r2_Low.l0 k l0 0 (wrap64 ((l0.length : Int) - 1)))
theorem r2_Low.mono_l : ∀ k, (∀ y0 y1 y2, LeO (r2_Low.l0 k y0 y1 y2) (r2_Low.l0 (k + 1) y0 y1 y2))
 | 0 => fun _ _ _ r h => by simp [r2_Low.l0] at h
 | k + 1 => by
  have ih0 := r2_Low.mono_l k
  · intro y0 y1 y2
    unfold r2_Low.l0
    repeat' (with_reducible first | exact ih0 _ _ _ | exact LeO.refl _ | exact LeO.none _ | refine LeO.ite ?_ ?_ | refine LeO.bind ?_ (fun _ => ?_))
theorem r2_Low.mono : ∀ a0 k, LeO (r2_Low.f k a0) (r2_Low.f (k + 1) a0) := by
 intro a0 k; have ih0 := r2_Low.mono_l k
 unfold r2_Low.f
 repeat' (with_reducible first | exact ih0 _ _ _ | exact LeO.refl _ | exact LeO.none _ | refine LeO.ite ?_ ?_ | refine LeO.bind ?_ (fun _ => ?_))
set_option maxHeartbeats 8000000 in
set_option maxRecDepth 100000 in
theorem r2_Low.calls (k : Nat) (A0 : Option Addr) (c0 : Nat) (l0 : List Int) (r : Int) (w : World) (hr0 : Kd.C (Kd.int .u32) w A0 l0.length l0) (hc0 : l0.length ≤ c0) (h : r2_Low.f k l0 = some r) :
 Calls Try.prog 89 #[.slice A0 l0.length c0] w fun e w' => e = .returned (.int .u64 r) ∧ Below w.heap.size w w' := by
 have HR0 := aK hr0; have HC0 := aK hc0; clear hr0 hc0; have HB := aK (Below.refl w.heap.size w); have H : (if 4 < (l0.length : Int) then (r2_Low.l0 k l0 0 (4 - 1)) else (r2_Low.l0 k l0 0 (wrap64 ((l0.length : Int) - 1)))) = some r := h; clear h
 by_cases c2 : 4 < (l0.length : Int)
 · rw [if_pos c2] at H
   have c2i := eq_true c2; have q3 : decide (4 < (l0.length : Int)) = true := decide_eq_true c2; have q5 : decide (4 < l0.length) = true := decide_eq_true (by omega); clear c2; have H' := aK H; clear H
   go_enter Try.func89, Try.ntmps89
   go_wp2
   go_loopg [3, 4] k (fun kq v3 v4 w' => ∃ (q1 : Int) (q0 : Int), v3 = .int .u64 q1 ∧ v4 = .int .i64 q0 ∧ Aside0 (r2_Low.l0 kq l0 q1 q0 = some r) ∧ Aside0 (kq ≤ k) ∧ Aside0 (Below w.heap.size w w'))
   case atStart => exact ⟨(0), (4 - 1), RSq, RSq, (by first | exact H' | (subst_vars; exact H')), ⟨Nat.le_refl _⟩, ⟨kH HB⟩⟩
   case round =>
    clear H'; (try clear c2); (try clear q3); (try clear q5); (try clear p2); obtain ⟨q1, q0, rfl, rfl, HA, HK1, HB⟩ := hrel
    cases gk with
    | zero => exact absurd HA.out (by simp [r2_Low.l0])
    | succ k1 =>
     have H := HA.out; clear HA
     simp only [r2_Low.l0] at H
     by_cases c3 : q0 ≥ 0
     · rw [if_pos c3] at H
       have q6 : decide (0 ≤ q0) = true := decide_eq_true c3; clear c3
       by_cases c4 : 0 ≤ q0
       · rw [if_pos c4] at H
         have q7 : decide (0 ≤ q0) = true := decide_eq_true c4; clear c4
         by_cases c5 : q0 < (l0.length : Int)
         · rw [if_pos c5] at H
           have q8 : decide (q0 < (l0.length : Int)) = true := decide_eq_true c5; clear c5; have H' := aK H; clear H; have p464 : 0 ≤ (q0 : Int) := of_decide_eq_true ASq; have q464 : q0 < (l0.length : Int) := of_decide_eq_true ASq; obtain ⟨ad464, e464, q2⟩ := Kd.at_int HR0.out q0 p464 q464
           cases e464
           replace q2 := (HB.out.cell (World.block_lt_of_cell? w _ q2)).trans q2; replace p464 := eq_true p464; replace q464 := eq_true q464
           go_wp2
           go_roundg k1
           case measure => have := HK1.out; omega
           case rel => exact ⟨(IntKind.u64.wrap ((IntKind.u64.wrap (65536 * q1)) + (IntKind.u64.wrap (rd l0 q0)))), (wrap64 (q0 - 1)), RSq, RSq, (by first | exact H' | (subst_vars; exact H')), ⟨by have := HK1.out; omega⟩, ⟨kH HB⟩⟩
         rw [if_neg c5] at H
         exact absurd H (by simp)
       rw [if_neg c4] at H
       exact absurd H (by simp)
     rw [if_neg c3] at H
     have q6 : decide (0 ≤ q0) = false := decide_eq_false c3; clear c3; obtain rfl := Option.some.inj H
     go_wp2
     go_ret
     exact ⟨by first | rfl | (simp [errW_none, errW_some] <;> rfl) | (simp [*, errW_none, errW_some] <;> rfl), kH HB⟩
 rw [if_neg c2] at H
 have c2i := eq_false c2; have q3 : decide (4 < (l0.length : Int)) = false := decide_eq_false c2; have q5 : decide (4 < l0.length) = false := decide_eq_false (by omega); clear c2; have H' := aK H; clear H
 go_enter Try.func89, Try.ntmps89
 go_wp2
 go_loopg [3, 4] k (fun kq v3 v4 w' => ∃ (q1 : Int) (q0 : Int), v3 = .int .u64 q1 ∧ v4 = .int .i64 q0 ∧ Aside0 (r2_Low.l0 kq l0 q1 q0 = some r) ∧ Aside0 (kq ≤ k) ∧ Aside0 (Below w.heap.size w w'))
 case atStart => exact ⟨(0), (wrap64 ((l0.length : Int) - 1)), RSq, RSq, (by first | exact H' | (subst_vars; exact H')), ⟨Nat.le_refl _⟩, ⟨kH HB⟩⟩
 case round =>
  clear H'; (try clear c2); (try clear q3); (try clear q5); (try clear p2); (try clear c3); (try clear q6); (try clear c4); (try clear q7); (try clear p4); (try clear q4); (try clear hx4); (try clear c5); (try clear q8); (try clear q2); (try clear p2); (try clear p464); (try clear q464); obtain ⟨q1, q0, rfl, rfl, HA, HK1, HB⟩ := hrel
  cases gk with
  | zero => exact absurd HA.out (by simp [r2_Low.l0])
  | succ k1 =>
   have H := HA.out; clear HA
   simp only [r2_Low.l0] at H
   by_cases c6 : q0 ≥ 0
   · rw [if_pos c6] at H
     have q9 : decide (0 ≤ q0) = true := decide_eq_true c6; clear c6
     by_cases c7 : 0 ≤ q0
     · rw [if_pos c7] at H
       have c7b0 : decide (0 ≤ q0) = true := decide_eq_true c7; clear c7
       by_cases c8 : q0 < (l0.length : Int)
       · rw [if_pos c8] at H
         have c8b0 : decide (q0 < (l0.length : Int)) = true := decide_eq_true c8; clear c8; have H' := aK H; clear H; have p464 : 0 ≤ (q0 : Int) := of_decide_eq_true ASq; have q464 : q0 < (l0.length : Int) := of_decide_eq_true ASq; obtain ⟨ad464, e464, q2⟩ := Kd.at_int HR0.out q0 p464 q464
         cases e464
         replace q2 := (HB.out.cell (World.block_lt_of_cell? w _ q2)).trans q2; replace p464 := eq_true p464; replace q464 := eq_true q464
         go_wp2
         go_roundg k1
         case measure => have := HK1.out; omega
         case rel => exact ⟨(IntKind.u64.wrap ((IntKind.u64.wrap (65536 * q1)) + (IntKind.u64.wrap (rd l0 q0)))), (wrap64 (q0 - 1)), RSq, RSq, (by first | exact H' | (subst_vars; exact H')), ⟨by have := HK1.out; omega⟩, ⟨kH HB⟩⟩
       rw [if_neg c8] at H
       exact absurd H (by simp)
     rw [if_neg c7] at H
     exact absurd H (by simp)
   rw [if_neg c6] at H
   have q9 : decide (0 ≤ q0) = false := decide_eq_false c6; clear c6; obtain rfl := Option.some.inj H
   go_wp2
   go_ret
   exact ⟨by first | rfl | (simp [errW_none, errW_some] <;> rfl) | (simp [*, errW_none, errW_some] <;> rfl), kH HB⟩
def r2_Bit.l0 : Nat → Int → Int → Int → Option (Int)
 | 0, _, _, _ => none
 | k + 1, x1, x5, x6 => if x6 < (Int.tmod x1 16) then (r2_Bit.l0 k x1 ((Int.tdiv x5 2) % 4294967296) (wrap64 (x6 + 1))) else (some (wrap64 (Int.tmod x5 2)))
def r2_Bit.f (k : Nat) (l0 : List Int) (a1 : Int) : Option (Int) := (r2_at.f l0 (wrap64 (Int.tdiv a1 16))).bind fun q0 => (r2_Bit.l0 k a1 q0 0)
theorem r2_Bit.mono_l : ∀ k, (∀ y0 y1 y2, LeO (r2_Bit.l0 k y0 y1 y2) (r2_Bit.l0 (k + 1) y0 y1 y2))
 | 0 => fun _ _ _ r h => by simp [r2_Bit.l0] at h
 | k + 1 => by
  have ih0 := r2_Bit.mono_l k
  · intro y0 y1 y2
    unfold r2_Bit.l0
    repeat' (with_reducible first | exact ih0 _ _ _ | exact LeO.refl _ | exact LeO.none _ | refine LeO.ite ?_ ?_ | refine LeO.bind ?_ (fun _ => ?_))
theorem r2_Bit.mono : ∀ a0 a1 k, LeO (r2_Bit.f k a0 a1) (r2_Bit.f (k + 1) a0 a1) := by
 intro a0 a1 k; have ih0 := r2_Bit.mono_l k
 unfold r2_Bit.f
 repeat' (with_reducible first | exact ih0 _ _ _ | exact LeO.refl _ | exact LeO.none _ | refine LeO.ite ?_ ?_ | refine LeO.bind ?_ (fun _ => ?_))
set_option maxHeartbeats 8000000 in
set_option maxRecDepth 100000 in
theorem r2_Bit.calls (k : Nat) (A0 : Option Addr) (c0 : Nat) (l0 : List Int) (a1 : Int) (r : Int) (w : World) (hr0 : Kd.C (Kd.int .u32) w A0 l0.length l0) (hc0 : l0.length ≤ c0) (h : r2_Bit.f k l0 a1 = some r) :
 Calls Try.prog 107 #[.slice A0 l0.length c0, .int .i64 a1] w fun e w' => e = .returned (.int .i64 r) ∧ Below w.heap.size w w' := by
 have HR0 := aK hr0; have HC0 := aK hc0; clear hr0 hc0; have HB := aK (Below.refl w.heap.size w); have H : ((r2_at.f l0 (wrap64 (Int.tdiv a1 16))).bind fun q0 => (r2_Bit.l0 k a1 q0 0)) = some r := h; clear h; replace H := Option.bind_eq_some_iff.mp H; obtain ⟨q0, A30, H⟩ := H; replace H : (r2_Bit.l0 k a1 q0 0) = some r := H; have A3 := aK A30; clear A30; have H' := aK H; clear H
 go_enter Try.func107, Try.ntmps107
 go_wp2_with (first | ((with_reducible refine gate_callee (f := 98) rfl ?_); refine goesL_ (some 10) rfl rfl Try.func98 (by kernel_rfl) rfl #[.slice A0 l0.length c0, .int .i64 (wrap64 (Int.tdiv a1 16))] rfl LMq ?_; (with_reducible refine (r2_at.calls _ _ l0 (wrap64 (Int.tdiv a1 16)) q0 _ ?side1 ?side2 A3.out).mono ?_); (case side1 => repeat (first | exact HR0.out | (with_reducible refine Kd.C_alloc ?_ _) | (with_reducible refine Kd.C_drewN ?_ _) | (with_reducible refine Kd.C_drew ?_))); (case side2 => exact HC0.out); rintro e w' ⟨rfl, ⟨nd, rfl⟩⟩; refine ⟨_, rfl, ?_⟩))
 go_loopg [5, 6] k (fun kq v5 v6 w' => ∃ (q2 : Int) (q1 : Int), v5 = .int .u32 q2 ∧ v6 = .int .i64 q1 ∧ Aside0 (r2_Bit.l0 kq a1 q2 q1 = some r) ∧ Aside0 (kq ≤ k) ∧ Aside0 (Below w.heap.size w w'))
 case atStart => exact ⟨(q0), (0), RSq, RSq, (by first | exact H' | (subst_vars; exact H')), ⟨Nat.le_refl _⟩, ⟨kH HB⟩⟩
 case round =>
  clear H'; (try clear c1); (try clear p2); obtain ⟨q2, q1, rfl, rfl, HA, HK1, HB⟩ := hrel
  cases gk with
  | zero => exact absurd HA.out (by simp [r2_Bit.l0])
  | succ k1 =>
   have H := HA.out; clear HA
   simp only [r2_Bit.l0] at H
   by_cases c4 : q1 < (Int.tmod a1 16)
   · rw [if_pos c4] at H
     have q3 : decide (q1 < (Int.tmod a1 16)) = true := decide_eq_true c4; clear c4; have H' := aK H; clear H
     go_wp2
     go_roundg k1
     case measure => have := HK1.out; omega
     case rel => exact ⟨((Int.tdiv q2 2) % 4294967296), (wrap64 (q1 + 1)), RSq, RSq, (by first | exact H' | (subst_vars; exact H')), ⟨by have := HK1.out; omega⟩, ⟨kH HB⟩⟩
   rw [if_neg c4] at H
   have q3 : decide (q1 < (Int.tmod a1 16)) = false := decide_eq_false c4; clear c4; obtain rfl := Option.some.inj H
   go_wp2
   go_ret
   exact ⟨by first | rfl | (simp [errW_none, errW_some] <;> rfl) | (simp [*, errW_none, errW_some] <;> rfl), kH HB⟩
def r4_over.f (a0 : Bool) (a1 : Int) : Option (Int) := if a1 = 2 then (some 9218868437227405311) else (if a1 = 3 then (if a0 = true then (some 9218868437227405311) else (if a1 = 4 then (some 9218868437227405311) else (some 9218868437227405312))) else (if a1 = 4 then (if a0 = true then (some 9218868437227405312) else (some 9218868437227405311)) else (some 9218868437227405312)))
set_option maxHeartbeats 8000000 in
set_option maxRecDepth 100000 in
theorem r4_over.calls (a0 : Bool) (a1 : Int) (r : Int) (w : World) (h : r4_over.f a0 a1 = some r) :
 Calls Try.prog 87 #[.bool a0, .int .i64 a1] w fun e w' => e = .returned (.int .u64 r) ∧ Drawn0 w w' := by
 have H : (if a1 = 2 then (some 9218868437227405311) else (if a1 = 3 then (if a0 = true then (some 9218868437227405311) else (if a1 = 4 then (some 9218868437227405311) else (some 9218868437227405312))) else (if a1 = 4 then (if a0 = true then (some 9218868437227405312) else (some 9218868437227405311)) else (some 9218868437227405312)))) = some r := h; clear h
 by_cases c3 : a1 = 2
 · rw [if_pos c3] at H
   have q0 : (a1 == 2) = true := beq_iff_eq.mpr c3; have q1 : (a1 != 2) = false := bne_eq_false_iff_eq.mpr c3; clear c3; obtain rfl := Option.some.inj H
   go_enter Try.func87, Try.ntmps87
   go_wp2
   go_ret
   exact ⟨by first | rfl | (simp; done) | (simp [*]; done) | (simp [wrap64]; done), by repeat (first | exact Drawn0.refl _ | apply Drawn0.step)⟩
 rw [if_neg c3] at H
 have q0 : (a1 == 2) = false := beq_eq_false_iff_ne.mpr c3; have q1 : (a1 != 2) = true := bne_iff_ne.mpr c3
 by_cases c4 : a1 = 3
 · rw [if_pos c4] at H
   have q2 : (a1 == 3) = true := beq_iff_eq.mpr c4; have q3 : (a1 != 3) = false := bne_eq_false_iff_eq.mpr c4; clear c4
   by_cases c5 : a0 = true
   · subst c5
     have H1 : (some 9218868437227405311) = some r := by rw [if_pos rfl] at H; exact H
     clear H; have H := H1; clear H1; obtain rfl := Option.some.inj H
     go_enter Try.func87, Try.ntmps87
     go_wp2
     go_ret
     exact ⟨by first | rfl | (simp; done) | (simp [*]; done) | (simp [wrap64]; done), by repeat (first | exact Drawn0.refl _ | apply Drawn0.step)⟩
   replace c5 := Bool.eq_false_iff.mpr c5; subst c5
   have H1 : (if a1 = 4 then (some 9218868437227405311) else (some 9218868437227405312)) = some r := by rw [if_neg (show ¬ (false = true) by decide)] at H; exact H
   clear H; have H := H1; clear H1
   by_cases c6 : a1 = 4
   · rw [if_pos c6] at H
     have q4 : (a1 == 4) = true := beq_iff_eq.mpr c6; have q5 : (a1 != 4) = false := bne_eq_false_iff_eq.mpr c6; clear c6; obtain rfl := Option.some.inj H
     go_enter Try.func87, Try.ntmps87
     go_wp2
     go_ret
     exact ⟨by first | rfl | (simp; done) | (simp [*]; done) | (simp [wrap64]; done), by repeat (first | exact Drawn0.refl _ | apply Drawn0.step)⟩
   rw [if_neg c6] at H
   have q4 : (a1 == 4) = false := beq_eq_false_iff_ne.mpr c6; have q5 : (a1 != 4) = true := bne_iff_ne.mpr c6; obtain rfl := Option.some.inj H
   go_enter Try.func87, Try.ntmps87
   go_wp2
   go_ret
   exact ⟨by first | rfl | (simp; done) | (simp [*]; done) | (simp [wrap64]; done), by repeat (first | exact Drawn0.refl _ | apply Drawn0.step)⟩
 rw [if_neg c4] at H
 have q2 : (a1 == 3) = false := beq_eq_false_iff_ne.mpr c4; have q3 : (a1 != 3) = true := bne_iff_ne.mpr c4
 by_cases c7 : a1 = 4
 · rw [if_pos c7] at H
   have q6 : (a1 == 4) = true := beq_iff_eq.mpr c7; have q7 : (a1 != 4) = false := bne_eq_false_iff_eq.mpr c7; clear c7
   by_cases c8 : a0 = true
   · subst c8
     have H1 : (some 9218868437227405312) = some r := by rw [if_pos rfl] at H; exact H
     clear H; have H := H1; clear H1; obtain rfl := Option.some.inj H
     go_enter Try.func87, Try.ntmps87
     go_wp2
     go_ret
     exact ⟨by first | rfl | (simp; done) | (simp [*]; done) | (simp [wrap64]; done), by repeat (first | exact Drawn0.refl _ | apply Drawn0.step)⟩
   replace c8 := Bool.eq_false_iff.mpr c8; subst c8
   have H1 : (some 9218868437227405311) = some r := by rw [if_neg (show ¬ (false = true) by decide)] at H; exact H
   clear H; have H := H1; clear H1; obtain rfl := Option.some.inj H
   go_enter Try.func87, Try.ntmps87
   go_wp2
   go_ret
   exact ⟨by first | rfl | (simp; done) | (simp [*]; done) | (simp [wrap64]; done), by repeat (first | exact Drawn0.refl _ | apply Drawn0.step)⟩
 rw [if_neg c7] at H
 have q6 : (a1 == 4) = false := beq_eq_false_iff_ne.mpr c7; have q7 : (a1 != 4) = true := bne_iff_ne.mpr c7; obtain rfl := Option.some.inj H
 go_enter Try.func87, Try.ntmps87
 go_wp2
 go_ret
 exact ⟨by first | rfl | (simp; done) | (simp [*]; done) | (simp [wrap64]; done), by repeat (first | exact Drawn0.refl _ | apply Drawn0.step)⟩
def r4_signed.f (a0 : Int) (a1 : Bool) : Option (Int) := if a1 = true then (some (IntKind.u64.wrap (a0 + 9223372036854775808))) else (some a0)
set_option maxHeartbeats 8000000 in
set_option maxRecDepth 100000 in
theorem r4_signed.calls (a0 : Int) (a1 : Bool) (r : Int) (w : World) (h : r4_signed.f a0 a1 = some r) :
 Calls Try.prog 85 #[.int .u64 a0, .bool a1] w fun e w' => e = .returned (.int .u64 r) ∧ Drawn0 w w' := by
 have H : (if a1 = true then (some (IntKind.u64.wrap (a0 + 9223372036854775808))) else (some a0)) = some r := h; clear h
 by_cases c3 : a1 = true
 · subst c3
   have H1 : (some (IntKind.u64.wrap (a0 + 9223372036854775808))) = some r := by rw [if_pos rfl] at H; exact H
   clear H; have H := H1; clear H1; obtain rfl := Option.some.inj H
   go_enter Try.func85, Try.ntmps85
   go_wp2
   go_ret
   exact ⟨by first | rfl | (simp; done) | (simp [*]; done) | (simp [wrap64]; done), by repeat (first | exact Drawn0.refl _ | apply Drawn0.step)⟩
 replace c3 := Bool.eq_false_iff.mpr c3; subst c3
 have H1 : (some a0) = some r := by rw [if_neg (show ¬ (false = true) by decide)] at H; exact H
 clear H; have H := H1; clear H1; obtain rfl := Option.some.inj H
 go_enter Try.func85, Try.ntmps85
 go_wp2
 go_ret
 exact ⟨by first | rfl | (simp; done) | (simp [*]; done) | (simp [wrap64]; done), by repeat (first | exact Drawn0.refl _ | apply Drawn0.step)⟩
def r2_Small.l0 : Nat → List Int → Int → List Int → Int → Int → Option (List Int)
 | 0, _, _, _, _, _ => none
 | k + 1, x0, x1, x7, x8, x9 => if x9 < (x0.length : Int) then ((r2_at.f x0 x9).bind fun q3 => (if x7.length < 35184372088832 then (r2_Small.l0 k x0 x1 (x7 ++ [(Int.tmod (IntKind.u64.wrap (x8 + (IntKind.u64.wrap ((IntKind.u64.wrap (q3)) * (IntKind.u64.wrap (x1)))))) 65536) % 4294967296]) (IntKind.u64.wrap (Int.tdiv (IntKind.u64.wrap (x8 + (IntKind.u64.wrap ((IntKind.u64.wrap (q3)) * (IntKind.u64.wrap (x1)))))) 65536)) (wrap64 (x9 + 1))) else (none))) else (if x8 > 0 then ((r2_at.f x0 x9).bind fun q4 => (if x7.length < 35184372088832 then (r2_Small.l0 k x0 x1 (x7 ++ [(Int.tmod (IntKind.u64.wrap (x8 + (IntKind.u64.wrap ((IntKind.u64.wrap (q4)) * (IntKind.u64.wrap (x1)))))) 65536) % 4294967296]) (IntKind.u64.wrap (Int.tdiv (IntKind.u64.wrap (x8 + (IntKind.u64.wrap ((IntKind.u64.wrap (q4)) * (IntKind.u64.wrap (x1)))))) 65536)) (wrap64 (x9 + 1))) else (none))) else ((r2_trim.f k x7).bind fun q5 => (some q5)))
def r2_Small.f (k : Nat) (l0 : List Int) (a1 : Int) (a2 : Int) : Option (List Int) := r2_Small.l0 k l0 a1 ([] : List Int) (IntKind.u64.wrap (a2)) 0
theorem r2_Small.mono_l : ∀ k, (∀ y0 y1 y2 y3 y4, LeO (r2_Small.l0 k y0 y1 y2 y3 y4) (r2_Small.l0 (k + 1) y0 y1 y2 y3 y4))
 | 0 => fun _ _ _ _ _ r h => by simp [r2_Small.l0] at h
 | k + 1 => by
  have ih0 := r2_Small.mono_l k
  · intro y0 y1 y2 y3 y4
    unfold r2_Small.l0
    repeat' (with_reducible first | exact ih0 _ _ _ _ _ | exact r2_trim.mono _ _ | exact LeO.refl _ | exact LeO.none _ | refine LeO.ite ?_ ?_ | refine LeO.bind ?_ (fun _ => ?_))
theorem r2_Small.mono : ∀ a0 a1 a2 k, LeO (r2_Small.f k a0 a1 a2) (r2_Small.f (k + 1) a0 a1 a2) := by
 intro a0 a1 a2 k; have ih0 := r2_Small.mono_l k
 unfold r2_Small.f
 repeat' (with_reducible first | exact ih0 _ _ _ _ _ | exact r2_trim.mono _ _ | exact LeO.refl _ | exact LeO.none _ | refine LeO.ite ?_ ?_ | refine LeO.bind ?_ (fun _ => ?_))
set_option maxHeartbeats 8000000 in
set_option maxRecDepth 100000 in
theorem r2_Small.calls (k : Nat) (A0 : Option Addr) (c0 : Nat) (l0 : List Int) (a1 : Int) (a2 : Int) (r : List Int) (w : World) (hr0 : Kd.C (Kd.int .u32) w A0 l0.length l0) (hc0 : l0.length ≤ c0) (h : r2_Small.f k l0 a1 a2 = some r) :
 Calls Try.prog 99 #[.slice A0 l0.length c0, .int .u32 a1, .int .u32 a2] w fun e w' => ∃ v0_ : Value, e = .returned (v0_) ∧ Kd.V (Kd.int .u32) 124 w' w.heap.size (fun k_ => (w.heap.size ≤ k_)) v0_ r ∧ Below w.heap.size w w' := by
 have HR0 := aK hr0; have HC0 := aK hc0; clear hr0 hc0; have HB := aK (Below.refl w.heap.size w); have H : (r2_Small.l0 k l0 a1 ([] : List Int) (IntKind.u64.wrap (a2)) 0) = some r := h; clear h; have H' := aK H; clear H
 go_enter Try.func99, Try.ntmps99
 go_wp2
 go_loopg [7, 8, 9] k (fun kq v7 v8 v9 w' => ∃ (q1 : List Int) (q0 : Int) (q2 : Int), v8 = .int .u64 q0 ∧ v9 = .int .i64 q2 ∧ Aside0 (r2_Small.l0 kq l0 a1 q1 q0 q2 = some r) ∧ Aside0 (kq ≤ k) ∧ Aside0 (Kd.R (Kd.int .u32) 124 w' w.heap.size (fun k_ => (w.heap.size ≤ k_)) v7 q1) ∧ Aside0 (Below w.heap.size w w'))
 case atStart => exact ⟨(([] : List Int)), (IntKind.u64.wrap (a2)), (0), RSq, RSq, (by first | exact H' | (subst_vars; exact H')), ⟨Nat.le_refl _⟩, ⟨by first | exact Kd.R_nil _ _ _ _ _ | exact Kd.N_nil _ _ _ _ _ | exact Kd.V_nil _ _ _ _ _ | exact Kd.Q_nil _ _ _ _ _ | exact Kd.S_nil _ _ _ _ _ | exact Kd.R_nil _ _ _ 0 _ | exact Kd.R_nil _ _ _ 0 (fun k_ => w.heap.size ≤ k_)⟩, ⟨kH HB⟩⟩
 case round =>
  clear H'; (try clear p2); obtain ⟨q1, q0, q2, rfl, rfl, HA, HK1, HO_7, HB⟩ := hrel
  cases gk with
  | zero => exact absurd HA.out (by simp [r2_Small.l0])
  | succ k1 =>
   have H := HA.out; clear HA
   simp only [r2_Small.l0] at H
   by_cases c4 : q2 < (l0.length : Int)
   · rw [if_pos c4] at H
     have q9 : decide (q2 < (l0.length : Int)) = true := decide_eq_true c4; clear c4; replace H := Option.bind_eq_some_iff.mp H; obtain ⟨q3, A50, H⟩ := H; replace H : (if q1.length < 35184372088832 then (r2_Small.l0 k1 l0 a1 (q1 ++ [(Int.tmod (IntKind.u64.wrap (q0 + (IntKind.u64.wrap ((IntKind.u64.wrap (q3)) * (IntKind.u64.wrap (a1)))))) 65536) % 4294967296]) (IntKind.u64.wrap (Int.tdiv (IntKind.u64.wrap (q0 + (IntKind.u64.wrap ((IntKind.u64.wrap (q3)) * (IntKind.u64.wrap (a1)))))) 65536)) (wrap64 (q2 + 1))) else (none)) = some r := H; have A5 := aK A50; clear A50
     by_cases c6 : q1.length < 35184372088832
     · rw [if_pos c6] at H
       have LMc6 := aK c6; clear c6; obtain ⟨y833, hy833⟩ : ∃ y_ : List Int, y_ = (q1 ++ [(Int.tmod (IntKind.u64.wrap (q0 + (IntKind.u64.wrap ((IntKind.u64.wrap (q3)) * (IntKind.u64.wrap (a1)))))) 65536) % 4294967296]) := ⟨_, rfl⟩
       replace H : (r2_Small.l0 k1 l0 a1 y833 (IntKind.u64.wrap (Int.tdiv (IntKind.u64.wrap (q0 + (IntKind.u64.wrap ((IntKind.u64.wrap (q3)) * (IntKind.u64.wrap (a1)))))) 65536)) (wrap64 (q2 + 1))) = some r := by first | (rw [hy833]; with_reducible exact H) | (have H2_ := (Option.bind_some _ _).symm.trans H; rw [hy833]; with_reducible exact H2_) | (have H2_ := (Option.bind_some _ _).symm.trans H; with_reducible exact H2_) | with_reducible exact H | (rw [hy833]; exact H) | exact H
       have Ny833 := aK hy833; clear hy833; have H' := aK H; clear H
       go_wp2_with (first | ((with_reducible refine gate_callee (f := 98) rfl ?_); refine goesL_ (some 25) rfl rfl Try.func98 (by kernel_rfl) rfl #[.slice A0 l0.length c0, .int .i64 q2] rfl LMq ?_; (with_reducible refine (r2_at.calls _ _ l0 q2 q3 _ ?side1 ?side2 A5.out).mono ?_); (case side1 => exact kC (Kd.C_below HR0.out HB.out)); (case side2 => exact HC0.out); rintro e w' ⟨rfl, ⟨nd, rfl⟩⟩; refine ⟨_, rfl, ?_⟩) | ((with_reducible refine gate_builtin (b := .append) (xs := #[.tmp 31, .tmp 35]) rfl ?_); at_builtin; refine Kd.R_append (Kd.int .u32) (w0 := w) w.heap.size rfl (.tmp 31) (.tmp 35) 75 124 (.int .u32 0) 4 rfl Try.underlying75 info124 rfl (by decide) (by omega) u7 q1 ((Int.tmod (IntKind.u64.wrap (q0 + (IntKind.u64.wrap ((IntKind.u64.wrap (q3)) * (IntKind.u64.wrap (a1)))))) 65536) % 4294967296) [.int .u32 ((Int.tmod (IntKind.u64.wrap (q0 + (IntKind.u64.wrap ((IntKind.u64.wrap (q3)) * (IntKind.u64.wrap (a1)))))) 65536) % 4294967296)] (fun k_ => (w.heap.size ≤ k_)) (fun _ => False) rfl rfl ?aP (fun _ hk => hk.elim) ?aF ?aO ?aB ?aS ?aL ?_; (case aP => exact rfl); (case aB => exact (kH HB)); (case aF => exact (fun k_ hk => (Nat.le_trans (below_size (kH HB)) hk))); (case aO => exact (kR HO_7)); (case aS => exact (below_size (kH HB))); (case aL => have := LMc6.out; omega); intro v834 w7 ho hb hg hat; rw [← Ny833.out] at ho; replace HB := aK (hb); have qa := aK (ho); clear HO_7; clear ho hb hg hat))
       go_roundg k1
       case measure => have := HK1.out; omega
       case rel => exact ⟨(y833), (IntKind.u64.wrap (Int.tdiv (IntKind.u64.wrap (q0 + (IntKind.u64.wrap ((IntKind.u64.wrap (q3)) * (IntKind.u64.wrap (a1)))))) 65536)), (wrap64 (q2 + 1)), RSq, RSq, (by first | exact H' | (subst_vars; exact H')), ⟨by have := HK1.out; omega⟩, ⟨kR qa⟩, ⟨kH HB⟩⟩
     rw [if_neg c6] at H
     exact absurd H (by simp)
   rw [if_neg c4] at H
   have q9 : decide (q2 < (l0.length : Int)) = false := decide_eq_false c4; clear c4
   by_cases c8 : q0 > 0
   · rw [if_pos c8] at H
     have qb : decide (0 < q0) = true := decide_eq_true c8; clear c8; replace H := Option.bind_eq_some_iff.mp H; obtain ⟨q4, A90, H⟩ := H; replace H : (if q1.length < 35184372088832 then (r2_Small.l0 k1 l0 a1 (q1 ++ [(Int.tmod (IntKind.u64.wrap (q0 + (IntKind.u64.wrap ((IntKind.u64.wrap (q4)) * (IntKind.u64.wrap (a1)))))) 65536) % 4294967296]) (IntKind.u64.wrap (Int.tdiv (IntKind.u64.wrap (q0 + (IntKind.u64.wrap ((IntKind.u64.wrap (q4)) * (IntKind.u64.wrap (a1)))))) 65536)) (wrap64 (q2 + 1))) else (none)) = some r := H; have A9 := aK A90; clear A90
     by_cases c10 : q1.length < 35184372088832
     · rw [if_pos c10] at H
       have LMc10 := aK c10; clear c10; obtain ⟨y837, hy837⟩ : ∃ y_ : List Int, y_ = (q1 ++ [(Int.tmod (IntKind.u64.wrap (q0 + (IntKind.u64.wrap ((IntKind.u64.wrap (q4)) * (IntKind.u64.wrap (a1)))))) 65536) % 4294967296]) := ⟨_, rfl⟩
       replace H : (r2_Small.l0 k1 l0 a1 y837 (IntKind.u64.wrap (Int.tdiv (IntKind.u64.wrap (q0 + (IntKind.u64.wrap ((IntKind.u64.wrap (q4)) * (IntKind.u64.wrap (a1)))))) 65536)) (wrap64 (q2 + 1))) = some r := by first | (rw [hy837]; with_reducible exact H) | (have H2_ := (Option.bind_some _ _).symm.trans H; rw [hy837]; with_reducible exact H2_) | (have H2_ := (Option.bind_some _ _).symm.trans H; with_reducible exact H2_) | with_reducible exact H | (rw [hy837]; exact H) | exact H
       have Ny837 := aK hy837; clear hy837; have H' := aK H; clear H
       go_wp2_with (first | ((with_reducible refine gate_callee (f := 98) rfl ?_); refine goesL_ (some 25) rfl rfl Try.func98 (by kernel_rfl) rfl #[.slice A0 l0.length c0, .int .i64 q2] rfl LMq ?_; (with_reducible refine (r2_at.calls _ _ l0 q2 q4 _ ?side1 ?side2 A9.out).mono ?_); (case side1 => exact kC (Kd.C_below HR0.out HB.out)); (case side2 => exact HC0.out); rintro e w' ⟨rfl, ⟨nd, rfl⟩⟩; refine ⟨_, rfl, ?_⟩) | ((with_reducible refine gate_builtin (b := .append) (xs := #[.tmp 31, .tmp 35]) rfl ?_); at_builtin; refine Kd.R_append (Kd.int .u32) (w0 := w) w.heap.size rfl (.tmp 31) (.tmp 35) 75 124 (.int .u32 0) 4 rfl Try.underlying75 info124 rfl (by decide) (by omega) u7 q1 ((Int.tmod (IntKind.u64.wrap (q0 + (IntKind.u64.wrap ((IntKind.u64.wrap (q4)) * (IntKind.u64.wrap (a1)))))) 65536) % 4294967296) [.int .u32 ((Int.tmod (IntKind.u64.wrap (q0 + (IntKind.u64.wrap ((IntKind.u64.wrap (q4)) * (IntKind.u64.wrap (a1)))))) 65536) % 4294967296)] (fun k_ => (w.heap.size ≤ k_)) (fun _ => False) rfl rfl ?aP (fun _ hk => hk.elim) ?aF ?aO ?aB ?aS ?aL ?_; (case aP => exact rfl); (case aB => exact (kH HB)); (case aF => exact (fun k_ hk => (Nat.le_trans (below_size (kH HB)) hk))); (case aO => exact (kR HO_7)); (case aS => exact (below_size (kH HB))); (case aL => have := LMc10.out; omega); intro v838 w11 ho hb hg hat; rw [← Ny837.out] at ho; replace HB := aK (hb); have qc := aK (ho); clear HO_7; clear ho hb hg hat))
       go_roundg k1
       case measure => have := HK1.out; omega
       case rel => exact ⟨(y837), (IntKind.u64.wrap (Int.tdiv (IntKind.u64.wrap (q0 + (IntKind.u64.wrap ((IntKind.u64.wrap (q4)) * (IntKind.u64.wrap (a1)))))) 65536)), (wrap64 (q2 + 1)), RSq, RSq, (by first | exact H' | (subst_vars; exact H')), ⟨by have := HK1.out; omega⟩, ⟨kR qc⟩, ⟨kH HB⟩⟩
     rw [if_neg c10] at H
     exact absurd H (by simp)
   rw [if_neg c8] at H
   have qb : decide (0 < q0) = false := decide_eq_false c8; clear c8; replace H := Option.bind_eq_some_iff.mp H; obtain ⟨q5, q6, H⟩ := H; replace H : (some q5) = some r := H; have A12 := aK q6; clear q6; obtain rfl := Option.some.inj H; obtain ⟨q7, q8, eo13⟩ := Kd.R_slice HO_7.out; subst eo13
   go_wp2_with (first | ((with_reducible refine gate_callee (f := 97) rfl ?_); refine goesL_ (some 40) rfl rfl Try.func97 (by kernel_rfl) rfl #[.slice q7 q1.length q8] rfl LMq ?_; (with_reducible refine (r2_trim.calls k1 (fun k_ => some k_ = (.slice q7 q1.length q8 : Value).ownBlock) _ _ q1 q5 _ ?side1 A12.out).mono ?_); (case side1 => exact Kd.R_V (Kd.R_tight rfl (HO_7.out))); rintro e w14 ⟨v841, rfl, ho0, hb⟩; refine ⟨_, rfl, ?_⟩; have qd := aK (Kd.V_lower (Kd.V_mono (ok' := fun k_ => (w.heap.size ≤ k_)) ho0 (fun k_ hk_ => Or.elim hk_ (fun hs_ => ((HO_7.out).1 k_ hs_.symm)) (fun hn_ => (Nat.le_trans (below_size (kH HB)) hn_)))) (below_size (kH HB))); replace HO_7 := aK (Kd.R_below (kR HO_7) hb); replace HB := aK (below_step (kH HB) hb); (try clear hb); (try clear hb2); (try clear hk); (try clear hi); (try clear ho0)))
   go_ret
   exact ⟨_, by first | rfl | (simp [errW_none, errW_some] <;> rfl) | (simp [*, errW_none, errW_some] <;> rfl), by (with_reducible repeat (first | apply Kd.V_alloc | apply Kd.V_drewN | apply Kd.V_drew)); exact qd.out, kH HB⟩
end Go.Proofs.Ythcgeekibomhiaa.X
end
section
namespace Go.Proofs.Ythcgeekibomhiaa
set_option linter.unusedVariables false
set_option linter.unusedSimpArgs false
open Go.RowKit
theorem blen_mul_pow {s : Nat} (hs : s ≠ 0) (k : Nat) : blen (s * 2 ^ k) = blen s + k := by
  have h1 := blen_le hs
  have h2 := blen_lt s
  have h3 := blen_pos hs
  have e : blen s + k = (blen s - 1 + k) + 1 := by omega
  rw [e]
  refine blen_eq ?_ ?_
  · rw [Nat.pow_add]; exact Nat.mul_le_mul_right _ h1
  · rw [show blen s - 1 + k + 1 = blen s + k by omega, Nat.pow_add]
    exact Nat.mul_lt_mul_of_pos_right h2 (Nat.two_pow_pos k)
theorem rN_ge (x : Int) (s : Nat) : -1074 ≤ rN x s := by unfold rN; split <;> omega
theorem rN_cases (x : Int) (s : Nat) : rN x s = -1074 ∧ x + (blen s : Int) - 53 ≤ -1074 ∨ rN x s = x + (blen s : Int) - 53 ∧ -1074 ≤ x + (blen s : Int) - 53 := by
  unfold rN rTop; split <;> omega
theorem cutQ53_lt {s : Nat} {x : Int} (hs : s ≠ 0) : cutQ s x (rN x s) < 2 ^ 53 := by
  have hb : x + (blen s : Int) - rN x s ≤ 53 := by rcases rN_cases x s with h | h <;> omega
  have h2 := blen_lt s
  unfold cutQ
  split
  · next h =>
    have h3 : s * 2 ^ (x - rN x s).toNat < 2 ^ 53 := by
      refine Nat.lt_of_lt_of_le (Nat.mul_lt_mul_of_pos_right h2 (Nat.two_pow_pos _)) ?_
      rw [← Nat.pow_add]
      exact Nat.pow_le_pow_right (by omega) (by omega)
    exact Nat.lt_of_le_of_lt (Nat.mod_le _ _) h3
  · next h =>
    refine Nat.div_lt_of_lt_mul ?_
    rw [← Nat.pow_add]
    exact Nat.lt_of_lt_of_le h2 (Nat.pow_le_pow_right (by omega) (by omega))
theorem cutQ_no_mod {s : Nat} {x : Int} (hs : s ≠ 0) (h : rN x s ≤ x) : cutQ s x (rN x s) = s * 2 ^ (x - rN x s).toNat := by
  have hb : x + (blen s : Int) - rN x s ≤ 53 := by rcases rN_cases x s with h | h <;> omega
  have h2 := blen_lt s
  have h3 : s * 2 ^ (x - rN x s).toNat < 2 ^ 53 := by
    refine Nat.lt_of_lt_of_le (Nat.mul_lt_mul_of_pos_right h2 (Nat.two_pow_pos _)) ?_
    rw [← Nat.pow_add]
    exact Nat.pow_le_pow_right (by omega) (by omega)
  unfold cutQ
  rw [if_pos h, T256_eq]
  exact Nat.mod_eq_of_lt (Nat.lt_trans h3 (by decide))
theorem cutQ_ge {s : Nat} {x : Int} (hs : s ≠ 0) (hn : -1074 < rN x s) : 2 ^ 52 ≤ cutQ s x (rN x s) := by
  have hb : rN x s = x + (blen s : Int) - 53 := by rcases rN_cases x s with h | h <;> omega
  have h1 := blen_le hs
  have hp := blen_pos hs
  by_cases h : rN x s ≤ x
  · rw [cutQ_no_mod hs h]
    refine Nat.le_trans ?_ (Nat.mul_le_mul_right _ h1)
    rw [← Nat.pow_add]
    exact Nat.pow_le_pow_right (by omega) (by omega)
  · unfold cutQ
    rw [if_neg h, Nat.le_div_iff_mul_le (Nat.two_pow_pos _), ← Nat.pow_add]
    exact Nat.le_trans (Nat.pow_le_pow_right (by omega) (by omega)) h1
def uu (mi : Bool) (x : Int) (s : Nat) (m : Int) : Nat := if upB m mi (decide (cutQ s x (rN x s) % 2 = 1)) (cutH s x (rN x s)) (cutR s x (rN x s)) = true then 1 else 0
def PQ (mi : Bool) (x : Int) (s : Nat) (m : Int) : Int := ((cutQ s x (rN x s) + uu mi x s m : Nat) : Int) + (rN x s + 1074) * 4503599627370496
theorem uu_le (mi : Bool) (x : Int) (s : Nat) (m : Int) : uu mi x s m ≤ 1 := by unfold uu; split <;> omega
theorem l0_small {n : Nat} (h : n < 18446744073709551616) : l0 n = (n : Int) := by unfold l0; omega
theorem round_eq (mi : Bool) (x : Int) (s : Nat) (m : Int) (hs : s ≠ 0) : rRound mi x s m = if 9218868437227405312 ≤ PQ mi x s m then (overP mi m, 20) else (PQ mi x s m + sg mi, rFlag mi x s m) := by
  have hlt := cutQ53_lt (x := x) hs
  have hge := cutQ_ge (x := x) hs
  have hn := rN_ge x s
  have hu := uu_le mi x s m
  have eQ : rQ mi x s m = cutQ s x (rN x s) + uu mi x s m := by
    unfold rQ rTo
    rw [Nat.mod_eq_of_lt]
    · rfl
    · show cutQ s x (rN x s) + uu mi x s m < T256
      rw [T256_eq]
      exact Nat.lt_of_le_of_lt (show _ ≤ 2 ^ 53 by omega) (by decide)
  have eP : PQ mi x s m = ((rQ mi x s m : Nat) : Int) + (rN x s + 1074) * 4503599627370496 := by unfold PQ; rw [eQ]
  unfold rRound
  rw [if_neg hs]
  rw [show (2 : Nat) ^ 53 = 9007199254740992 from rfl] at hlt
  rw [show (2 : Nat) ^ 52 = 4503599627370496 from rfl] at hge
  generalize hq : rQ mi x s m = q at *
  generalize hnn : rN x s = n at *
  generalize PQ mi x s m = P at *
  by_cases hb : 53 < blen q
  · have hq53 : q = 9007199254740992 := by
      have : ¬ q < 2 ^ 53 := fun h => by have := blen_le_iff.2 h; omega
      rw [show (2 : Nat) ^ 53 = 9007199254740992 from rfl] at this
      omega
    have e1 : rQ2 mi x s m = 4503599627370496 := by unfold rQ2; rw [hq, if_pos hb, hq53]
    have e2 : rN2 mi x s m = n + 1 := by unfold rN2; rw [hq, hnn, if_pos hb]
    rw [e1, e2]
    by_cases ho : 971 < n + 1
    · rw [if_pos ho, if_pos (by omega)]
    · rw [if_neg ho, if_neg (by omega)]
      congr 1
      unfold rP
      rw [l0_small (by decide), if_pos (by decide), IntKind.wrap_u64]
      unfold pA
      omega
  · have hq53 : q < 9007199254740992 := blen_le_iff.1 (show blen q ≤ 53 by omega)
    have e1 : rQ2 mi x s m = q := by unfold rQ2; rw [hq, if_neg hb]
    have e2 : rN2 mi x s m = n := by unfold rN2; rw [hq, hnn, if_neg hb]
    rw [e1, e2]
    by_cases ho : 971 < n
    · rw [if_pos ho, if_pos (by omega)]
    · rw [if_neg ho, if_neg (by omega)]
      congr 1
      unfold rP
      rw [l0_small (by omega)]
      by_cases h52 : (4503599627370496 : Int) ≤ q
      · rw [if_pos h52, IntKind.wrap_u64]
        unfold pA
        omega
      · rw [if_neg h52]
        unfold pA
        omega
theorem upB_no (m : Int) (a b : Bool) : upB m a b false false = false := by
  unfold upB
  repeat' split
  all_goals first | rfl | (cases a <;> rfl)
def swM (m : Int) : Int := if m = 3 then 4 else if m = 4 then 3 else m
theorem upB_sw (m : Int) (a b c d : Bool) : upB (swM m) (!a) b c d = upB m a b c d := by
  unfold upB swM
  by_cases h3 : m = 3
  · subst h3; simp
  · by_cases h4 : m = 4
    · subst h4; simp
    · simp [h3, h4]
theorem overP_sw (m : Int) (a : Bool) : ∃ A, 0 ≤ A ∧ A ≤ 9218868437227405312 ∧ overP a m = A + sg a ∧ overP (!a) (swM m) = A + sg (!a) := by
  refine ⟨if m = 2 ∨ (m = 3 ∧ a = true) ∨ (m = 4 ∧ a = false) then 9218868437227405311 else 9218868437227405312, by split <;> omega, by split <;> omega, rfl, ?_⟩
  unfold overP swM
  congr 1
  by_cases h3 : m = 3
  · subst h3; simp
  · by_cases h4 : m = 4
    · subst h4; simp
    · simp [h3, h4]
theorem rTo_sw (mi : Bool) (x : Int) (s : Nat) (n m : Int) : rTo (!mi) x s n (swM m) = rTo mi x s n m := by unfold rTo; rw [upB_sw]
theorem rFlag_sw (mi : Bool) (x : Int) (s : Nat) (m : Int) : rFlag (!mi) x s (swM m) = rFlag mi x s m := by unfold rFlag rTiny; rw [rTo_sw]
theorem PQ_sw (mi : Bool) (x : Int) (s : Nat) (m : Int) : PQ (!mi) x s (swM m) = PQ mi x s m := by unfold PQ uu; rw [upB_sw]
theorem PQ_ge (mi : Bool) (x : Int) (s : Nat) (m : Int) : 0 ≤ PQ mi x s m := by unfold PQ; have := rN_ge x s; omega
theorem round_sw (mi : Bool) (x : Int) (s : Nat) (m : Int) : ∃ A f, 0 ≤ A ∧ A ≤ 9218868437227405312 ∧ rRound mi x s m = (A + sg mi, f) ∧ rRound (!mi) x s (swM m) = (A + sg (!mi), f) := by
  by_cases hs : s = 0
  · refine ⟨0, 0, by omega, by omega, ?_, ?_⟩ <;> (unfold rRound; rw [if_pos hs, Int.zero_add])
  · rw [round_eq _ _ _ _ hs, round_eq _ _ _ _ hs, PQ_sw, rFlag_sw]
    have := PQ_ge mi x s m
    split
    · obtain ⟨A, h0, h1, h2, h3⟩ := overP_sw m mi
      exact ⟨A, 20, h0, h1, by rw [h2], by rw [h3]⟩
    · exact ⟨_, _, this, by omega, rfl, rfl⟩
theorem rFlag_cases (mi : Bool) (x : Int) (s : Nat) (m : Int) : rFlag mi x s m = 0 ∧ rOdd s x (rN x s) = false ∨ (rFlag mi x s m = 16 ∨ rFlag mi x s m = 24) ∧ rOdd s x (rN x s) = true := by
  unfold rFlag
  cases h : rOdd s x (rN x s)
  · left; simp
  · right
    simp only [if_true, and_true]
    split <;> simp
theorem uu_exact (mi : Bool) (x : Int) (s : Nat) (m : Int) (h : rOdd s x (rN x s) = false) : uu mi x s m = 0 := by
  unfold rOdd at h
  unfold uu
  rw [(Bool.or_eq_false_iff.1 h).1, (Bool.or_eq_false_iff.1 h).2, upB_no]
  rfl
end Go.Proofs.Ythcgeekibomhiaa
end
section
namespace Go.Proofs.Ythcgeekibomhiaa
set_option linter.unusedVariables false
set_option linter.unusedSimpArgs false
open Go.RowKit
theorem blen_div {s k : Nat} (h : s / 2 ^ k ≠ 0) : blen s = blen (s / 2 ^ k) + k := by rw [blen_shift s k h, Nat.add_comm]
def SameAt (x1 : Int) (s1 : Nat) (x2 : Int) (s2 : Nat) (n : Int) : Prop := cutQ s1 x1 n = cutQ s2 x2 n ∧ cutH s1 x1 n = cutH s2 x2 n ∧ cutR s1 x1 n = cutR s2 x2 n
theorem round_same {x1 x2 : Int} {s1 s2 : Nat} (hz : s1 = 0 ↔ s2 = 0) (hb : s1 ≠ 0 → x1 + (blen s1 : Int) = x2 + (blen s2 : Int))
    (h : s1 ≠ 0 → ∀ n, x1 + (blen s1 : Int) - 53 ≤ n → SameAt x1 s1 x2 s2 n) (mi : Bool) (m : Int) : rRound mi x1 s1 m = rRound mi x2 s2 m := by
  by_cases z : s1 = 0
  · unfold rRound; rw [if_pos z, if_pos (hz.1 z)]
  · have z2 : s2 ≠ 0 := fun g => z (hz.2 g)
    have hb := hb z
    have hN : rN x2 s2 = rN x1 s1 := by unfold rN rTop; rw [hb]
    have hn : x1 + (blen s1 : Int) - 53 ≤ rN x1 s1 := by rcases rN_cases x1 s1 with g | g <;> omega
    obtain ⟨a1, a2, a3⟩ := h z _ hn
    obtain ⟨b1, b2, b3⟩ := h z (x1 + (blen s1 : Int) - 53) (Int.le_refl _)
    have ht : rTiny mi x1 s1 (rTop x1 s1) m = rTiny mi x2 s2 (rTop x2 s2) m := by
      unfold rTiny
      rw [show rTop x2 s2 = rTop x1 s1 by unfold rTop; rw [hb]]
      have e : rTo mi x1 s1 (rTop x1 s1 - 53) m = rTo mi x2 s2 (rTop x1 s1 - 53) m := by
        unfold rTo rTop
        rw [b1, b2, b3]
      rw [e]
    have hP : PQ mi x1 s1 m = PQ mi x2 s2 m := by unfold PQ uu; rw [hN, a1, a2, a3]
    have hF : rFlag mi x1 s1 m = rFlag mi x2 s2 m := by unfold rFlag rOdd; rw [hN, a2, a3, ht]
    rw [round_eq _ _ _ _ z, round_eq _ _ _ _ z2, hP, hF]
theorem round_scale (mi : Bool) (x : Int) (s k : Nat) (m : Int) : rRound mi (x - k) (s * 2 ^ k) m = rRound mi x s m := by
  have hk := Nat.two_pow_pos k
  refine round_same ⟨fun h => ?_, fun h => by rw [h, Nat.zero_mul]⟩ (fun h => ?_) (fun h n hn => ?_) mi m
  · rcases Nat.mul_eq_zero.1 h with g | g
    · exact g
    · omega
  · have : s ≠ 0 := fun g => h (by rw [g, Nat.zero_mul])
    rw [blen_mul_pow this]; omega
  · have hs : s ≠ 0 := fun g => h (by rw [g, Nat.zero_mul])
    rw [blen_mul_pow hs] at hn
    unfold SameAt cutQ cutH cutR
    by_cases c1 : n ≤ x - k
    · rw [if_pos c1, if_pos c1, if_pos c1, if_pos (by omega), if_pos (by omega), if_pos (by omega), Nat.mul_assoc, ← Nat.pow_add, show k + (x - (k : Int) - n).toNat = (x - n).toNat by omega]
      exact ⟨rfl, rfl, rfl⟩
    · rw [if_neg c1, if_neg c1, if_neg c1]
      by_cases c2 : n ≤ x
      · obtain ⟨j, hj⟩ : ∃ j, (n - (x - (k : Int))).toNat = j + 1 := ⟨(n - (x - (k : Int))).toNat - 1, by omega⟩
        have hkj : k = (x - n).toNat + (j + 1) := by omega
        have hl := blen_lt s
        have hlt : s * 2 ^ (x - n).toNat < T256 := by
          have h1 : s * 2 ^ (x - n).toNat < 2 ^ (blen s + (x - n).toNat) := by rw [Nat.pow_add]; exact Nat.mul_lt_mul_of_pos_right hl (Nat.two_pow_pos _)
          refine Nat.lt_of_lt_of_le h1 ?_
          rw [T256_eq]
          exact Nat.pow_le_pow_right (by omega) (by omega)
        rw [if_pos c2, if_pos c2, if_pos c2, hj, show (n - (x - (k : Int)) - 1).toNat = j by omega, Nat.mod_eq_of_lt hlt]
        have e1 : s * 2 ^ k = s * 2 ^ (x - n).toNat * 2 * 2 ^ j := by rw [hkj, Nat.pow_add, Nat.pow_succ]; simp only [Nat.mul_assoc, Nat.mul_comm 2]
        have e2 : s * 2 ^ k = s * 2 ^ (x - n).toNat * 2 ^ (j + 1) := by rw [e1, Nat.pow_succ, Nat.mul_assoc _ 2, Nat.mul_comm 2]
        refine ⟨by rw [e2]; exact Nat.mul_div_cancel _ (Nat.two_pow_pos _), ?_, ?_⟩
        · rw [e1, Nat.mul_div_cancel _ (Nat.two_pow_pos _), Nat.mul_mod_left]; rfl
        · rw [e1, Nat.mul_mod_left]; rfl
      · obtain ⟨j, hj⟩ : ∃ j, (n - x).toNat = j + 1 := ⟨(n - x).toNat - 1, by omega⟩
        rw [if_neg c2, if_neg c2, if_neg c2, hj, show (n - x - 1).toNat = j by omega, show (n - (x - (k : Int))).toNat = j + 1 + k by omega, show (n - (x - (k : Int)) - 1).toNat = j + k by omega]
        rw [Nat.pow_add, Nat.pow_add 2 j k, Nat.mul_div_mul_right _ _ hk, Nat.mul_div_mul_right _ _ hk, Nat.mul_mod_mul_right]
        refine ⟨rfl, rfl, ?_⟩
        rw [Bool.eq_iff_iff]
        simp only [decide_eq_true_eq, ne_eq, Nat.mul_eq_zero]
        omega
theorem round_sticky (mi : Bool) (x : Int) (s j : Nat) (m : Int) (hq : 2 ^ 54 ≤ s / 2 ^ (j + 1)) : rRound mi (x + j) (2 * (s / 2 ^ (j + 1)) + if s % 2 ^ (j + 1) ≠ 0 then 1 else 0) m = rRound mi x s m := by
  generalize hqq : s / 2 ^ (j + 1) = q at *
  generalize ht : (if s % 2 ^ (j + 1) ≠ 0 then 1 else 0) = t
  have ht1 : t ≤ 1 := by rw [← ht]; split <;> omega
  have htz : t = 0 ↔ s % 2 ^ (j + 1) = 0 := by rw [← ht]; split <;> omega
  have hq0 : q ≠ 0 := by omega
  have b1 : blen s = blen q + (j + 1) := by rw [← hqq]; exact blen_div (by rw [hqq]; exact hq0)
  have b2 : blen (2 * q + t) = blen q + 1 := by
    have := blen_div (s := 2 * q + t) (k := 1) (by rw [Nat.pow_one]; omega)
    rw [Nat.pow_one, show (2 * q + t) / 2 = q by omega] at this
    exact this
  have b3 : 55 ≤ blen q := by
    rcases Nat.lt_or_ge (blen q) 55 with g | g
    · have := blen_le_iff.1 (show blen q ≤ 54 by omega); omega
    · exact g
  have hs0 : s ≠ 0 := fun g => hq0 (by rw [← hqq, g, Nat.zero_div])
  refine round_same ⟨fun h => by omega, fun h => absurd h hs0⟩ (fun _ => by rw [b1, b2]; omega) (fun _ n hn => ?_) mi m
  rw [b2] at hn
  obtain ⟨i, hi⟩ : ∃ i, (n - (x + (j : Int))).toNat = i + 2 := ⟨(n - (x + (j : Int))).toNat - 2, by omega⟩
  have e1 : (n - (x + (j : Int)) - 1).toNat = i + 1 := by omega
  have e2 : (n - x).toNat = (j + 1) + (i + 1) := by omega
  have e3 : (n - x - 1).toNat = (j + 1) + i := by omega
  unfold SameAt cutQ cutH cutR
  rw [if_neg (by omega), if_neg (by omega), if_neg (by omega), if_neg (by omega), if_neg (by omega), if_neg (by omega), hi, e1, e2, e3]
  have d1 : ∀ i, (2 * q + t) / 2 ^ (i + 1) = q / 2 ^ i := fun i => by rw [Nat.pow_succ', ← Nat.div_div_eq_div_mul, show (2 * q + t) / 2 = q by omega]
  have d2 : ∀ i, s / 2 ^ ((j + 1) + i) = q / 2 ^ i := fun i => by rw [Nat.pow_add, ← Nat.div_div_eq_div_mul, hqq]
  refine ⟨by rw [d1, d2], by rw [d1, d2], ?_⟩
  have m1 : (2 * q + t) % 2 ^ (i + 1) = t + 2 * (q % 2 ^ i) := by rw [Nat.pow_succ', Nat.mod_mul, show (2 * q + t) / 2 = q by omega]; omega
  have m2 : s % 2 ^ ((j + 1) + i) = s % 2 ^ (j + 1) + 2 ^ (j + 1) * (q % 2 ^ i) := by rw [Nat.pow_add, Nat.mod_mul, hqq]
  rw [m1, m2, Bool.eq_iff_iff]
  have hp := Nat.two_pow_pos (j + 1)
  simp only [decide_eq_true_eq, ne_eq, Nat.add_eq_zero_iff, Nat.mul_eq_zero]
  omega
theorem round_far (mi : Bool) {x : Int} {s : Nat} (m : Int) (hs : s ≠ 0) (h : x + (blen s : Int) < -1200) : rRound mi x s m = rRound mi (-1300) 1 m := by
  have key : ∀ (x : Int) (s : Nat), s ≠ 0 → x + (blen s : Int) < -1200 → rN x s = -1074 ∧ SameAt x s (-1300) 1 (-1074) ∧ rTiny mi x s (rTop x s) m = true := by
    intro x s hs h
    have hp := blen_pos hs
    have hl := blen_lt s
    have hN : rN x s = -1074 := by rcases rN_cases x s with g | g <;> omega
    refine ⟨hN, ?_, by unfold rTiny rTop; rw [if_neg (by omega), if_pos (by omega)]⟩
    have lt1 : ∀ j, blen s ≤ j → s < 2 ^ j := fun j hj => Nat.lt_of_lt_of_le hl (Nat.pow_le_pow_right (by omega) hj)
    unfold SameAt cutQ cutH cutR
    rw [if_neg (by omega), if_neg (by omega), if_neg (by omega), if_neg (by omega), if_neg (by omega), if_neg (by omega)]
    rw [Nat.div_eq_of_lt (lt1 _ (by omega)), Nat.div_eq_of_lt (lt1 (-1074 - x - 1).toNat (by omega)), Nat.mod_eq_of_lt (lt1 (-1074 - x - 1).toNat (by omega)), decide_eq_true hs]
    decide
  obtain ⟨a1, a2, a3⟩ := key x s hs h
  obtain ⟨b1, b2, b3⟩ := key (-1300) 1 (by omega) (by decide)
  have hP : PQ mi x s m = PQ mi (-1300) 1 m := by unfold PQ uu; rw [a1, b1, a2.1, a2.2.1, a2.2.2]
  have hF : rFlag mi x s m = rFlag mi (-1300) 1 m := by unfold rFlag rOdd; rw [a1, b1, a2.2.1, a2.2.2, a3, b3]
  rw [round_eq _ _ _ _ hs, round_eq _ _ _ _ (by omega), hP, hF]
end Go.Proofs.Ythcgeekibomhiaa
end
section
namespace Go.Proofs.Ythcgeekibomhiaa
set_option linter.unusedVariables false
set_option linter.unusedSimpArgs false
open Go.RowKit
theorem pS_T (a : Int) : (pS a).toNat < T256 := by have := pS_bd a; rw [T256_eq]; omega
theorem U_pS (a : Int) : U (pS a) := by have := pS_bd a; unfold U; omega
theorem U_wf {a : Int} (h : (Lit.int .u64 a).wf = true) : U a := by
  unfold Lit.wf at h
  simp only [Bool.and_eq_true, decide_eq_true_eq] at h
  exact h
theorem zero_iff {a : Int} : pA a = 0 ↔ pC a = 0 := by
  have hE := pE_bd a
  have hF := pF_bd a
  have e : pA a = pE a * 4503599627370496 + pF a := by unfold pA pE pF; omega
  unfold pC
  rw [e]
  constructor
  · intro h
    rw [if_neg (by omega), if_neg (by omega), if_neg (by omega)]
  · intro h
    split at h
    · split at h; omega; split at h <;> omega
    · split at h; omega; split at h <;> omega
theorem inf_iff {a : Int} : pA a = 9218868437227405312 ↔ pC a = 3 := by
  have hE := pE_bd a
  have hF := pF_bd a
  have e : pA a = pE a * 4503599627370496 + pF a := by unfold pA pE pF; omega
  unfold pC
  rw [e]
  constructor
  · intro h
    rw [if_pos (by omega), if_pos (by omega)]
  · intro h
    split at h
    · split at h; omega; split at h <;> omega
    · split at h; omega; split at h <;> omega
def tU (mi : Bool) (e : Int) (s : Nat) (n m : Int) : Bool := upB m mi (decide (s / 2 ^ (n - e).toNat % 2 = 1)) (cutH s e n) (cutR s e n)
def tQ (mi : Bool) (e : Int) (s : Nat) (n m : Int) : Nat := if n ≤ e then s * 2 ^ (e - n).toNat else s / 2 ^ (n - e).toNat + if tU mi e s n m = true then 1 else 0
theorem mod_two_pow (s k : Nat) : s % 2 ^ (k + 1) = s % 2 ^ k + 2 ^ k * (s / 2 ^ k % 2) := by rw [Nat.pow_succ, Nat.mod_mul]
theorem odd_of (s : Nat) {e n : Int} (h : e < n) : rOdd s e n = decide (s % 2 ^ (n - e).toNat ≠ 0) := by
  unfold rOdd cutH cutR
  rw [if_neg (by omega), if_neg (by omega)]
  obtain ⟨k, hk⟩ : ∃ k, (n - e).toNat = k + 1 := ⟨(n - e).toNat - 1, by omega⟩
  rw [hk, show (n - e - 1).toNat = k by omega, mod_two_pow]
  have hp := Nat.two_pow_pos k
  have h2 : s / 2 ^ k % 2 = 0 ∨ s / 2 ^ k % 2 = 1 := by omega
  rw [Bool.eq_iff_iff]
  simp only [Bool.or_eq_true, decide_eq_true_eq]
  rcases h2 with h2 | h2 <;> rw [h2] <;> omega
theorem upB_lost (m : Int) (mi od H R : Bool) (h : (H || R) = true) (hm : m = 0 ∨ m = 1 ∨ m = 2 ∨ m = 3 ∨ m = 4) : (if m = 1 then H else if m = 2 then false else if m = 3 then !mi else if m = 4 then mi else H && (!(H && !R) || od)) = upB m mi od H R := by
  unfold upB
  rcases hm with rfl | rfl | rfl | rfl | rfl <;> cases H <;> cases R <;> cases mi <;> cases od <;> simp at *
theorem blen_53 {q : Nat} (h1 : 4503599627370496 ≤ q) (h2 : q < 9007199254740992) : blen q = 53 := blen_eq (k := 52) h1 h2
theorem blen_54 : blen 9007199254740992 = 54 := by decide
theorem tQ_rN (mi : Bool) (e : Int) (s : Nat) (m : Int) (hs : s ≠ 0) : tQ mi e s (rN e s) m = cutQ s e (rN e s) + uu mi e s m := by
  by_cases c : rN e s ≤ e
  · have : rOdd s e (rN e s) = false := by unfold rOdd cutH cutR; rw [if_pos c, if_pos c]; rfl
    rw [uu_exact _ _ _ _ this, cutQ_no_mod hs c]
    unfold tQ
    rw [if_pos c, Nat.add_zero]
  · unfold tQ uu tU cutQ
    rw [if_neg c, if_neg c]
theorem blen_top {s k : Nat} (hs : s ≠ 0) (h : k < blen s) : 2 ^ (blen s - 1 - k) ≤ s / 2 ^ k := by
  rw [Nat.le_div_iff_mul_le (Nat.two_pow_pos _), ← Nat.pow_add, show blen s - 1 - k + k = blen s - 1 by omega]
  exact blen_le hs
theorem tQ_53 (mi : Bool) (e : Int) (s : Nat) (m : Int) (hs : s ≠ 0) : 4503599627370496 ≤ tQ mi e s (e + (blen s : Int) - 53) m ∧ tQ mi e s (e + (blen s : Int) - 53) m ≤ 9007199254740992 ∧ rTo mi e s (e + (blen s : Int) - 53) m = tQ mi e s (e + (blen s : Int) - 53) m := by
  have h1 := blen_le hs
  have h2 := blen_lt s
  have h3 := blen_pos hs
  by_cases c : e + (blen s : Int) - 53 ≤ e
  · have hk : (e - (e + (blen s : Int) - 53)).toNat = 53 - blen s := by omega
    have g1 : 2 ^ 52 ≤ s * 2 ^ (53 - blen s) := by
      refine Nat.le_trans ?_ (Nat.mul_le_mul_right _ h1)
      rw [← Nat.pow_add]; exact Nat.pow_le_pow_right (by omega) (by omega)
    have g2 : s * 2 ^ (53 - blen s) < 2 ^ 53 := by
      refine Nat.lt_of_lt_of_le (Nat.mul_lt_mul_of_pos_right h2 (Nat.two_pow_pos _)) ?_
      rw [← Nat.pow_add]; exact Nat.pow_le_pow_right (by omega) (by omega)
    have e1 : tQ mi e s (e + (blen s : Int) - 53) m = s * 2 ^ (53 - blen s) := by unfold tQ; rw [if_pos c, hk]
    rw [e1]
    refine ⟨g1, Nat.le_of_lt g2, ?_⟩
    have hh : cutH s e (e + (blen s : Int) - 53) = false ∧ cutR s e (e + (blen s : Int) - 53) = false := by unfold cutH cutR; rw [if_pos c, if_pos c]; exact ⟨rfl, rfl⟩
    unfold rTo
    rw [hh.1, hh.2, upB_no]
    unfold cutQ
    rw [if_pos c, hk, if_neg (by decide), Nat.add_zero, Nat.mod_mod, T256_eq]
    exact Nat.mod_eq_of_lt (Nat.lt_trans g2 (by decide))
  · have hk : (e + (blen s : Int) - 53 - e).toNat = blen s - 53 := by omega
    have g1 : 2 ^ 52 ≤ s / 2 ^ (blen s - 53) := by
      have := blen_top hs (show blen s - 53 < blen s by omega)
      rwa [show blen s - 1 - (blen s - 53) = 52 by omega] at this
    have g2 : s / 2 ^ (blen s - 53) < 2 ^ 53 := by
      refine Nat.div_lt_of_lt_mul ?_
      rw [← Nat.pow_add, show blen s - 53 + 53 = blen s by omega]; exact h2
    have e1 : tQ mi e s (e + (blen s : Int) - 53) m = s / 2 ^ (blen s - 53) + if tU mi e s (e + (blen s : Int) - 53) m = true then 1 else 0 := by unfold tQ; rw [if_neg c, hk]
    have hu : (if tU mi e s (e + (blen s : Int) - 53) m = true then 1 else 0) ≤ 1 := by split <;> omega
    rw [e1]
    rw [show (2 : Nat) ^ 52 = 4503599627370496 from rfl] at g1
    rw [show (2 : Nat) ^ 53 = 9007199254740992 from rfl] at g2
    refine ⟨by omega, by omega, ?_⟩
    unfold rTo tU cutQ
    rw [if_neg c, hk]
    refine Nat.mod_eq_of_lt ?_
    unfold tU at hu
    rw [hk] at hu
    unfold T256
    omega
theorem tiny_iff (mi : Bool) (e : Int) (s : Nat) (m : Int) (hs : s ≠ 0) : ((blen (tQ mi e s (e + (blen s : Int) - 53) m) : Int) + (e + (blen s : Int)) - 53 ≤ -1022) ↔ rTiny mi e s (rTop e s) m = true := by
  obtain ⟨h1, h2, h3⟩ := tQ_53 mi e s m hs
  generalize hf : tQ mi e s (e + (blen s : Int) - 53) m = f at *
  have hb : blen f = 53 ∨ blen f = 54 := by
    rcases Nat.lt_or_ge f 9007199254740992 with g | g
    · left; exact blen_53 h1 g
    · right; have : f = 9007199254740992 := by omega
      subst this; exact blen_54
  unfold rTiny rTop
  rw [h3]
  by_cases c1 : -1021 ≤ e + (blen s : Int)
  · rw [if_pos c1]; simp; omega
  · rw [if_neg c1]
    by_cases c2 : e + (blen s : Int) < -1022
    · rw [if_pos c2]; simp; omega
    · rw [if_neg c2, decide_eq_true_iff]; omega
def md (m : Int) : Int := if m < 0 ∨ 4 < m then 0 else m
theorem md_in (m : Int) : md m = 0 ∨ md m = 1 ∨ md m = 2 ∨ md m = 3 ∨ md m = 4 := by unfold md; split <;> omega
theorem upB_md (m : Int) (a b c d : Bool) : upB (md m) a b c d = upB m a b c d := by
  unfold md
  split
  · unfold upB
    rw [if_neg (by omega), if_neg (by omega), if_neg (by omega), if_neg (by omega), if_neg (by omega), if_neg (by omega), if_neg (by omega), if_neg (by omega)]
  · rfl
theorem overP_md (a : Bool) (m : Int) : overP a (md m) = overP a m := by
  unfold md
  split
  · unfold overP
    rw [if_neg (by omega), if_neg (by omega)]
  · rfl
theorem rTo_md (mi : Bool) (x : Int) (s : Nat) (n m : Int) : rTo mi x s n (md m) = rTo mi x s n m := by unfold rTo; rw [upB_md]
theorem round_md (mi : Bool) (x : Int) (s : Nat) (m : Int) : rRound mi x s (md m) = rRound mi x s m := by
  unfold rRound rN2 rQ2 rQ rFlag rTiny
  simp only [rTo_md, overP_md]
end Go.Proofs.Ythcgeekibomhiaa
end
section
namespace Go.Proofs.Ythcgeekibomhiaa
set_option linter.unusedVariables false
set_option linter.unusedSimpArgs false
open Go.RowKit
theorem pA_EF (p : Int) : pA p = pE p * 4503599627370496 + pF p := by unfold pA pE pF; omega
theorem EF_inj {a b : Int} (h : pA a = pA b) : pE a = pE b ∧ pF a = pF b := by
  rw [pA_EF, pA_EF] at h
  have ea := pE_bd a
  have eb := pE_bd b
  have fa := pF_bd a
  have fb := pF_bd b
  omega
theorem sgAA (A : Int) (b : Bool) : pA (A + sg b) = pA A := by
  unfold pA
  cases b <;> simp only [sg] <;> simp <;> omega
theorem C_same {a b : Int} (h : pA a = pA b) : pC a = pC b ∧ pX a = pX b ∧ pS a = pS b := by
  obtain ⟨h1, h2⟩ := EF_inj h
  unfold pC pX pS
  rw [h1, h2]
  exact ⟨rfl, rfl, rfl⟩
theorem sgU {A : Int} (h0 : 0 ≤ A) (h1 : A < 9223372036854775808) (b : Bool) : U (A + sg b) := by have := sg_bd b; unfold U; omega
end Go.Proofs.Ythcgeekibomhiaa
end
section
namespace Go.Proofs.Ythcgeekibomhiaa
set_option linter.unusedVariables false
set_option linter.unusedSimpArgs false
open Go.RowKit
def sSum (mx : Bool) (ex : Int) (sx : Nat) (my : Bool) (ey : Int) (sy : Nat) (m : Int) : Bool × Int × Nat :=
  if sx = 0 then (if sy = 0 then (if mx = my then mx else decide (m = 4), ex, 0) else (my, ey, sy))
  else if sy = 0 then (mx, ex, sx)
  else if ey ≤ ex then
    (if mx = my then (my, ey, sx * 2 ^ (ex - ey).toNat + sy) else if sx * 2 ^ (ex - ey).toNat = sy then (decide (m = 4), ey, 0) else if sy < sx * 2 ^ (ex - ey).toNat then (mx, ey, sx * 2 ^ (ex - ey).toNat - sy) else (my, ey, sy - sx * 2 ^ (ex - ey).toNat))
  else
    (if mx = my then (mx, ex, sy * 2 ^ (ey - ex).toNat + sx) else if sy * 2 ^ (ey - ex).toNat = sx then (decide (m = 4), ex, 0) else if sx < sy * 2 ^ (ey - ex).toNat then (my, ex, sy * 2 ^ (ey - ex).toNat - sx) else (mx, ex, sx - sy * 2 ^ (ey - ex).toNat))
def rNum (mi : Bool) (e : Int) (s : Nat) (o : Bool) (m : Int) : Int × Int := rRound mi (rX o e) (rS o s) m
theorem rNum_false (mi : Bool) (e : Int) (s : Nat) (m : Int) : rNum mi e s false m = rRound mi e s m := rfl
theorem rNum_cut (mi : Bool) (e : Int) (s sh : Nat) (m : Int) (hq : 2 ^ 54 ≤ s / 2 ^ sh) : rNum mi (e + sh) (s / 2 ^ sh) (decide (s % 2 ^ sh ≠ 0)) m = rRound mi e s m := by
  by_cases z : s % 2 ^ sh = 0
  · rw [decide_eq_false (by omega), rNum_false]
    have h := round_scale mi (e + sh) (s / 2 ^ sh) sh m
    rw [show e + (sh : Int) - (sh : Int) = e by omega, Nat.div_mul_cancel (Nat.dvd_of_mod_eq_zero z)] at h
    exact h.symm
  · obtain ⟨j, hj⟩ : ∃ j, sh = j + 1 := by
      cases sh with
      | zero => rw [Nat.pow_zero, Nat.mod_one] at z; exact absurd rfl z
      | succ j => exact ⟨j, rfl⟩
    subst hj
    have h := round_sticky mi e s j m hq
    rw [if_pos z] at h
    rw [decide_eq_true z, ← h]
    unfold rNum rX rS
    rw [if_pos rfl, if_pos rfl, show e + ((j + 1 : Nat) : Int) - 1 = e + (j : Int) by omega]
theorem beside_add {S y sh : Nat} : (S * 2 ^ sh + y) / 2 ^ sh = S + y / 2 ^ sh ∧ (S * 2 ^ sh + y) % 2 ^ sh = y % 2 ^ sh := by
  have hp := Nat.two_pow_pos sh
  refine ⟨?_, ?_⟩
  · rw [Nat.add_comm, Nat.add_mul_div_right _ _ hp, Nat.add_comm]
  · rw [Nat.add_comm, Nat.add_mul_mod_self_right]
theorem beside_sub {S y sh : Nat} (h : y / 2 ^ sh < S) : (S * 2 ^ sh - y) / 2 ^ sh = S - y / 2 ^ sh - (if y % 2 ^ sh ≠ 0 then 1 else 0) ∧ ((S * 2 ^ sh - y) % 2 ^ sh ≠ 0 ↔ y % 2 ^ sh ≠ 0) := by
  have hp := Nat.two_pow_pos sh
  have hdm := Nat.div_add_mod y (2 ^ sh)
  have hml := Nat.mod_lt y hp
  generalize hq : y / 2 ^ sh = q at *
  generalize hr : y % 2 ^ sh = r at *
  generalize hP : 2 ^ sh = P at *
  obtain ⟨T, hT⟩ : ∃ T, S = q + 1 + T := ⟨S - q - 1, by omega⟩
  have e1 : S * P = P * q + P + T * P := by rw [hT, Nat.add_mul, Nat.add_mul, Nat.one_mul, Nat.mul_comm q P]
  by_cases z : r = 0
  · subst z
    have e : S * P - y = (T + 1) * P := by rw [Nat.add_mul, Nat.one_mul]; omega
    rw [e, Nat.mul_div_cancel _ hp, Nat.mul_mod_left, if_neg (by omega)]
    exact ⟨by omega, Iff.rfl⟩
  · have e : S * P - y = T * P + (P - r) := by omega
    rw [e, if_pos z]
    refine ⟨?_, ?_⟩
    · rw [Nat.add_comm, Nat.add_mul_div_right _ _ hp, Nat.div_eq_of_lt (by omega)]; omega
    · rw [Nat.add_comm, Nat.add_mul_mod_self_right, Nat.mod_eq_of_lt (by omega)]
      omega
end Go.Proofs.Ythcgeekibomhiaa
end
section
namespace Go.Proofs.Ythcgeekibomhiaa
set_option linter.unusedVariables false
set_option linter.unusedSimpArgs false
open Go.RowKit
theorem sSum_bd {mx my : Bool} {ex ey : Int} {sx sy N : Nat} (m : Int) (hx : sx < 2 ^ 128) (hy : sy < 2 ^ 128) (f0 : -5000 ≤ ex) (f1 : ex ≤ 5000) (g0 : -5000 ≤ ey) (g1 : ey ≤ 5000) (hN : 10000 ≤ N) :
    -5000 ≤ (sSum mx ex sx my ey sy m).2.1 ∧ (sSum mx ex sx my ey sy m).2.1 ≤ 5000 ∧ (sSum mx ex sx my ey sy m).2.2 < 2 * (2 ^ 128 * 2 ^ N) := by
  have P : ∀ (s n : Nat), s < 2 ^ 128 → n ≤ N → s * 2 ^ n < 2 ^ 128 * 2 ^ N := fun s n h hn => Nat.lt_of_lt_of_le ((Nat.mul_lt_mul_right (Nat.pow_pos (by decide))).2 h) (Nat.mul_le_mul_left _ (Nat.pow_le_pow_right (by decide) hn))
  have p1 := P sx (ex - ey).toNat hx (by omega)
  have p2 := P sy (ey - ex).toNat hy (by omega)
  have q1 := P sx 0 hx (by omega)
  have q2 := P sy 0 hy (by omega)
  rw [Nat.pow_zero, Nat.mul_one] at q1 q2
  clear P hx hy
  unfold sSum
  generalize 2 ^ 128 * 2 ^ N = Z at *
  generalize sx * 2 ^ (ex - ey).toNat = A at *
  generalize sy * 2 ^ (ey - ex).toNat = C at *
  repeat' split
  all_goals (dsimp only; refine ⟨?_, ?_, ?_⟩ <;> omega)
end Go.Proofs.Ythcgeekibomhiaa
end
section
namespace Go.Proofs.Ythcgeekibomhiaa
set_option linter.unusedVariables false
set_option linter.unusedSimpArgs false
open Go.RowKit Go.Proofs.YthcgeekibomhiaaW.PrintWords
def nv : List Int → Nat
  | [] => 0
  | d :: l => d.toNat + 65536 * nv l
def nok (l : List Int) : Prop := ∀ d ∈ l, 0 ≤ d ∧ d < 65536
def ln (n : Nat) : List Int := if h : n = 0 then [] else ((n % 65536 : Nat) : Int) :: ln (n / 65536)
termination_by n
decreasing_by omega
theorem ln_zero : ln 0 = [] := by rw [ln]; rfl
theorem ln_pos {n : Nat} (h : n ≠ 0) : ln n = ((n % 65536 : Nat) : Int) :: ln (n / 65536) := by rw [ln, dif_neg h]
theorem nv_ln (n : Nat) : nv (ln n) = n := by
  induction n using Nat.strongRecOn with
  | _ n ih =>
    by_cases h : n = 0
    · subst h; rw [ln_zero]; rfl
    · rw [ln_pos h]
      show ((n % 65536 : Nat) : Int).toNat + 65536 * nv (ln (n / 65536)) = n
      rw [ih _ (by omega)]
      omega
theorem nok_nil : nok [] := fun d h => by cases h
theorem nok_cons {d : Int} {l : List Int} (h0 : 0 ≤ d) (h1 : d < 65536) (h : nok l) : nok (d :: l) := fun e he => by
  cases he with
  | head => exact ⟨h0, h1⟩
  | tail _ he => exact h e he
theorem nok_append {a b : List Int} (ha : nok a) (hb : nok b) : nok (a ++ b) := fun d hd => by
  rcases List.mem_append.1 hd with h | h
  · exact ha d h
  · exact hb d h
theorem nok_one {d : Int} (h0 : 0 ≤ d) (h1 : d < 65536) : nok [d] := nok_cons h0 h1 nok_nil
theorem nok_ln (n : Nat) : nok (ln n) := by
  induction n using Nat.strongRecOn with
  | _ n ih =>
    by_cases h : n = 0
    · subst h; rw [ln_zero]; exact nok_nil
    · rw [ln_pos h]
      exact nok_cons (by omega) (by omega) (ih _ (by omega))
theorem nv_append (a b : List Int) : nv (a ++ b) = nv a + 65536 ^ a.length * nv b := by
  induction a with
  | nil => simp [nv]
  | cons d a ih =>
    show d.toNat + 65536 * nv (a ++ b) = d.toNat + 65536 * nv a + 65536 ^ (a.length + 1) * nv b
    rw [ih, Nat.mul_add, Nat.pow_succ, Nat.mul_comm (65536 ^ a.length) 65536, Nat.mul_assoc, Nat.add_assoc]
theorem nv_one (d : Int) : nv [d] = d.toNat := by simp [nv]
theorem nv_lt {l : List Int} (h : nok l) : nv l < 65536 ^ l.length := by
  induction l with
  | nil => simp [nv]
  | cons d l ih =>
    have h1 := ih (fun e he => h e (List.mem_cons_of_mem _ he))
    have h2 := h d (List.mem_cons_self ..)
    show d.toNat + 65536 * nv l < 65536 ^ (l.length + 1)
    rw [Nat.pow_succ]
    omega
theorem ln_length {n L : Nat} (h : n < 65536 ^ L) : (ln n).length ≤ L := by
  induction L generalizing n with
  | zero => rw [Nat.pow_zero] at h; have : n = 0 := by omega
            subst this; rw [ln_zero]; exact Nat.le_refl _
  | succ L ih =>
    by_cases h0 : n = 0
    · subst h0; rw [ln_zero]; exact Nat.zero_le _
    · rw [ln_pos h0]
      rw [Nat.pow_succ] at h
      have := ih (n := n / 65536) (by omega)
      simp only [List.length_cons]
      omega
theorem p16 (i : Nat) : 0 < 65536 ^ i := Nat.pow_pos (by decide)
theorem ln_lt_iff {n i : Nat} : i < (ln n).length ↔ 65536 ^ i ≤ n := by
  constructor
  · intro h
    rcases Nat.lt_or_ge n (65536 ^ i) with h1 | h1
    · have := ln_length h1; omega
    · exact h1
  · intro h
    rcases Nat.lt_or_ge i (ln n).length with h1 | h1
    · exact h1
    · have h2 := nv_lt (nok_ln n)
      rw [nv_ln] at h2
      have := Nat.pow_le_pow_right (n := 65536) (by omega) h1
      omega
theorem canon {t : List Int} (h : nok t) (hl : t = [] ∨ ∃ a d, t = a ++ [d] ∧ d ≠ 0) : t = ln (nv t) := by
  induction t with
  | nil => show [] = ln 0; rw [ln_zero]
  | cons d t ih =>
    have hd := h d (List.mem_cons_self ..)
    have ht : nok t := fun e he => h e (List.mem_cons_of_mem _ he)
    obtain ⟨a, e, he, hne⟩ := hl.resolve_left (by simp)
    cases a with
    | nil =>
      simp only [List.nil_append, List.cons.injEq] at he
      obtain ⟨rfl, rfl⟩ := he
      rw [nv_one, ln_pos (by omega), show d.toNat / 65536 = 0 by omega, ln_zero]
      congr 1
      omega
    | cons b a =>
      simp only [List.cons_append, List.cons.injEq] at he
      obtain ⟨rfl, rfl⟩ := he
      have h2 := ih ht (.inr ⟨a, e, rfl, hne⟩)
      have h3 : nv (a ++ [e]) ≠ 0 := by
        intro h0
        rw [h0, ln_zero] at h2
        simp at h2
      show d :: (a ++ [e]) = ln (d.toNat + 65536 * nv (a ++ [e]))
      rw [ln_pos (by omega), show (d.toNat + 65536 * nv (a ++ [e])) / 65536 = nv (a ++ [e]) by omega, ← h2]
      congr 1
      omega
theorem getD_nv {l : List Int} (h : nok l) (i : Nat) : l.getD i 0 = ((nv l / 65536 ^ i % 65536 : Nat) : Int) := by
  induction l generalizing i with
  | nil => simp [nv]
  | cons d l ih =>
    have hd := h d (List.mem_cons_self ..)
    have hl : nok l := fun e he => h e (List.mem_cons_of_mem _ he)
    cases i with
    | zero =>
      show d = ((d.toNat + 65536 * nv l) / 65536 ^ 0 % 65536 : Nat)
      rw [Nat.pow_zero, Nat.div_one]
      omega
    | succ i =>
      show l.getD i 0 = ((d.toNat + 65536 * nv l) / 65536 ^ (i + 1) % 65536 : Nat)
      rw [ih hl i, Nat.pow_succ', ← Nat.div_div_eq_div_mul, show (d.toNat + 65536 * nv l) / 65536 = nv l by omega]
theorem rd_nv {l : List Int} (h : nok l) (i : Nat) : rd l (i : Int) = ((nv l / 65536 ^ i % 65536 : Nat) : Int) := by
  unfold rd
  rw [Int.toNat_natCast]
  exact getD_nv h i
theorem rd_ln (n i : Nat) : rd (ln n) (i : Int) = ((n / 65536 ^ i % 65536 : Nat) : Int) := by
  rw [rd_nv (nok_ln n), nv_ln]
theorem div_step (n i : Nat) : n / 65536 ^ i = n / 65536 ^ i % 65536 + 65536 * (n / 65536 ^ (i + 1)) := by
  rw [Nat.pow_succ, ← Nat.div_div_eq_div_mul]
  omega
theorem div_zero_of {n i : Nat} (h : ¬ 65536 ^ i ≤ n) : n / 65536 ^ i = 0 := Nat.div_eq_of_lt (by omega)
theorem w1 {i : Nat} (h : i < 4000000000000000000) : wrap64 ((i : Int) + 1) = ((i + 1 : Nat) : Int) := by unfold wrap64; omega
end Go.Proofs.Ythcgeekibomhiaa
end
