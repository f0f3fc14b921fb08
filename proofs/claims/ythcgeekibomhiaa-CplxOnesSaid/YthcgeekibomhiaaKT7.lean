import Derived.Laws.StructEq
import Derived.Laws.Slices
import Derived.Test.YthcgeekibomhiaaProg
import Derived.Below
import Derived.Deep.Draws
import Derived.Deep.AppendLies
import Derived.Maps.AppendAt
import Derived.OwnWalk
import Derived.Laws.BytesArg
import Derived.Laws.MakeOwn
import Derived.Laws.OwnMore
import Derived.Deep.OwnRows
import Derived.Tactics
import Derived.Lib.ConvBytes
import Derived.WalkKit
import Derived.KernelRfl
import Derived.RowKit3
import Derived.Deep.LoopGhost
import Derived.Deep.QuietTactic
import Derived.BigQuiet
import Derived.WideLaws
import Derived.Deep.DeepCutAuto
import Derived.Deep.CutBlock
import Derived.Deep.RegionHeld3
import Derived.Laws.Rows
import Derived.Lib.AppendStr
import Derived.ArgAppend
import Derived.Laws.IdiomCopy
import Derived.OrdersHeld
import Derived.Laws.BitsLemmas
import Derived.RowKit
import Derived.Test.YthcgeekibomhiaaKT0
import Derived.Test.YthcgeekibomhiaaKTBaseC
import Derived.Test.YthcgeekibomhiaaKTWWords



section
namespace Go.Proofs.YthcgeekibomhiaaW.PrintWords
open Go.RowKit
namespace Kd
def tag {α : Type} (f : Nat → Nat) (d : Kd α) : Kd (α × Nat) where
  sz := d.sz
  E := d.E
  K := fun w x cs => d.K w x.1 cs
  M := fun w base ok x cs => d.M w base (fun k => ok k ∧ f k = x.2) x.1 cs
  K_len := fun h => d.K_len h
  K_one := fun h => d.K_one h
  K_below := fun hb h => d.K_below hb h
  K_of_M := fun h => d.K_of_M h
  M_mono := fun hok h => d.M_mono (fun k hk => ⟨hok k hk.1, hk.2⟩) h
  M_bound := fun h => d.M_mono (fun _ hk => ⟨⟨hk.1.1, hk.2⟩, hk.1.2⟩) (d.M_bound h)
  M_move := fun hm h => d.M_move (fun k hk => hm k hk.1) h
  M_lower := fun hb h => d.M_lower hb h
def raw (sz : Nat) : Kd (List Value) where
  sz := sz
  E := []
  K := fun _ x cs => cs = x ∧ cs.length = sz ∧ ∀ u ∈ cs, u.oneCell' = true
  M := fun _ _ _ x cs => cs = x ∧ cs.length = sz ∧ ∀ u ∈ cs, u.oneCell' = true
  K_len := fun h => h.2.1
  K_one := fun h => h.2.2
  K_below := fun _ h => h
  K_of_M := fun h => h
  M_mono := fun _ h => h
  M_bound := fun h => h
  M_move := fun _ h => h
  M_lower := fun _ h => h
def S {α : Type} (d : Kd α) (e : Nat) (w : World) (base : Nat) (ok : Nat → Prop) (v : Value) (xs : List α) : Prop := ∃ f, (tag f d).R e w base ok v xs.zipIdx
section
variable {α β : Type} {d : Kd α} {d' : Kd β} {e e' : Nat} {w w1 W : World} {base b : Nat} {ok ok' okv oku : Nat → Prop} {u v : Value} {xs : List α} {ys : List β}
theorem zip_at {xs : List α} {j : Nat} {p : α} (h : xs[j]? = some p) : xs.zipIdx[j]? = some (p, j) := by rw [List.getElem?_zipIdx, h, Nat.zero_add]; rfl
theorem S_R (h : S d e w base ok v xs) : d.R e w base ok v xs := by
  obtain ⟨f, h0, inner, ho, hr⟩ := h
  rw [List.length_zipIdx] at ho
  exact ⟨h0, inner, ho, by have := hr.1; rw [List.length_zipIdx] at this; exact this, fun j p hj => d.M_mono (fun _ hk => hk.1) (hr.2 j (p, j) (zip_at hj))⟩
end
section
variable {α β : Type} {d : Kd α} {d' : Kd β} {e e' g : Nat} {w w1 W : World} {base b : Nat} {ok ok' okv oku : Nat → Prop} {u v : Value} {xs : List α} {ys : List β}
theorem S_ne (h : S d e w base ok v xs) {t : Nat} {cells : Array Value} (hb : w.heap[g]? = some (.cells cells t (0, 0))) (ht : e ≠ t) : some g ≠ v.ownBlock := R_ne (S_R h) hb ht
end
def gap {α : Type} (f : Nat → Nat) (d : Kd α) (i : Nat) (c : List Value) : Kd (α × Nat) where
  sz := d.sz
  E := d.E
  K := fun w x cs => (x.2 = i → cs = c ∧ cs.length = d.sz ∧ ∀ u ∈ cs, u.oneCell' = true) ∧ (x.2 ≠ i → d.K w x.1 cs)
  M := fun w base ok x cs => (x.2 = i → cs = c ∧ cs.length = d.sz ∧ ∀ u ∈ cs, u.oneCell' = true) ∧ (x.2 ≠ i → d.M w base (fun k => ok k ∧ f k = x.2) x.1 cs)
  K_len := fun {w x cs} h => by
    by_cases hx : x.2 = i
    · exact (h.1 hx).2.1
    · exact d.K_len (h.2 hx)
  K_one := fun {w x cs} h => by
    by_cases hx : x.2 = i
    · exact (h.1 hx).2.2
    · exact d.K_one (h.2 hx)
  K_below := fun hb h => ⟨h.1, fun hx => d.K_below hb (h.2 hx)⟩
  K_of_M := fun h => ⟨h.1, fun hx => d.K_of_M (h.2 hx)⟩
  M_mono := fun hok h => ⟨h.1, fun hx => d.M_mono (fun k hk => ⟨hok k hk.1, hk.2⟩) (h.2 hx)⟩
  M_bound := fun h => ⟨h.1, fun hx => d.M_mono (fun _ hk => ⟨⟨hk.1.1, hk.2⟩, hk.1.2⟩) (d.M_bound (h.2 hx))⟩
  M_move := fun hm h => ⟨h.1, fun hx => d.M_move (fun k hk => hm k hk.1) (h.2 hx)⟩
  M_lower := fun hb h => ⟨h.1, fun hx => d.M_lower hb (h.2 hx)⟩
def H {α : Type} (d : Kd α) (e : Nat) (w : World) (base : Nat) (ok : Nat → Prop) (v : Value) (xs : List α) (i : Int) (oki : Nat → Prop) (c : List Value) : Prop :=
  (∀ k, oki k → ok k) ∧ ∃ f, (gap f d i.toNat c).R e w base (fun k => ok k ∧ ¬ oki k) v xs.zipIdx
end Kd
end Go.Proofs.YthcgeekibomhiaaW.PrintWords
end
section
namespace Go.Proofs.YthcgeekibomhiaaW.PrintWords
open Go.RowKit
namespace Kd
theorem reps_one {α : Type} {R : α → List Value → Prop} {size : Nat} {ps : List α} {cs : List Value} (h : Reps R size ps cs) (hs0 : 0 < size) (hR : ∀ p c, R p c → ∀ u ∈ c, u.oneCell' = true) : ∀ u ∈ cs, u.oneCell' = true := by
  intro u hu
  obtain ⟨q, hq, rfl⟩ := List.mem_iff_getElem.1 hu
  have hql : q / size < ps.length := by
    rw [Nat.div_lt_iff_lt_mul hs0, ← h.1]
    exact hq
  refine hR _ _ (h.2 (q / size) _ (List.getElem?_eq_getElem hql)) _ ?_
  rw [List.mem_iff_getElem?]
  refine ⟨q % size, ?_⟩
  rw [List.getElem?_take, if_pos (Nat.mod_lt _ hs0), List.getElem?_drop, Nat.mul_comm, Nat.div_add_mod, List.getElem?_eq_getElem hq]
def arr {α : Type} (n : Nat) (d : Kd α) (hs : 0 < d.sz) : Kd (List α) where
  sz := n * d.sz
  E := d.E
  K := fun w xs cs => xs.length = n ∧ Reps (d.K w) d.sz xs cs
  M := fun w base ok xs cs => xs.length = n ∧ Reps (d.M w base ok) d.sz xs cs
  K_len := fun h => by rw [← h.1]; exact h.2.1
  K_one := fun h => reps_one h.2 hs (fun _ _ hk => d.K_one hk)
  K_below := fun hb h => ⟨h.1, h.2.imp_ (fun _ _ hk => d.K_below hb hk)⟩
  K_of_M := fun h => ⟨h.1, h.2.imp_ (fun _ _ hk => d.K_of_M hk)⟩
  M_mono := fun hok h => ⟨h.1, h.2.imp_ (fun _ _ hk => d.M_mono hok hk)⟩
  M_bound := fun h => ⟨h.1, h.2.imp_ (fun _ _ hk => d.M_bound hk)⟩
  M_move := fun hm h => ⟨h.1, h.2.imp_ (fun _ _ hk => d.M_move hm hk)⟩
  M_lower := fun hb h => ⟨h.1, h.2.imp_ (fun _ _ hk => d.M_lower hb hk)⟩
end Kd
end Go.Proofs.YthcgeekibomhiaaW.PrintWords
end

section
namespace Go.Proofs.YthcgeekibomhiaaW.PrintWords
open Go.RowKit
namespace Kd
structure Heap {α : Type} (d : Kd α) : Prop where
  K : ∀ {w w1 : World} {x : α} {cs : List Value}, (∀ k, k < w.heap.size → w1.heap[k]? = w.heap[k]?) → d.K w x cs → d.K w1 x cs
theorem cell_heap {w w1 : World} (hb : ∀ k, k < w.heap.size → w1.heap[k]? = w.heap[k]?) {a : Addr} {v : Value} (h : w.cell? a = some v) : w1.cell? a = some v := by
  have := hb a.block (World.block_lt_of_cell? w a h)
  simpa [World.cell?, this] using h
theorem Heap.C {α : Type} {d : Kd α} (hd : Heap d) {w w1 : World} {A : Option Addr} {n : Nat} {xs : List α} (hb : ∀ k, k < w.heap.size → w1.heap[k]? = w.heap[k]?) (h : d.C w A n xs) : d.C w1 A n xs :=
  ⟨h.1, h.2.1, fun hn => by
    obtain ⟨ad, e, hc⟩ := h.2.2 hn
    refine ⟨ad, e, fun j p hj => ?_⟩
    obtain ⟨c, hs, hr, hcell⟩ := hc j p hj
    exact ⟨c, hs, hd.K hb hr, fun i u hu => cell_heap hb (hcell i u hu)⟩⟩
end Kd
end Go.Proofs.YthcgeekibomhiaaW.PrintWords
end
section
namespace Go.Proofs.YthcgeekibomhiaaW.PrintWords
open Go.RowKit
def Kept (w W : World) (S : Nat → Prop) : Prop := w.heap.size ≤ W.heap.size ∧ ∀ i, i < w.heap.size → ¬ S i → W.heap[i]? = w.heap[i]?
section
variable {w W W2 : World} {S S2 S' : Nat → Prop}
theorem Kept.refl (w : World) (S : Nat → Prop) : Kept w w S := ⟨Nat.le_refl _, fun _ _ _ => rfl⟩
theorem Kept.of_below (h : Below w.heap.size w W) (S : Nat → Prop) : Kept w W S := ⟨h.size, fun i hi _ => h.block i hi⟩
theorem Kept.mono (h : Kept w W S) (hs : ∀ k, S k → S' k) : Kept w W S' := ⟨h.1, fun i hi hn => h.2 i hi (fun hk => hn (hs i hk))⟩
theorem Kept.then_ (h : Kept w W S) (k : Kept W W2 S2) (hs : ∀ k, S2 k → S k ∨ w.heap.size ≤ k) : Kept w W2 S :=
  ⟨Nat.le_trans h.1 k.1, fun i hi hn => (k.2 i (Nat.lt_of_lt_of_le hi h.1) (fun h2 => (hs i h2).elim hn (fun h3 => by omega))).trans (h.2 i hi hn)⟩
theorem Kept.below (h : Kept w W S) (hb : Below W.heap.size W W2) : Kept w W2 S := h.then_ (Kept.of_below hb (fun _ => False)) (fun _ hk => hk.elim)
theorem Kept.alloc (h : Kept w W S) (o : Obj) : Kept w (W.alloc o) S := h.below (below_alloc (Below.refl _ _) o)
theorem Kept.drew (h : Kept w W S) : Kept w W.drew S := h
theorem Kept.drewN (h : Kept w W S) (m : Nat) : Kept w (W.drewN m) S := h
theorem Kept.setCell (h : Kept w W S) {p : Addr} (hp : S p.block ∨ w.heap.size ≤ p.block) (u : Value) : Kept w (W.setCell p u) S :=
  h.then_ (S2 := fun k => k = p.block) ⟨by simp [World.setCell], fun i _ hn => Below.heap_setCell W p u i hn⟩ (fun k hk => by rw [hk]; exact hp)
end
end Go.Proofs.YthcgeekibomhiaaW.PrintWords
end
section
namespace Go.Proofs.YthcgeekibomhiaaW.PrintWords
open Go.RowKit
def Foot (P : World → Prop) (W : World) (ok : Nat → Prop) : Prop := ∀ W' : World, (∀ k, ok k → k < W.heap.size → W'.heap[k]? = W.heap[k]?) → P W'
theorem heap_lt {W W1 : World} {k : Nat} (h : W1.heap[k]? = W.heap[k]?) (hlt : k < W.heap.size) : k < W1.heap.size := by
  rw [Array.getElem?_eq_getElem hlt] at h
  exact (Array.getElem?_eq_some_iff.1 h).1
namespace Foot
variable {P Q : World → Prop} {W W1 : World} {ok ok' : Nat → Prop}
theorem mono (h : Foot P W ok) (hok : ∀ k, ok k → ok' k) : Foot P W ok' := fun W' hW => h W' (fun k hk hlt => hW k (hok k hk) hlt)
theorem bound (h : Foot P W ok) : Foot P W (fun k => ok k ∧ k < W.heap.size) := fun W' hW => h W' (fun k hk hlt => hW k ⟨hk, hlt⟩ hlt)
theorem step (h : Foot P W ok) (hm : ∀ k, ok k → k < W.heap.size → W1.heap[k]? = W.heap[k]?) : Foot P W1 ok := fun W' hW => h W' (fun k hk hlt => (hW k hk (heap_lt (hm k hk hlt) hlt)).trans (hm k hk hlt))
theorem imp (h : Foot P W ok) (hi : ∀ W', P W' → Q W') : Foot Q W ok := fun W' hW => hi W' (h W' hW)
theorem old (h : Foot P W ok) (hb : Below W.heap.size W W1) : Foot P W1 (fun k => ok k ∧ k < W.heap.size) := (h.bound).step (fun k _ hlt => hb.block k hlt)
end Foot
namespace Kd
def F {α : Type} (d : Kd α) (W : World) (ok : Nat → Prop) (A : Option Addr) (n : Nat) (xs : List α) : Prop := Foot (fun W => d.C W A n xs) W ok
def FK {α : Type} (d : Kd α) (W : World) (ok : Nat → Prop) (x : α) (c : List Value) : Prop := Foot (fun W => d.K W x c) W ok
section
variable {α β : Type} {d : Kd α} {e base n n' cc g N : Nat} {ok ok' okp S : Nat → Prop} {w w0 w1 W W1 : World} {A A' : Option Addr} {u v v1 : Value} {xs : List α} {xs' : List β} {d' : Kd β} {x : α} {c : List Value}
theorem F_step (h : F d W ok A n xs) (hm : ∀ k, ok k → k < W.heap.size → W1.heap[k]? = W.heap[k]?) : F d W1 ok A n xs := Foot.step h hm
theorem F_below (h : F d W ok A n xs) (hb : Below W.heap.size W W1) : F d W1 ok A n xs := F_step h (fun k _ hlt => hb.block k hlt)
theorem F_alloc (h : F d W ok A n xs) (o : Obj) : F d (W.alloc o) ok A n xs := F_below h (below_alloc (Below.refl _ _) o)
theorem F_drew (h : F d W ok A n xs) : F d W.drew ok A n xs := F_below h (below_drew (Below.refl _ _))
theorem F_drewN (h : F d W ok A n xs) (m : Nat) : F d (W.drewN m) ok A n xs := F_below h (pw_below_drewN (Below.refl _ _) m)
end
end Kd
end Go.Proofs.YthcgeekibomhiaaW.PrintWords
end
section
namespace Go.Proofs.YthcgeekibomhiaaW.PrintWords
open Go.RowKit
namespace Kd
section
variable {α : Type} {d : Kd α} {e base n cc g : Nat} {ok ok' okp S : Nat → Prop} {w w1 W W1 : World} {A : Option Addr} {u v v1 : Value} {xs : List α} {x : α} {c : List Value}
def N {α : Type} (d : Kd α) (e : Nat) (w : World) (base : Nat) (ok : Nat → Prop) (v : Value) (xs : List α) : Prop :=
  (∀ k, v.ownBlock = some k → ok k) ∧ ∃ rows : List (List Value), rows.length = xs.length ∧ (raw d.sz).R e w base (fun k => some k = v.ownBlock) v rows ∧ ∀ (j : Nat) (x : α) (c : List Value), xs[j]? = some x → rows[j]? = some c → FK d w (fun k => ok k ∧ some k ≠ v.ownBlock) x c
end
end Kd
end Go.Proofs.YthcgeekibomhiaaW.PrintWords
end



section
namespace Go.Proofs.YthcgeekibomhiaaW.PrintWords
theorem Reps.one {α : Type} {R : α → List Value → Prop} {ps : List α} {cs : List Value} {p : α} {v : Value} (hp : R p [v]) (h : Reps R 1 ps cs) : Reps R 1 (p :: ps) (v :: cs) := by
  refine ⟨by simp [h.1], fun j q hq => ?_⟩
  cases j with
  | zero =>
    simp only [List.getElem?_cons_zero, Option.some.injEq] at hq
    subst hq
    simpa using hp
  | succ j =>
    simp only [List.getElem?_cons_succ] at hq
    have h1 := h.2 j q hq
    simpa [Nat.mul_one] using h1
theorem Reps.front {α : Type} {R : α → List Value → Prop} {size : Nat} {ps : List α} {cs c all : List Value} {p : α} (hp : R p c) (hc : c.length = size) (h : Reps R size ps cs) (ha : c ++ cs = all) : Reps R size (p :: ps) all := by
  subst ha
  refine ⟨by rw [List.length_append, hc, h.1, List.length_cons, Nat.succ_mul, Nat.add_comm], fun j q hq => ?_⟩
  cases j with
  | zero =>
    simp only [List.getElem?_cons_zero, Option.some.injEq] at hq
    subst hq
    rw [Nat.zero_mul, List.drop_zero, List.take_append_of_le_length (by omega), List.take_of_length_le (by omega)]
    exact hp
  | succ j =>
    simp only [List.getElem?_cons_succ] at hq
    have h1 := h.2 j q hq
    rw [Nat.succ_mul, List.drop_append, List.drop_of_length_le (by rw [hc]; exact Nat.le_add_left _ _), List.nil_append, hc, Nat.add_sub_cancel]
    exact h1
theorem Reps.c2 {α : Type} {R : α → List Value → Prop} {ps : List α} {cs : List Value} {p : α} {va vb : Value} (hp : R p [va, vb]) (h : Reps R 2 ps cs) : Reps R 2 (p :: ps) (va :: vb :: cs) := Reps.front hp rfl h rfl
theorem Reps.c3 {α : Type} {R : α → List Value → Prop} {ps : List α} {cs : List Value} {p : α} {va vb vc : Value} (hp : R p [va, vb, vc]) (h : Reps R 3 ps cs) : Reps R 3 (p :: ps) (va :: vb :: vc :: cs) := Reps.front hp rfl h rfl
theorem Reps.c4 {α : Type} {R : α → List Value → Prop} {ps : List α} {cs : List Value} {p : α} {va vb vc vd : Value} (hp : R p [va, vb, vc, vd]) (h : Reps R 4 ps cs) : Reps R 4 (p :: ps) (va :: vb :: vc :: vd :: cs) := Reps.front hp rfl h rfl
end Go.Proofs.YthcgeekibomhiaaW.PrintWords
end
section
namespace Go.Proofs.YthcgeekibomhiaaW.PrintLast
def up (b : Nat → Bool) (i : Nat) : Nat → Bool := fun j => if j = i then true else b j
def lof (n : Nat) (O : List Nat) (b : Nat → Bool) : List Bool := (List.range n).map fun j => if O.contains j then b j else true
section
variable {P : Program} {ops : Array Oper} {Q : Exit → Act → World → Prop} {md : Region.Mode} {T : Bool × List (List Nat × List Nat)} {B : List Nat} {O : List Nat} {b : Nat → Bool} {i j n : Nat}
def Closed (T : List (List Nat × List Nat)) (O : List Nat) (b : Nat → Bool) : Prop := ∀ d r, T[d]? = some r → O.contains d = true → b d = true → ∀ n ∈ r.1, O.contains n = true → b n = true
end
end Go.Proofs.YthcgeekibomhiaaW.PrintLast
end



section
namespace Go.Proofs.YthcgeekibomhiaaW.PrintMore
open Go.RowKit Go.Proofs.YthcgeekibomhiaaW.PrintWords
theorem max2_int (k k' : IntKind) (x y : Int) : Builtin.max2 (.int k x) (.int k' y) = pure (.int k (if x < y then y else x)) := by simp only [Builtin.max2, gt_iff_lt]
theorem min2_int (k k' : IntKind) (x y : Int) : Builtin.min2 (.int k x) (.int k' y) = pure (.int k (if y < x then y else x)) := by simp only [Builtin.min2]
theorem max_two (ats : Array TypeId) (ty : TypeId) (a b : Value) : Builtin.max_ ats ty #[a, b] = (Builtin.max2 a b >>= fun s => pure s) := by simp only [Builtin.max_, List.foldlM_cons, List.foldlM_nil]
theorem min_two (ats : Array TypeId) (ty : TypeId) (a b : Value) : Builtin.min_ ats ty #[a, b] = (Builtin.min2 a b >>= fun s => pure s) := by simp only [Builtin.min_, List.foldlM_cons, List.foldlM_nil]
theorem max_three (ats : Array TypeId) (ty : TypeId) (a b c : Value) : Builtin.max_ ats ty #[a, b, c] = (Builtin.max2 a b >>= fun s => Builtin.max2 s c >>= fun s => pure s) := by simp only [Builtin.max_, List.foldlM_cons, List.foldlM_nil]
theorem min_three (ats : Array TypeId) (ty : TypeId) (a b c : Value) : Builtin.min_ ats ty #[a, b, c] = (Builtin.min2 a b >>= fun s => Builtin.min2 s c >>= fun s => pure s) := by simp only [Builtin.min_, List.foldlM_cons, List.foldlM_nil]
theorem max_four (ats : Array TypeId) (ty : TypeId) (a b c d : Value) : Builtin.max_ ats ty #[a, b, c, d] = (Builtin.max2 a b >>= fun s => Builtin.max2 s c >>= fun s => Builtin.max2 s d >>= fun s => pure s) := by simp only [Builtin.max_, List.foldlM_cons, List.foldlM_nil]
theorem min_four (ats : Array TypeId) (ty : TypeId) (a b c d : Value) : Builtin.min_ ats ty #[a, b, c, d] = (Builtin.min2 a b >>= fun s => Builtin.min2 s c >>= fun s => Builtin.min2 s d >>= fun s => pure s) := by simp only [Builtin.min_, List.foldlM_cons, List.foldlM_nil]
end Go.Proofs.YthcgeekibomhiaaW.PrintMore
namespace Go.Proofs.YthcgeekibomhiaaW.PrintWords
open Go.RowKit
def mx (a b : Int) : Int := if a < b then b else a
def shl (k : IntKind) (x y : Int) : Int := k.wrap (x * 2 ^ min y.toNat k.bits)
def shr (k : IntKind) (x y : Int) : Int := x / 2 ^ min y.toNat k.bits
end Go.Proofs.YthcgeekibomhiaaW.PrintWords
namespace Go.Proofs.YthcgeekibomhiaaW.PrintWords
open Go.RowKit
namespace Kd
def V {α : Type} (d : Kd α) (_e : Nat) (W : World) (_base : Nat) (ok : Nat → Prop) (v : Value) (xs : List α) : Prop := ∃ A c, v = .slice A xs.length c ∧ xs.length ≤ c ∧ F d W ok A xs.length xs
section
variable {α β : Type} {d : Kd α} {e base base' n m c g N' lo hi : Nat} {ok ok' S : Nat → Prop} {w W w1 : World} {A : Option Addr} {ad : Addr} {u v v1 : Value} {xs : List α}
theorem V_map (h : V d e W base ok v xs) (hF : ∀ A, F d W ok A xs.length xs → F d w1 ok' A xs.length xs) : V d e w1 base' ok' v xs := by
  obtain ⟨A, c, hv, hl, hf⟩ := h; exact ⟨A, c, hv, hl, hF A hf⟩
theorem V_alloc (h : V d e W base ok v xs) (o : Obj) : V d e (W.alloc o) base ok v xs := V_map h (fun _ hf => F_alloc hf o)
theorem V_drew (h : V d e W base ok v xs) : V d e W.drew base ok v xs := V_map h (fun _ hf => F_drew hf)
theorem V_drewN (h : V d e W base ok v xs) (m : Nat) : V d e (W.drewN m) base ok v xs := V_map h (fun _ hf => F_drewN hf m)
end
end Kd
end Go.Proofs.YthcgeekibomhiaaW.PrintWords
end

section
namespace Go.Proofs.Ythcgeekibomhiaa.X
open Go.RowKit Go.Proofs.YthcgeekibomhiaaW.PrintWords Go.Proofs.YthcgeekibomhiaaW.PrintLast Go.Proofs.YthcgeekibomhiaaW.PrintMore
theorem aK {P : Prop} (h : P) : Aside0 P := Aside0.mk h
theorem kV {Q P : Prop} (h : Aside0 Q) (p : Q → P := by intro h_; (with_reducible repeat (first | apply Kd.V_alloc | apply Kd.V_drewN | apply Kd.V_drew)); exact h_) : P := p h.out
theorem kR {Q P : Prop} (h : Aside0 Q) (p : Q → P := by intro h_; (with_reducible repeat (first | apply Kd.R_alloc | apply Kd.R_drewN | apply Kd.R_drew)); exact h_) : P := p h.out
theorem kH {Q P : Prop} (h : Aside0 Q) (p : Q → P := by intro h_; repeat (first | (with_reducible first | exact h_ | apply below_alloc | apply pw_below_drewN | apply below_drew1) | exact h_)) : P := p h.out
theorem kHs {Q G P : Prop} (h : Aside0 Q) (g : Aside0 G) (p : Q → G → P := by intro h_ g_; repeat (first | (with_reducible first | exact h_ | apply below_alloc | apply pw_below_drewN | apply below_drew1 | refine below_set ?_ g_) | exact h_)) : P := p h.out g.out
theorem kB {Q P : Prop} (h : Aside0 Q) (p : Q → P := by intro h_; (with_reducible repeat (first | refine blk_drewN ?_ _ | refine blk_drew ?_ | refine blk_alloc ?_ _)); exact h_) : P := p h.out
theorem kHt {Q G F P : Prop} (h : Aside0 Q) (g : Aside0 G) (f : Aside0 F) (p : Q → G → F → P := by intro h_ g_ f_; repeat (first | (with_reducible first | exact h_ | apply below_alloc | apply pw_below_drewN | apply below_drew1 | refine below_set ?_ g_ | refine below_set ?_ f_) | exact h_)) : P := p h.out g.out f.out
theorem RSq {P : Prop} (p : P := by first | rfl | (simp; done) | (simp [*]; done) | (simp [wrap64]; done)) : P := p
theorem ASq {P : Prop} (p : P := by first | (with_reducible assumption) | assumption) : P := p
theorem kC {Q P : Prop} (h : Q) (p : Q → P := by intro h_; repeat (first | exact h_ | (with_reducible refine Kd.C_alloc ?_ _) | (with_reducible refine Kd.C_drewN ?_ _) | (with_reducible refine Kd.C_drew ?_))) : P := p h
theorem LMq {P : Prop} (p : P := by (try simp only [List.map_toArray, List.map_cons, List.map_nil]); first | done | rfl | (simp only [List.length_drop, List.length_take]; rfl)) : P := p
theorem APq {P : Prop} (p : P := by simp only [Act.put, List.setIfInBounds_toArray, List.set_cons_zero, List.set_cons_succ, i64_w, i32_w]; rfl) : P := p
theorem PAq {P : Prop} (p : P := by simp only [putAll, Act.put, List.setIfInBounds_toArray, List.set_cons_zero, List.set_cons_succ] <;> rfl) : P := p
theorem gsz {w W : World} {g : Nat} (e : g = W.heap.size) (h : Aside0 (Below w.heap.size w W)) : Aside0 (w.heap.size ≤ g) := ⟨by rw [e]; exact below_size h.out⟩
theorem gne {W : World} {g g' : Nat} {o : Obj} (e : g = W.heap.size) (h : Aside0 (W.heap[g']? = some o)) : Aside0 (g' ≠ g) := ⟨by rw [e]; exact Nat.ne_of_lt (blk_lt h.out)⟩
theorem gen {W : World} {g g' : Nat} {o : Obj} (e : g = W.heap.size) (h : Aside0 (W.heap[g']? = some o)) : Aside0 (g ≠ g') := ⟨by rw [e]; exact Nat.ne_of_gt (blk_lt h.out)⟩
theorem bc {w : World} {g : Nat} {t : TypeId} {cs : Array Value} (h : Aside0 (w.heap[g]? = some (.cells cs t (0, 0)))) (i : Nat) {v : Option Value} (e : cs[i]? = v := by rfl) : w.cell? ⟨g, i, none⟩ = v := (blk_cell h.out i).trans e
theorem W1q {w : World} {g : Nat} {t : TypeId} {a0 : Value} (h : Aside0 (w.heap[g]? = some (.cells #[a0] t (0, 0)))) : w.cell? ⟨g, 0, none⟩ = some a0 ∧ w.frozen? ⟨g, 0, none⟩ = false := ⟨bc h 0, blk_frozen h.out 0⟩
theorem W2q {w : World} {g : Nat} {t : TypeId} {a0 a1 : Value} (h : Aside0 (w.heap[g]? = some (.cells #[a0, a1] t (0, 0)))) : w.cell? ⟨g, 0, none⟩ = some a0 ∧ w.cell? ⟨g, 1, none⟩ = some a1 ∧ w.frozen? ⟨g, 0, none⟩ = false ∧ w.frozen? ⟨g, 1, none⟩ = false := ⟨bc h 0, bc h 1, blk_frozen h.out 0, blk_frozen h.out 1⟩
theorem W3q {w : World} {g : Nat} {t : TypeId} {a0 a1 a2 : Value} (h : Aside0 (w.heap[g]? = some (.cells #[a0, a1, a2] t (0, 0)))) : w.cell? ⟨g, 0, none⟩ = some a0 ∧ w.cell? ⟨g, 1, none⟩ = some a1 ∧ w.cell? ⟨g, 2, none⟩ = some a2 ∧ w.frozen? ⟨g, 0, none⟩ = false ∧ w.frozen? ⟨g, 1, none⟩ = false ∧ w.frozen? ⟨g, 2, none⟩ = false := ⟨bc h 0, bc h 1, bc h 2, blk_frozen h.out 0, blk_frozen h.out 1, blk_frozen h.out 2⟩
theorem W4q {w : World} {g : Nat} {t : TypeId} {a0 a1 a2 a3 : Value} (h : Aside0 (w.heap[g]? = some (.cells #[a0, a1, a2, a3] t (0, 0)))) : w.cell? ⟨g, 0, none⟩ = some a0 ∧ w.cell? ⟨g, 1, none⟩ = some a1 ∧ w.cell? ⟨g, 2, none⟩ = some a2 ∧ w.cell? ⟨g, 3, none⟩ = some a3 ∧ w.frozen? ⟨g, 0, none⟩ = false ∧ w.frozen? ⟨g, 1, none⟩ = false ∧ w.frozen? ⟨g, 2, none⟩ = false ∧ w.frozen? ⟨g, 3, none⟩ = false := ⟨bc h 0, bc h 1, bc h 2, bc h 3, blk_frozen h.out 0, blk_frozen h.out 1, blk_frozen h.out 2, blk_frozen h.out 3⟩
theorem W5q {w : World} {g : Nat} {t : TypeId} {a0 a1 a2 a3 a4 : Value} (h : Aside0 (w.heap[g]? = some (.cells #[a0, a1, a2, a3, a4] t (0, 0)))) : w.cell? ⟨g, 0, none⟩ = some a0 ∧ w.cell? ⟨g, 1, none⟩ = some a1 ∧ w.cell? ⟨g, 2, none⟩ = some a2 ∧ w.cell? ⟨g, 3, none⟩ = some a3 ∧ w.cell? ⟨g, 4, none⟩ = some a4 ∧ w.frozen? ⟨g, 0, none⟩ = false ∧ w.frozen? ⟨g, 1, none⟩ = false ∧ w.frozen? ⟨g, 2, none⟩ = false ∧ w.frozen? ⟨g, 3, none⟩ = false ∧ w.frozen? ⟨g, 4, none⟩ = false := ⟨bc h 0, bc h 1, bc h 2, bc h 3, bc h 4, blk_frozen h.out 0, blk_frozen h.out 1, blk_frozen h.out 2, blk_frozen h.out 3, blk_frozen h.out 4⟩
theorem W6q {w : World} {g : Nat} {t : TypeId} {a0 a1 a2 a3 a4 a5 : Value} (h : Aside0 (w.heap[g]? = some (.cells #[a0, a1, a2, a3, a4, a5] t (0, 0)))) : w.cell? ⟨g, 0, none⟩ = some a0 ∧ w.cell? ⟨g, 1, none⟩ = some a1 ∧ w.cell? ⟨g, 2, none⟩ = some a2 ∧ w.cell? ⟨g, 3, none⟩ = some a3 ∧ w.cell? ⟨g, 4, none⟩ = some a4 ∧ w.cell? ⟨g, 5, none⟩ = some a5 ∧ w.frozen? ⟨g, 0, none⟩ = false ∧ w.frozen? ⟨g, 1, none⟩ = false ∧ w.frozen? ⟨g, 2, none⟩ = false ∧ w.frozen? ⟨g, 3, none⟩ = false ∧ w.frozen? ⟨g, 4, none⟩ = false ∧ w.frozen? ⟨g, 5, none⟩ = false := ⟨bc h 0, bc h 1, bc h 2, bc h 3, bc h 4, bc h 5, blk_frozen h.out 0, blk_frozen h.out 1, blk_frozen h.out 2, blk_frozen h.out 3, blk_frozen h.out 4, blk_frozen h.out 5⟩
theorem W7q {w : World} {g : Nat} {t : TypeId} {a0 a1 a2 a3 a4 a5 a6 : Value} (h : Aside0 (w.heap[g]? = some (.cells #[a0, a1, a2, a3, a4, a5, a6] t (0, 0)))) : w.cell? ⟨g, 0, none⟩ = some a0 ∧ w.cell? ⟨g, 1, none⟩ = some a1 ∧ w.cell? ⟨g, 2, none⟩ = some a2 ∧ w.cell? ⟨g, 3, none⟩ = some a3 ∧ w.cell? ⟨g, 4, none⟩ = some a4 ∧ w.cell? ⟨g, 5, none⟩ = some a5 ∧ w.cell? ⟨g, 6, none⟩ = some a6 ∧ w.frozen? ⟨g, 0, none⟩ = false ∧ w.frozen? ⟨g, 1, none⟩ = false ∧ w.frozen? ⟨g, 2, none⟩ = false ∧ w.frozen? ⟨g, 3, none⟩ = false ∧ w.frozen? ⟨g, 4, none⟩ = false ∧ w.frozen? ⟨g, 5, none⟩ = false ∧ w.frozen? ⟨g, 6, none⟩ = false := ⟨bc h 0, bc h 1, bc h 2, bc h 3, bc h 4, bc h 5, bc h 6, blk_frozen h.out 0, blk_frozen h.out 1, blk_frozen h.out 2, blk_frozen h.out 3, blk_frozen h.out 4, blk_frozen h.out 5, blk_frozen h.out 6⟩
theorem W8q {w : World} {g : Nat} {t : TypeId} {a0 a1 a2 a3 a4 a5 a6 a7 : Value} (h : Aside0 (w.heap[g]? = some (.cells #[a0, a1, a2, a3, a4, a5, a6, a7] t (0, 0)))) : w.cell? ⟨g, 0, none⟩ = some a0 ∧ w.cell? ⟨g, 1, none⟩ = some a1 ∧ w.cell? ⟨g, 2, none⟩ = some a2 ∧ w.cell? ⟨g, 3, none⟩ = some a3 ∧ w.cell? ⟨g, 4, none⟩ = some a4 ∧ w.cell? ⟨g, 5, none⟩ = some a5 ∧ w.cell? ⟨g, 6, none⟩ = some a6 ∧ w.cell? ⟨g, 7, none⟩ = some a7 ∧ w.frozen? ⟨g, 0, none⟩ = false ∧ w.frozen? ⟨g, 1, none⟩ = false ∧ w.frozen? ⟨g, 2, none⟩ = false ∧ w.frozen? ⟨g, 3, none⟩ = false ∧ w.frozen? ⟨g, 4, none⟩ = false ∧ w.frozen? ⟨g, 5, none⟩ = false ∧ w.frozen? ⟨g, 6, none⟩ = false ∧ w.frozen? ⟨g, 7, none⟩ = false := ⟨bc h 0, bc h 1, bc h 2, bc h 3, bc h 4, bc h 5, bc h 6, bc h 7, blk_frozen h.out 0, blk_frozen h.out 1, blk_frozen h.out 2, blk_frozen h.out 3, blk_frozen h.out 4, blk_frozen h.out 5, blk_frozen h.out 6, blk_frozen h.out 7⟩
theorem kF {Q P : Prop} (h : Aside0 Q) (p : Q → P := by intro h_; repeat (first | (with_reducible exact h_) | (with_reducible refine blk_drewN ?_ _) | (with_reducible refine blk_drew ?_) | (with_reducible refine blk_alloc ?_ _) | (with_reducible refine blk_far ?_ (Aside0.out (by assumption)) _) | ((with_reducible refine blk_put (cs := ?_) ?_ _ _ ?_); rotate_left) | exact h_ | rfl)) : P := p h.out
attribute [local go_sem] max2_int min2_int max_two min_two max_three min_three max_four min_four   
set_option linter.unusedVariables false
set_option linter.unusedSimpArgs false
def errW : Option Int → Value
 | none => .nilIface
 | some c => .iface 112 (.int .i64 c)
def pat_IsNaN.f (p : Int) : Option (Bool) := if inU p = true then (some (decide (3 < pC p))) else none
theorem pat_IsNaN.eq  (p : Int) (p0 : inU p = true) : pat_IsNaN.f p = (some (decide (3 < pC p))) := by
 unfold pat_IsNaN.f
 rw [if_pos (p0)]
set_option maxRecDepth 100000 in
theorem pat_IsNaN.calls (p : Int) (r : Bool) (w : World) (h : pat_IsNaN.f p = some r) :
 Calls Try.prog 41 #[.int .u64 p] w fun e w' => e = .returned (.bool r) ∧ Below w.heap.size w w' := by
 unfold pat_IsNaN.f at h
 split at h
 case isFalse => exact absurd h (by simp)
 case isTrue hp =>
  have p0 := hp; clear hp
  simp only [Option.some.injEq] at h
  subst h; refine Calls.mono (p_isnan p (inU_U p0) w) ?_; rintro e w' ⟨he, hb⟩; exact ⟨he, hb⟩
def pat_Class.f (p : Int) : Option (Int) := if inU p = true then (some (pC p)) else none
theorem pat_Class.eq  (p : Int) (p0 : inU p = true) : pat_Class.f p = (some (pC p)) := by
 unfold pat_Class.f
 rw [if_pos (p0)]
set_option maxRecDepth 100000 in
theorem pat_Class.calls (p : Int) (r : Int) (w : World) (h : pat_Class.f p = some r) :
 Calls Try.prog 60 #[.int .u64 p] w fun e w' => e = .returned (.int .i64 r) ∧ Below w.heap.size w w' := by
 unfold pat_Class.f at h
 split at h
 case isFalse => exact absurd h (by simp)
 case isTrue hp =>
  have p0 := hp; clear hp
  simp only [Option.some.injEq] at h
  subst h; refine Calls.mono (p_class p (inU_U p0) w) ?_; rintro e w' ⟨he, hb⟩; exact ⟨he, hb⟩
def pat_Abs.f (p : Int) : Option (Int) := if inU p = true then (some (pA p)) else none
theorem pat_Abs.eq  (p : Int) (p0 : inU p = true) : pat_Abs.f p = (some (pA p)) := by
 unfold pat_Abs.f
 rw [if_pos (p0)]
set_option maxRecDepth 100000 in
theorem pat_Abs.calls (p : Int) (r : Int) (w : World) (h : pat_Abs.f p = some r) :
 Calls Try.prog 73 #[.int .u64 p] w fun e w' => e = .returned (.int .u64 r) ∧ Below w.heap.size w w' := by
 unfold pat_Abs.f at h
 split at h
 case isFalse => exact absurd h (by simp)
 case isTrue hp =>
  have p0 := hp; clear hp
  simp only [Option.some.injEq] at h
  subst h; refine Calls.mono (p_abs p (inU_U p0) w) ?_; rintro e w' ⟨he, hb⟩; exact ⟨he, hb⟩
def pat_Finite.f (p : Int) : Option (Bool) := if inU p = true then (some (decide (pC p < 3))) else none
theorem pat_Finite.eq  (p : Int) (p0 : inU p = true) : pat_Finite.f p = (some (decide (pC p < 3))) := by
 unfold pat_Finite.f
 rw [if_pos (p0)]
set_option maxRecDepth 100000 in
theorem pat_Finite.calls (p : Int) (r : Bool) (w : World) (h : pat_Finite.f p = some r) :
 Calls Try.prog 44 #[.int .u64 p] w fun e w' => e = .returned (.bool r) ∧ Below w.heap.size w w' := by
 unfold pat_Finite.f at h
 split at h
 case isFalse => exact absurd h (by simp)
 case isTrue hp =>
  have p0 := hp; clear hp
  simp only [Option.some.injEq] at h
  subst h; refine Calls.mono (p_finite p (inU_U p0) w) ?_; rintro e w' ⟨he, hb⟩; exact ⟨he, hb⟩
def rnd_Round.f (s_m : Bool) (s_x : Int) (s0 s1 s2 s3 : Int) (s_o : Bool) (m : Int) : Option (Int × Int) := if okW s0 s1 s2 s3 = true ∧ (nW s0 s1 s2 s3) < 2 ^ 254 ∧ -131072 ≤ s_x ∧ s_x ≤ 131072 then (some ((rRound s_m (rX s_o s_x) (rS s_o (nW s0 s1 s2 s3)) m).1, (rRound s_m (rX s_o s_x) (rS s_o (nW s0 s1 s2 s3)) m).2)) else none
theorem rnd_Round.eq {s : Nat} (hs : s < T256) (s_m : Bool) (s_x : Int) (s_o : Bool) (m : Int) (p0 : s < 2 ^ 254) (p1 : -131072 ≤ s_x) (p2 : s_x ≤ 131072) : rnd_Round.f s_m s_x (l0 s) (l1 s) (l2 s) (l3 s) s_o m = (some ((rRound s_m (rX s_o s_x) (rS s_o s) m).1, (rRound s_m (rX s_o s_x) (rS s_o s) m).2)) := by
 unfold rnd_Round.f
 rw [nW_l hs]; rw [if_pos (⟨okW_l hs, p0, p1, p2⟩)]
set_option maxRecDepth 100000 in
theorem rnd_Round.calls (s_m : Bool) (s_x : Int) (s0 s1 s2 s3 : Int) (s_o : Bool) (m : Int) (r1 : Int) (r2 : Int) (w : World) (h : rnd_Round.f s_m s_x s0 s1 s2 s3 s_o m = some (r1, r2)) :
 Calls Try.prog 46 #[.agg #[.bool s_m, .int .i64 s_x, .int .u64 s0, .int .u64 s1, .int .u64 s2, .int .u64 s3, .bool s_o], .int .i64 m] w fun e w' => e = .returned (.tuple #[.int .u64 r1, .int .u8 r2]) ∧ Below w.heap.size w w' := by
 unfold rnd_Round.f at h
 split at h
 case isFalse => exact absurd h (by simp)
 case isTrue hp =>
  obtain ⟨ks, p0, p1, p2⟩ := hp; skip; obtain ⟨s, hs, rfl, rfl, rfl, rfl⟩ := okW_ex ks
  simp only [nW_l hs] at h p0
  simp only [Option.some.injEq, Prod.mk.injEq] at h
  obtain ⟨rfl, rfl⟩ := h; refine Calls.mono (r_round s_m s_o s_x m s p0 p1 p2 w) ?_; rintro e w' ⟨he, hb⟩; exact ⟨he, hb⟩
def pat_Take.f (p : Int) : Option (Bool × Int × Int × Int) := if inU p = true then (some (pM p, pC p, pX p, pS p)) else none
theorem pat_Take.eq  (p : Int) (p0 : inU p = true) : pat_Take.f p = (some (pM p, pC p, pX p, pS p)) := by
 unfold pat_Take.f
 rw [if_pos (p0)]
set_option maxRecDepth 100000 in
theorem pat_Take.calls (p : Int) (r1 : Bool) (r2 : Int) (r3 : Int) (r4 : Int) (w : World) (h : pat_Take.f p = some (r1, r2, r3, r4)) :
 Calls Try.prog 62 #[.int .u64 p] w fun e w' => e = .returned (.agg #[.bool r1, .int .i64 r2, .int .i64 r3, .int .u64 r4]) ∧ Below w.heap.size w w' := by
 unfold pat_Take.f at h
 split at h
 case isFalse => exact absurd h (by simp)
 case isTrue hp =>
  have p0 := hp; clear hp
  simp only [Option.some.injEq, Prod.mk.injEq] at h
  obtain ⟨rfl, rfl, rfl, rfl⟩ := h; refine Calls.mono (take p (inU_U p0) w) ?_; rintro e w' ⟨he, hb⟩; exact ⟨he, hb⟩
def wide_Of.f (n : Int) : Option (Int × Int × Int × Int) := if inU n = true then (some (l0 (n.toNat), l1 (n.toNat), l2 (n.toNat), l3 (n.toNat))) else none
theorem wide_Of.eq  (n : Int) (p0 : inU n = true) : wide_Of.f n = (some (l0 (n.toNat), l1 (n.toNat), l2 (n.toNat), l3 (n.toNat))) := by
 unfold wide_Of.f
 rw [if_pos (p0)]
set_option maxRecDepth 100000 in
theorem wide_Of.calls (n : Int) (r1 : Int) (r2 : Int) (r3 : Int) (r4 : Int) (w : World) (h : wide_Of.f n = some (r1, r2, r3, r4)) :
 Calls Try.prog 66 #[.int .u64 n] w fun e w' => e = .returned (.agg #[.int .u64 r1, .int .u64 r2, .int .u64 r3, .int .u64 r4]) ∧ Below w.heap.size w w' := by
 unfold wide_Of.f at h
 split at h
 case isFalse => exact absurd h (by simp)
 case isTrue hp =>
  have p0 := hp; clear hp
  simp only [Option.some.injEq, Prod.mk.injEq] at h
  obtain ⟨rfl, rfl, rfl, rfl⟩ := h; refine Calls.mono (wof n (inU_U p0) w) ?_; rintro e w' ⟨he, hb⟩; exact ⟨he, hb⟩
def wide_Mul.f (a0 a1 a2 a3 : Int) (b0 b1 b2 b3 : Int) : Option (Int × Int × Int × Int × Int × Int × Int × Int) := if okW a0 a1 a2 a3 = true ∧ okW b0 b1 b2 b3 = true ∧ (nW a0 a1 a2 a3) < 18446744073709551616 ∧ (nW b0 b1 b2 b3) < 18446744073709551616 then (some (l0 ((nW a0 a1 a2 a3) * (nW b0 b1 b2 b3)), l1 ((nW a0 a1 a2 a3) * (nW b0 b1 b2 b3)), l2 ((nW a0 a1 a2 a3) * (nW b0 b1 b2 b3)), l3 ((nW a0 a1 a2 a3) * (nW b0 b1 b2 b3)), l0 (0), l1 (0), l2 (0), l3 (0))) else none
theorem wide_Mul.eq {a : Nat} (ha : a < T256) {b : Nat} (hb : b < T256)   (p0 : a < 18446744073709551616) (p1 : b < 18446744073709551616) : wide_Mul.f (l0 a) (l1 a) (l2 a) (l3 a) (l0 b) (l1 b) (l2 b) (l3 b) = (some (l0 (a * b), l1 (a * b), l2 (a * b), l3 (a * b), l0 (0), l1 (0), l2 (0), l3 (0))) := by
 unfold wide_Mul.f
 rw [nW_l ha, nW_l hb]; rw [if_pos (⟨okW_l ha, okW_l hb, p0, p1⟩)]
set_option maxRecDepth 100000 in
theorem wide_Mul.calls (a0 a1 a2 a3 : Int) (b0 b1 b2 b3 : Int) (r1 : Int) (r2 : Int) (r3 : Int) (r4 : Int) (r5 : Int) (r6 : Int) (r7 : Int) (r8 : Int) (w : World) (h : wide_Mul.f a0 a1 a2 a3 b0 b1 b2 b3 = some (r1, r2, r3, r4, r5, r6, r7, r8)) :
 Calls Try.prog 83 #[.agg #[.int .u64 a0, .int .u64 a1, .int .u64 a2, .int .u64 a3], .agg #[.int .u64 b0, .int .u64 b1, .int .u64 b2, .int .u64 b3]] w fun e w' => e = .returned (.tuple #[.agg #[.int .u64 r1, .int .u64 r2, .int .u64 r3, .int .u64 r4], .agg #[.int .u64 r5, .int .u64 r6, .int .u64 r7, .int .u64 r8]]) ∧ Below w.heap.size w w' := by
 unfold wide_Mul.f at h
 split at h
 case isFalse => exact absurd h (by simp)
 case isTrue hp =>
  obtain ⟨ka, kb, p0, p1⟩ := hp; skip; obtain ⟨a, ha, rfl, rfl, rfl, rfl⟩ := okW_ex ka
  simp only [nW_l ha] at h p0
  obtain ⟨b, hb, rfl, rfl, rfl, rfl⟩ := okW_ex kb
  simp only [nW_l hb] at h p1
  simp only [Option.some.injEq, Prod.mk.injEq] at h
  obtain ⟨rfl, rfl, rfl, rfl, rfl, rfl, rfl, rfl⟩ := h; refine Calls.mono (wmul a b p0 p1 w) ?_; rintro e w' ⟨he, hb⟩; exact ⟨he, hb⟩
def rnd_Of.f (p : Int) : Option (Bool × Int × Int × Int × Int × Int × Bool × Option Int) := if inU p = true then (if pC p < 3 then some (pM p, pX p, l0 ((pS p).toNat), l1 ((pS p).toNat), l2 ((pS p).toNat), l3 ((pS p).toNat), false, none) else some (false, 0, 0, 0, 0, 0, false, some 1)) else none
theorem rnd_Of.eq  (p : Int) (p0 : inU p = true) : rnd_Of.f p = (if pC p < 3 then some (pM p, pX p, l0 ((pS p).toNat), l1 ((pS p).toNat), l2 ((pS p).toNat), l3 ((pS p).toNat), false, none) else some (false, 0, 0, 0, 0, 0, false, some 1)) := by
 unfold rnd_Of.f
 rw [if_pos (p0)]
set_option maxRecDepth 100000 in
theorem rnd_Of.calls (p : Int) (r1 : Bool) (r2 : Int) (r3 : Int) (r4 : Int) (r5 : Int) (r6 : Int) (r7 : Bool) (r8 : Option Int) (w : World) (h : rnd_Of.f p = some (r1, r2, r3, r4, r5, r6, r7, r8)) :
 Calls Try.prog 48 #[.int .u64 p] w fun e w' => e = .returned (.tuple #[.agg #[.bool r1, .int .i64 r2, .int .u64 r3, .int .u64 r4, .int .u64 r5, .int .u64 r6, .bool r7], errW r8]) ∧ Below w.heap.size w w' := by
 unfold rnd_Of.f at h
 split at h
 case isFalse => exact absurd h (by simp)
 case isTrue hp =>
  have p0 := hp; clear hp
  by_cases q : pC p < 3
  · rw [if_pos q] at h
    simp only [Option.some.injEq, Prod.mk.injEq] at h
    obtain ⟨rfl, rfl, rfl, rfl, rfl, rfl, rfl, rfl⟩ := h; refine Calls.mono (r_of p (inU_U p0) q w) ?_; rintro e w' ⟨he, hb⟩; exact ⟨he, hb⟩
  rw [if_neg q] at h
  simp only [Option.some.injEq, Prod.mk.injEq] at h
  obtain ⟨rfl, rfl, rfl, rfl, rfl, rfl, rfl, rfl⟩ := h; refine Calls.mono (r_of_no p (inU_U p0) q w) ?_; rintro e w' ⟨he, hb⟩; exact ⟨he, hb⟩
def wide_Len.f (a0 a1 a2 a3 : Int) : Option (Int) := if okW a0 a1 a2 a3 = true then (some (blen (nW a0 a1 a2 a3) : Int)) else none
theorem wide_Len.eq {a : Nat} (ha : a < T256)   : wide_Len.f (l0 a) (l1 a) (l2 a) (l3 a) = (some (blen a : Int)) := by
 unfold wide_Len.f
 rw [nW_l ha]; rw [if_pos (okW_l ha)]
set_option maxRecDepth 100000 in
theorem wide_Len.calls (a0 a1 a2 a3 : Int) (r : Int) (w : World) (h : wide_Len.f a0 a1 a2 a3 = some r) :
 Calls Try.prog 78 #[.agg #[.int .u64 a0, .int .u64 a1, .int .u64 a2, .int .u64 a3]] w fun e w' => e = .returned (.int .i64 r) ∧ Below w.heap.size w w' := by
 unfold wide_Len.f at h
 split at h
 case isFalse => exact absurd h (by simp)
 case isTrue hp =>
  have ka := hp; clear hp; obtain ⟨a, ha, rfl, rfl, rfl, rfl⟩ := okW_ex ka
  simp only [nW_l ha] at h 
  simp only [Option.some.injEq] at h
  subst h; refine Calls.mono (wlen a ha w) ?_; rintro e w' ⟨he, hb⟩; exact ⟨he, hb⟩
def wide_Shl.f (a0 a1 a2 a3 : Int) (n : Int) : Option (Int × Int × Int × Int) := if okW a0 a1 a2 a3 = true then (some (l0 ((nW a0 a1 a2 a3) * 2 ^ n.toNat % T256), l1 ((nW a0 a1 a2 a3) * 2 ^ n.toNat % T256), l2 ((nW a0 a1 a2 a3) * 2 ^ n.toNat % T256), l3 ((nW a0 a1 a2 a3) * 2 ^ n.toNat % T256))) else none
theorem wide_Shl.eq {a : Nat} (ha : a < T256)  (n : Int)  : wide_Shl.f (l0 a) (l1 a) (l2 a) (l3 a) n = (some (l0 (a * 2 ^ n.toNat % T256), l1 (a * 2 ^ n.toNat % T256), l2 (a * 2 ^ n.toNat % T256), l3 (a * 2 ^ n.toNat % T256))) := by
 unfold wide_Shl.f
 rw [nW_l ha]; rw [if_pos (okW_l ha)]
set_option maxRecDepth 100000 in
theorem wide_Shl.calls (a0 a1 a2 a3 : Int) (n : Int) (r1 : Int) (r2 : Int) (r3 : Int) (r4 : Int) (w : World) (h : wide_Shl.f a0 a1 a2 a3 n = some (r1, r2, r3, r4)) :
 Calls Try.prog 65 #[.agg #[.int .u64 a0, .int .u64 a1, .int .u64 a2, .int .u64 a3], .int .i64 n] w fun e w' => e = .returned (.agg #[.int .u64 r1, .int .u64 r2, .int .u64 r3, .int .u64 r4]) ∧ Below w.heap.size w w' := by
 unfold wide_Shl.f at h
 split at h
 case isFalse => exact absurd h (by simp)
 case isTrue hp =>
  have ka := hp; clear hp; obtain ⟨a, ha, rfl, rfl, rfl, rfl⟩ := okW_ex ka
  simp only [nW_l ha] at h 
  simp only [Option.some.injEq, Prod.mk.injEq] at h
  obtain ⟨rfl, rfl, rfl, rfl⟩ := h; refine Calls.mono (wshl a ha n w) ?_; rintro e w' ⟨m, hm, he, hb⟩; obtain rfl := hm.out; exact ⟨he, hb⟩
def wide_Sub.f (a0 a1 a2 a3 : Int) (b0 b1 b2 b3 : Int) : Option (Int × Int × Int × Int × Bool) := if okW a0 a1 a2 a3 = true ∧ okW b0 b1 b2 b3 = true then (some (l0 (((nW a0 a1 a2 a3) + T256 - (nW b0 b1 b2 b3)) % T256), l1 (((nW a0 a1 a2 a3) + T256 - (nW b0 b1 b2 b3)) % T256), l2 (((nW a0 a1 a2 a3) + T256 - (nW b0 b1 b2 b3)) % T256), l3 (((nW a0 a1 a2 a3) + T256 - (nW b0 b1 b2 b3)) % T256), decide ((nW a0 a1 a2 a3) < (nW b0 b1 b2 b3)))) else none
theorem wide_Sub.eq {a : Nat} (ha : a < T256) {b : Nat} (hb : b < T256)    : wide_Sub.f (l0 a) (l1 a) (l2 a) (l3 a) (l0 b) (l1 b) (l2 b) (l3 b) = (some (l0 ((a + T256 - b) % T256), l1 ((a + T256 - b) % T256), l2 ((a + T256 - b) % T256), l3 ((a + T256 - b) % T256), decide (a < b))) := by
 unfold wide_Sub.f
 rw [nW_l ha, nW_l hb]; rw [if_pos (⟨okW_l ha, okW_l hb⟩)]
set_option maxRecDepth 100000 in
theorem wide_Sub.calls (a0 a1 a2 a3 : Int) (b0 b1 b2 b3 : Int) (r1 : Int) (r2 : Int) (r3 : Int) (r4 : Int) (r5 : Bool) (w : World) (h : wide_Sub.f a0 a1 a2 a3 b0 b1 b2 b3 = some (r1, r2, r3, r4, r5)) :
 Calls Try.prog 96 #[.agg #[.int .u64 a0, .int .u64 a1, .int .u64 a2, .int .u64 a3], .agg #[.int .u64 b0, .int .u64 b1, .int .u64 b2, .int .u64 b3]] w fun e w' => e = .returned (.tuple #[.agg #[.int .u64 r1, .int .u64 r2, .int .u64 r3, .int .u64 r4], .bool r5]) ∧ Below w.heap.size w w' := by
 unfold wide_Sub.f at h
 split at h
 case isFalse => exact absurd h (by simp)
 case isTrue hp =>
  obtain ⟨ka, kb⟩ := hp; skip; obtain ⟨a, ha, rfl, rfl, rfl, rfl⟩ := okW_ex ka
  simp only [nW_l ha] at h 
  obtain ⟨b, hb, rfl, rfl, rfl, rfl⟩ := okW_ex kb
  simp only [nW_l hb] at h 
  simp only [Option.some.injEq, Prod.mk.injEq] at h
  obtain ⟨rfl, rfl, rfl, rfl, rfl⟩ := h; refine Calls.mono (wsub a b ha hb w) ?_; rintro e w' ⟨n, o, hd, he, hb⟩; obtain ⟨rfl, rfl⟩ := hd.out; exact ⟨he, hb⟩
def wide_Add.f (a0 a1 a2 a3 : Int) (b0 b1 b2 b3 : Int) : Option (Int × Int × Int × Int × Bool) := if okW a0 a1 a2 a3 = true ∧ okW b0 b1 b2 b3 = true then (some (l0 (((nW a0 a1 a2 a3) + (nW b0 b1 b2 b3)) % T256), l1 (((nW a0 a1 a2 a3) + (nW b0 b1 b2 b3)) % T256), l2 (((nW a0 a1 a2 a3) + (nW b0 b1 b2 b3)) % T256), l3 (((nW a0 a1 a2 a3) + (nW b0 b1 b2 b3)) % T256), decide (T256 ≤ (nW a0 a1 a2 a3) + (nW b0 b1 b2 b3)))) else none
theorem wide_Add.eq {a : Nat} (ha : a < T256) {b : Nat} (hb : b < T256)    : wide_Add.f (l0 a) (l1 a) (l2 a) (l3 a) (l0 b) (l1 b) (l2 b) (l3 b) = (some (l0 ((a + b) % T256), l1 ((a + b) % T256), l2 ((a + b) % T256), l3 ((a + b) % T256), decide (T256 ≤ a + b))) := by
 unfold wide_Add.f
 rw [nW_l ha, nW_l hb]; rw [if_pos (⟨okW_l ha, okW_l hb⟩)]
set_option maxRecDepth 100000 in
theorem wide_Add.calls (a0 a1 a2 a3 : Int) (b0 b1 b2 b3 : Int) (r1 : Int) (r2 : Int) (r3 : Int) (r4 : Int) (r5 : Bool) (w : World) (h : wide_Add.f a0 a1 a2 a3 b0 b1 b2 b3 = some (r1, r2, r3, r4, r5)) :
 Calls Try.prog 100 #[.agg #[.int .u64 a0, .int .u64 a1, .int .u64 a2, .int .u64 a3], .agg #[.int .u64 b0, .int .u64 b1, .int .u64 b2, .int .u64 b3]] w fun e w' => e = .returned (.tuple #[.agg #[.int .u64 r1, .int .u64 r2, .int .u64 r3, .int .u64 r4], .bool r5]) ∧ Below w.heap.size w w' := by
 unfold wide_Add.f at h
 split at h
 case isFalse => exact absurd h (by simp)
 case isTrue hp =>
  obtain ⟨ka, kb⟩ := hp; skip; obtain ⟨a, ha, rfl, rfl, rfl, rfl⟩ := okW_ex ka
  simp only [nW_l ha] at h 
  obtain ⟨b, hb, rfl, rfl, rfl, rfl⟩ := okW_ex kb
  simp only [nW_l hb] at h 
  simp only [Option.some.injEq, Prod.mk.injEq] at h
  obtain ⟨rfl, rfl, rfl, rfl, rfl⟩ := h; refine Calls.mono (wadd a b ha hb w) ?_; rintro e w' ⟨n, o, hd, he, hb⟩; obtain ⟨rfl, rfl⟩ := hd.out; exact ⟨he, hb⟩
def wide_Cmp.f (a0 a1 a2 a3 : Int) (b0 b1 b2 b3 : Int) : Option (Int) := if okW a0 a1 a2 a3 = true ∧ okW b0 b1 b2 b3 = true then (some (cmpI (nW a0 a1 a2 a3) (nW b0 b1 b2 b3))) else none
theorem wide_Cmp.eq {a : Nat} (ha : a < T256) {b : Nat} (hb : b < T256)    : wide_Cmp.f (l0 a) (l1 a) (l2 a) (l3 a) (l0 b) (l1 b) (l2 b) (l3 b) = (some (cmpI a b)) := by
 unfold wide_Cmp.f
 rw [nW_l ha, nW_l hb]; rw [if_pos (⟨okW_l ha, okW_l hb⟩)]
set_option maxRecDepth 100000 in
theorem wide_Cmp.calls (a0 a1 a2 a3 : Int) (b0 b1 b2 b3 : Int) (r : Int) (w : World) (h : wide_Cmp.f a0 a1 a2 a3 b0 b1 b2 b3 = some r) :
 Calls Try.prog 108 #[.agg #[.int .u64 a0, .int .u64 a1, .int .u64 a2, .int .u64 a3], .agg #[.int .u64 b0, .int .u64 b1, .int .u64 b2, .int .u64 b3]] w fun e w' => e = .returned (.int .i64 r) ∧ Below w.heap.size w w' := by
 unfold wide_Cmp.f at h
 split at h
 case isFalse => exact absurd h (by simp)
 case isTrue hp =>
  obtain ⟨ka, kb⟩ := hp; skip; obtain ⟨a, ha, rfl, rfl, rfl, rfl⟩ := okW_ex ka
  simp only [nW_l ha] at h 
  obtain ⟨b, hb, rfl, rfl, rfl, rfl⟩ := okW_ex kb
  simp only [nW_l hb] at h 
  simp only [Option.some.injEq] at h
  subst h; refine Calls.mono (wcmp a b ha hb w) ?_; rintro e w' ⟨he, hb⟩; exact ⟨he, hb⟩
def wide_Shr.f (a0 a1 a2 a3 : Int) (n : Int) : Option (Int × Int × Int × Int × Bool) := if okW a0 a1 a2 a3 = true then (some (l0 ((nW a0 a1 a2 a3) / 2 ^ n.toNat), l1 ((nW a0 a1 a2 a3) / 2 ^ n.toNat), l2 ((nW a0 a1 a2 a3) / 2 ^ n.toNat), l3 ((nW a0 a1 a2 a3) / 2 ^ n.toNat), decide ((nW a0 a1 a2 a3) % 2 ^ n.toNat ≠ 0))) else none
theorem wide_Shr.eq {a : Nat} (ha : a < T256)  (n : Int)  : wide_Shr.f (l0 a) (l1 a) (l2 a) (l3 a) n = (some (l0 (a / 2 ^ n.toNat), l1 (a / 2 ^ n.toNat), l2 (a / 2 ^ n.toNat), l3 (a / 2 ^ n.toNat), decide (a % 2 ^ n.toNat ≠ 0))) := by
 unfold wide_Shr.f
 rw [nW_l ha]; rw [if_pos (okW_l ha)]
set_option maxRecDepth 100000 in
theorem wide_Shr.calls (a0 a1 a2 a3 : Int) (n : Int) (r1 : Int) (r2 : Int) (r3 : Int) (r4 : Int) (r5 : Bool) (w : World) (h : wide_Shr.f a0 a1 a2 a3 n = some (r1, r2, r3, r4, r5)) :
 Calls Try.prog 81 #[.agg #[.int .u64 a0, .int .u64 a1, .int .u64 a2, .int .u64 a3], .int .i64 n] w fun e w' => e = .returned (.tuple #[.agg #[.int .u64 r1, .int .u64 r2, .int .u64 r3, .int .u64 r4], .bool r5]) ∧ Below w.heap.size w w' := by
 unfold wide_Shr.f at h
 split at h
 case isFalse => exact absurd h (by simp)
 case isTrue hp =>
  have ka := hp; clear hp; obtain ⟨a, ha, rfl, rfl, rfl, rfl⟩ := okW_ex ka
  simp only [nW_l ha] at h 
  simp only [Option.some.injEq, Prod.mk.injEq] at h
  obtain ⟨rfl, rfl, rfl, rfl, rfl⟩ := h; refine Calls.mono (wshr a ha n w) ?_; rintro e w' ⟨m, o, hd, he, hb⟩; obtain ⟨rfl, rfl⟩ := hd.out; exact ⟨he, hb⟩
def pat_Neg.f (p : Int) : Option (Int) := if inU p = true then (some (pN p)) else none
theorem pat_Neg.eq  (p : Int) (p0 : inU p = true) : pat_Neg.f p = (some (pN p)) := by
 unfold pat_Neg.f
 rw [if_pos (p0)]
set_option maxRecDepth 100000 in
theorem pat_Neg.calls (p : Int) (r : Int) (w : World) (h : pat_Neg.f p = some r) :
 Calls Try.prog 30 #[.int .u64 p] w fun e w' => e = .returned (.int .u64 r) ∧ Below w.heap.size w w' := by
 unfold pat_Neg.f at h
 split at h
 case isFalse => exact absurd h (by simp)
 case isTrue hp =>
  have p0 := hp; clear hp
  simp only [Option.some.injEq] at h
  subst h; refine Calls.mono (p_neg p (inU_U p0) w) ?_; rintro e w' ⟨he, hb⟩; exact ⟨he, hb⟩
def r3_NaN.f (p : Int) : Option (Bool) := if inU p = true then (some (decide (3 < pC p))) else none
set_option maxRecDepth 100000 in
theorem r3_NaN.calls (p : Int) (r : Bool) (w : World) (h : r3_NaN.f p = some r) :
 Calls Try.prog 50 #[.int .u64 p] w fun e w' => e = .returned (.bool r) ∧ Below w.heap.size w w' := by
 unfold r3_NaN.f at h
 split at h
 case isFalse => exact absurd h (by simp)
 case isTrue hp =>
  have p0 := hp; clear hp
  simp only [Option.some.injEq] at h
  subst h; refine Calls.mono (r_nan p (inU_U p0) w) ?_; rintro e w' ⟨he, hb⟩; exact ⟨he, hb⟩
def r3_Take.f (p : Int) : Option (Bool × Int × Int × Int) := if inU p = true then (some (pM p, pC p, pX p, pS p)) else none
set_option maxRecDepth 100000 in
theorem r3_Take.calls (p : Int) (r1 : Bool) (r2 : Int) (r3 : Int) (r4 : Int) (w : World) (h : r3_Take.f p = some (r1, r2, r3, r4)) :
 Calls Try.prog 67 #[.int .u64 p] w fun e w' => e = .returned (.agg #[.bool r1, .int .i64 r2, .int .i64 r3, .int .u64 r4]) ∧ Below w.heap.size w w' := by
 unfold r3_Take.f at h
 split at h
 case isFalse => exact absurd h (by simp)
 case isTrue hp =>
  have p0 := hp; clear hp
  simp only [Option.some.injEq, Prod.mk.injEq] at h
  obtain ⟨rfl, rfl, rfl, rfl⟩ := h; refine Calls.mono (rtake p (inU_U p0) w) ?_; rintro e w' ⟨he, hb⟩; exact ⟨he, hb⟩
def r3_Abs.f (p : Int) : Option (Int) := if inU p = true then (some (pA p)) else none
set_option maxRecDepth 100000 in
theorem r3_Abs.calls (p : Int) (r : Int) (w : World) (h : r3_Abs.f p = some r) :
 Calls Try.prog 53 #[.int .u64 p] w fun e w' => e = .returned (.int .u64 r) ∧ Below w.heap.size w w' := by
 unfold r3_Abs.f at h
 split at h
 case isFalse => exact absurd h (by simp)
 case isTrue hp =>
  have p0 := hp; clear hp
  simp only [Option.some.injEq] at h
  subst h; refine Calls.mono (r_abs p (inU_U p0).1 (inU_U p0).2 w) ?_; rintro e w' ⟨he, hb⟩; exact ⟨he, hb⟩
def r3_Neg.f (p : Int) : Option (Int) := if inU p = true then (some (pN p)) else none
set_option maxRecDepth 100000 in
theorem r3_Neg.calls (p : Int) (r : Int) (w : World) (h : r3_Neg.f p = some r) :
 Calls Try.prog 33 #[.int .u64 p] w fun e w' => e = .returned (.int .u64 r) ∧ Below w.heap.size w w' := by
 unfold r3_Neg.f at h
 split at h
 case isFalse => exact absurd h (by simp)
 case isTrue hp =>
  have p0 := hp; clear hp
  simp only [Option.some.injEq] at h
  subst h; refine Calls.mono (r_neg p (inU_U p0).1 (inU_U p0).2 w) ?_; rintro e w' ⟨he, hb⟩; exact ⟨he, hb⟩
def quot_none.f (a : Int) (b : Int) : Option (Int × Int) := if inU a = true ∧ inU b = true then (some ((qNone a b).1, (qNone a b).2)) else none
set_option maxRecDepth 100000 in
theorem quot_none.calls (a : Int) (b : Int) (r1 : Int) (r2 : Int) (w : World) (h : quot_none.f a b = some (r1, r2)) :
 Calls Try.prog 63 #[.int .u64 a, .int .u64 b] w fun e w' => e = .returned (.tuple #[.int .u64 r1, .int .u8 r2]) ∧ Below w.heap.size w w' := by
 unfold quot_none.f at h
 split at h
 case isFalse => exact absurd h (by simp)
 case isTrue hp =>
  obtain ⟨p0, p1⟩ := hp; skip
  simp only [Option.some.injEq, Prod.mk.injEq] at h
  obtain ⟨rfl, rfl⟩ := h; refine Calls.mono (q_none a b (inU_U p0) (inU_U p1) w) ?_; rintro e w' ⟨he, hb⟩; exact ⟨he, hb⟩
def wide_DivMod.f (a0 a1 a2 a3 : Int) (b0 b1 b2 b3 : Int) : Option (Int × Int × Int × Int × Int × Int × Int × Int) := if okW a0 a1 a2 a3 = true ∧ okW b0 b1 b2 b3 = true ∧ (nW b0 b1 b2 b3) ≠ 0 then (some (l0 ((nW a0 a1 a2 a3) / (nW b0 b1 b2 b3)), l1 ((nW a0 a1 a2 a3) / (nW b0 b1 b2 b3)), l2 ((nW a0 a1 a2 a3) / (nW b0 b1 b2 b3)), l3 ((nW a0 a1 a2 a3) / (nW b0 b1 b2 b3)), l0 ((nW a0 a1 a2 a3) % (nW b0 b1 b2 b3)), l1 ((nW a0 a1 a2 a3) % (nW b0 b1 b2 b3)), l2 ((nW a0 a1 a2 a3) % (nW b0 b1 b2 b3)), l3 ((nW a0 a1 a2 a3) % (nW b0 b1 b2 b3)))) else none
set_option maxRecDepth 100000 in
theorem wide_DivMod.calls (a0 a1 a2 a3 : Int) (b0 b1 b2 b3 : Int) (r1 : Int) (r2 : Int) (r3 : Int) (r4 : Int) (r5 : Int) (r6 : Int) (r7 : Int) (r8 : Int) (w : World) (h : wide_DivMod.f a0 a1 a2 a3 b0 b1 b2 b3 = some (r1, r2, r3, r4, r5, r6, r7, r8)) :
 Calls Try.prog 64 #[.agg #[.int .u64 a0, .int .u64 a1, .int .u64 a2, .int .u64 a3], .agg #[.int .u64 b0, .int .u64 b1, .int .u64 b2, .int .u64 b3]] w fun e w' => e = .returned (.tuple #[.agg #[.int .u64 r1, .int .u64 r2, .int .u64 r3, .int .u64 r4], .agg #[.int .u64 r5, .int .u64 r6, .int .u64 r7, .int .u64 r8], .nilIface]) ∧ Below w.heap.size w w' := by
 unfold wide_DivMod.f at h
 split at h
 case isFalse => exact absurd h (by simp)
 case isTrue hp =>
  obtain ⟨ka, kb, p0⟩ := hp; skip; obtain ⟨a, ha, rfl, rfl, rfl, rfl⟩ := okW_ex ka
  simp only [nW_l ha] at h 
  obtain ⟨b, hb, rfl, rfl, rfl, rfl⟩ := okW_ex kb
  simp only [nW_l hb] at h p0
  simp only [Option.some.injEq, Prod.mk.injEq] at h
  obtain ⟨rfl, rfl, rfl, rfl, rfl, rfl, rfl, rfl⟩ := h; refine Calls.mono (wdivmod a b ha hb p0 w) ?_; rintro e w' ⟨he, hb⟩; exact ⟨he, hb⟩
end Go.Proofs.Ythcgeekibomhiaa.X
end
