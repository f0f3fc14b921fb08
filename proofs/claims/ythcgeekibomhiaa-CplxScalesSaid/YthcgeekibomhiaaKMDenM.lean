import Derived.Orders
import Derived.Below
import Derived.Tactics
import Derived.KernelRfl
import Derived.Laws.StructEq
import Derived.WideLaws
import Derived.Laws.Cells
import Derived.Laws.CopyRow
import Derived.WalkKit
namespace Go.Proofs.Ythcgeekibomhiaa.Den
set_option linter.unusedVariables false
set_option linter.unusedSimpArgs false
set_option linter.unusedSectionVars false
open Go Go.RowKit
inductive LV where
  | ints (k : IntKind) (xs : List Int)
  | strs (xs : List ByteArray)
noncomputable def LV.len : LV → Nat
  | .ints _ xs => xs.length
  | .strs xs => xs.length
noncomputable def LV.cells : LV → List Value
  | .ints k xs => xs.map (.int k)
  | .strs xs => xs.map .string
inductive SV where
  | v (x : Value)
  | pr (p : Prop) (d : Decidable p)
  | err (t : Nat) (k : IntKind) (z : Option Int)
  | ptr (s off : Nat)
  | pti (s off n : Nat) (i : Int)
  | agg (cs : List SV)
  | tup (cs : List SV)
  | ro (l : LV)
  | rp (l : LV) (i : Int)
  | sl (s : Nat)
  | vp (s : Nat) (i : Int)
  | junk
inductive SO where
  | cells (cs : List SV)
  | vec (l : LV)
  | fz (l : LV)
structure St where
  t : Nat → SV
  o : Nat → Option SO
  n : Nat
  nt : Nat
noncomputable def LV.get (l : LV) (i : Int) : SV :=
  match l with
  | .ints k xs => .v (.int k (xs.getD i.toNat 0))
  | .strs xs => .v (.string (xs.getD i.toNat ByteArray.empty))
noncomputable def SV.ofV0 : Value → SV
  | .agg cs => .agg (cs.toList.map .v)
  | x => .v x
noncomputable def SV.ofV : Value → SV
  | .tuple vs => .tup (vs.toList.map SV.ofV0)
  | x => SV.ofV0 x
noncomputable def ev (st : St) : Operand → SV
  | .tmp t => st.t t
  | .const x => SV.ofV0 x
  | .global _ => .junk
  | .func f => .v (.func (.func f) #[] #[])
noncomputable def pureRun {α : Type} (P : Program) : Sem α → Option α
  | .pure a => some a
  | .program k => pureRun P (k P)
  | _ => none
theorem pureRun_run {α : Type} {P : Program} {w : World} : ∀ (m : Sem α) {a : α}, pureRun P m = some a → m.run P w = .ok a w
  | .pure a, b, h => by simp [pureRun] at h; subst h; rfl
  | .program k, b, h => by simp only [pureRun] at h; simp only [Sem.run]; exact pureRun_run (k P) h
  | .load .., _, h => by simp [pureRun] at h
  | .store .., _, h => by simp [pureRun] at h
  | .new .., _, h => by simp [pureRun] at h
  | .shape .., _, h => by simp [pureRun] at h
  | .freeze .., _, h => by simp [pureRun] at h
  | .frozen .., _, h => by simp [pureRun] at h
  | .getObj .., _, h => by simp [pureRun] at h
  | .setObj .., _, h => by simp [pureRun] at h
  | .choose .., _, h => by simp [pureRun] at h
  | .sys .., _, h => by simp [pureRun] at h
  | .mark .., _, h => by simp [pureRun] at h
  | .halt .., _, h => by simp [pureRun] at h
inductive TR (R : Type) : Type 1 where
  | ret (x : R)
  | fail
  | br (p : Prop) (d : Decidable p) (t e : TR R)
  | call (β : Type) (x : Option β) (k : β → TR R)
noncomputable abbrev br {R : Type} (p : Prop) [d : Decidable p] (t e : TR R) : TR R := .br p d t e
noncomputable def TR.run {R : Type} : TR R → Option R
  | .ret x => some x
  | .fail => none
  | .br p d t e => @ite _ p d t.run e.run
  | .call _ x k => x.bind fun b => (k b).run
section ops
variable {R : Type}
noncomputable def toB : SV → Option Bool
  | .v (.bool b) => some b
  | .pr p d => some (@decide p d)
  | _ => none
noncomputable def intsOf (k : IntKind) : List SV → Option (List Int)
  | [] => some []
  | .v (.int k' x) :: r => if k' = k then (intsOf k r).map (x :: ·) else none
  | _ :: _ => none
noncomputable def setC (k : IntKind) (i : Int) (y : Int) : List Int → Nat → List SV
  | [], _ => []
  | x :: r, j => .v (.int k (if i = (j : Int) then y else x)) :: setC k i y r (j + 1)
noncomputable def conj : List (Int × Int) → Prop
  | [] => True
  | [(a, b)] => a = b
  | (a, b) :: r => a = b ∧ conj r
noncomputable def conjD : (l : List (Int × Int)) → Decidable (conj l)
  | [] => instDecidableTrue
  | [(a, b)] => Int.instDecidableEq a b
  | (a, b) :: c :: r => @instDecidableAnd (a = b) (conj (c :: r)) (Int.instDecidableEq a b) (conjD (c :: r))
noncomputable def dcmp (op : BinOp) (a b : Int) : Option SV :=
  match op with
  | .eql => some (.pr (a = b) (Int.instDecidableEq a b))
  | .neq => some (.pr (¬ a = b) (@instDecidableNot _ (Int.instDecidableEq a b)))
  | .lss => some (.pr (a < b) (Int.decLt a b))
  | .leq => some (.pr (a ≤ b) (Int.decLe a b))
  | .gtr => some (.pr (a > b) (Int.decLt b a))
  | .geq => some (.pr (a ≥ b) (Int.decLe b a))
  | _ => none
noncomputable def isAgg? (P : Program) (t : TypeId) : Option Bool :=
  match P.underlying t with
  | some (.struct _) => some true
  | some (.array _ _) => some true
  | some _ => some false
  | none => none
noncomputable def szc (P : Program) (t : TypeId) : Option Nat := (P.info? t).map (·.size)
noncomputable def wr (k : IntKind) (n : Int) : Int :=
  match k with
  | .i64 => wrap64 n
  | .i32 => wrap32 n
  | .u64 => n % 18446744073709551616
  | .u32 => n % 4294967296
  | .u16 => n % 65536
  | .u8 => n % 256
  | k => k.wrap n
theorem wr_eq (k : IntKind) (n : Int) : k.wrap n = wr k n := by
  cases k <;> first
    | rfl
    | (simp only [wr, IntKind.wrap, IntKind.signed, IntKind.bits, wrap64, wrap32]; simp <;> (first | (split <;> omega) | omega))
noncomputable def lift (r : Option Value) (K : SV → TR R) : TR R :=
  match r with
  | some x => K (SV.ofV x)
  | none => .fail
noncomputable def flatS (P : Program) (k : IntKind) : List Field → Nat → Bool
  | [], _ => true
  | f :: r, i => (match P.underlying f.type with | some (.int k') => decide (k' = k) | _ => false) && decide (f.offset = i) && decide (szc P f.type = some 1) && decide (f.name ≠ "_") && flatS P k r (i + 1)
noncomputable def structEq (P : Program) (t : TypeId) (fs : Array Field) (xs ys : List SV) : Option (List (Int × Int)) :=
  match fs[0]? with
  | some f => match P.underlying f.type with
    | some (.int k) => match intsOf k xs, intsOf k ys with
      | some as, some bs => if as.length = fs.size ∧ bs.length = fs.size ∧ P.eqGuardType P.depth t = false ∧ P.stoodInHeld t = false ∧ flatS P k fs.toList 0 = true then some (as.zip bs) else none
      | _, _ => none
    | _ => none
  | none => none
noncomputable def dbin (P : Program) (op : BinOp) (t : TypeId) (x y : SV) (K : SV → TR R) : TR R :=
  match x, y with
  | .v (.int k a), .v (.int k' b) =>
    match op with
    | .quo => if k = k' then (br (b = 0) .fail (K (.v (.int k (wr k (a.tdiv b)))))) else .fail
    | .rem => if k = k' then (br (b = 0) .fail (K (.v (.int k (a.tmod b))))) else .fail
    | .shl => br (b < 0) .fail (K (.v (.int k (wr k (a * 2 ^ min b.toNat k.bits)))))
    | .shr => br (b < 0) .fail (K (.v (.int k (a / (2 ^ min b.toNat k.bits)))))
    | .add => if k = k' then K (.v (.int k (wr k (a + b)))) else .fail
    | .sub => if k = k' then K (.v (.int k (wr k (a - b)))) else .fail
    | .mul => if k = k' then K (.v (.int k (wr k (a * b)))) else .fail
    | .and => if k = k' then K (.v (.int k (bits .and k a b))) else .fail
    | .or => if k = k' then K (.v (.int k (bits .or k a b))) else .fail
    | .xor => if k = k' then K (.v (.int k (bits .xor k a b))) else .fail
    | .andNot => if k = k' then K (.v (.int k (bits .andNot k a b))) else .fail
    | op => if k = k' then
        match dcmp op a b with
        | some r => K r
        | none => lift (pureRun P (binOp op t (.int k a) (.int k b))) K
      else .fail
  | .v (.string a), .v (.string b) => lift (pureRun P (binOp op t (.string a) (.string b))) K
  | .agg xs, .agg ys =>
    match P.underlying t, op with
    | some (.array n e), .eql =>
      match P.underlying e with
      | some (.int k) => match intsOf k xs, intsOf k ys with
        | some as, some bs => if as.length = n ∧ bs.length = n ∧ P.eqGuardType P.depth t = false ∧ szc P e = some 1 then K (.pr (conj (as.zip bs)) (conjD _)) else .fail
        | _, _ => .fail
      | _ => .fail
    | some (.array n e), .neq =>
      match P.underlying e with
      | some (.int k) => match intsOf k xs, intsOf k ys with
        | some as, some bs => if as.length = n ∧ bs.length = n ∧ P.eqGuardType P.depth t = false ∧ szc P e = some 1 then K (.pr (¬ conj (as.zip bs)) (@instDecidableNot _ (conjD _))) else .fail
        | _, _ => .fail
      | _ => .fail
    | some (.struct fs), .eql => match structEq P t fs xs ys with
      | some l => K (.pr (conj l) (conjD l))
      | none => .fail
    | some (.struct fs), .neq => match structEq P t fs xs ys with
      | some l => K (.pr (¬ conj l) (@instDecidableNot _ (conjD l)))
      | none => .fail
    | _, _ => .fail
  | x, y =>
    match toB x, toB y, op, P.underlying t with
    | some a, some b, .eql, some .bool => K (.v (.bool (a == b)))
    | some a, some b, .neq, some .bool => K (.v (.bool (!(a == b))))
    | _, _, _, _ => .fail
noncomputable def dun (P : Program) (op : UnOp) (x : SV) (K : SV → TR R) : TR R :=
  match op, x with
  | .not, .v (.bool b) => K (.v (.bool !b))
  | .not, .pr p d => K (.pr (¬ p) (@instDecidableNot p d))
  | .neg, .v (.int k a) => K (.v (.int k (wr k (0 - a))))
  | .xor, .v (.int k a) => K (.v (.int k (bits .xor k (if k.signed then -1 else k.max) a)))
  | _, _ => .fail
noncomputable def SV.cs : SV → List SV
  | .agg cs => cs
  | x => [x]
noncomputable def SV.one : SV → Bool
  | .v (.agg _) | .v (.tuple _) => false
  | .v _ | .pr .. | .err .. | .ptr .. | .pti .. | .ro _ | .rp .. | .sl _ | .vp .. => true
  | _ => false
noncomputable def zeroCs (P : Program) (t : TypeId) : Option (List SV) :=
  match (P.info? t).bind (·.zero) with
  | some z => some (z.cells.toList.map .v)
  | none => none
noncomputable def dpart (P : Program) (t : TypeId) (cs : List SV) (off : Nat) : Option SV :=
  match isAgg? P t, szc P t with
  | some true, some s => if off + s ≤ cs.length then some (.agg ((cs.drop off).take s)) else none
  | some false, some _ => cs[off]?
  | _, _ => none
noncomputable def putCs : List SV → Nat → List SV → List SV
  | cs, _, [] => cs
  | cs, o, v :: r => putCs (cs.set o v) (o + 1) r
noncomputable def dfill (place : Nat → Option (Nat × Nat)) (cells : List SV) : List (Nat × SV) → Option (List SV)
  | [] => some cells
  | (i, v) :: rest =>
    match place i with
    | none => none
    | some (off, size) =>
      if v.cs.length ≠ size ∨ off + v.cs.length > cells.length ∨ v.cs.all SV.one = false then none
      else dfill place (putCs cells off v.cs) rest
noncomputable def dbuild (P : Program) (t : TypeId) (parts : List (Nat × SV)) : Option SV :=
  match zeroCs P t, P.underlying t with
  | some z, some (.struct fields) =>
    if fields.toList.all (fun f => (szc P f.type).isSome) = true then
      (dfill (fun i => (fields[i]?).map fun f => (f.offset, (szc P f.type).getD 0)) z parts).map .agg
    else none
  | some z, some (.array _ e) =>
    match szc P e with
    | some s => (dfill (fun i => some (i * s, s)) z parts).map .agg
    | none => none
  | _, _ => none
inductive Eff where
  | no
  | new (ob : SO)
  | set (s : Nat) (ob : SO)
noncomputable def Tbl : Type 1 := ∀ (R : Type), Nat → List SV → (SV → TR R) → TR R
noncomputable def dload (P : Program) (st : St) (t : TypeId) (x : SV) (K : SV → TR R) : TR R :=
  match x with
  | .ptr s off =>
    match st.o s with
    | some (.cells cs) => match dpart P t cs off with
      | some v => K v
      | none => .fail
    | _ => .fail
  | .pti s off n i =>
    match st.o s, P.underlying t with
    | some (.cells cs), some (.int k) =>
      match intsOf k ((cs.drop off).take n) with
      | some xs => if xs.length = n then K (.v (.int k (xs.getD i.toNat 0))) else .fail
      | none => .fail
    | _, _ => .fail
  | .rp l i =>
    match l, P.underlying t with
    | .ints k xs, some (.int k') => if k = k' then K (.v (.int k (xs.getD i.toNat 0))) else .fail
    | .strs xs, some .string => K (.v (.string (xs.getD i.toNat ByteArray.empty)))
    | _, _ => .fail
  | .vp s i =>
    match st.o s, P.underlying t with
    | some (.vec (.ints k xs)), some (.int k') => if k = k' then K (.v (.int k (xs.getD i.toNat 0))) else .fail
    | _, _ => .fail
  | _ => .fail
noncomputable def dstore (P : Program) (st : St) (t : TypeId) (x v : SV) (K : Eff → TR R) : TR R :=
  match x with
  | .ptr s off =>
    match st.o s, szc P t with
    | some (.cells cs), some sz =>
      if v.cs.length = sz ∧ off + sz ≤ cs.length ∧ v.cs.all SV.one = true then K (.set s (.cells (cs.take off ++ v.cs ++ cs.drop (off + v.cs.length)))) else .fail
    | _, _ => .fail
  | .pti s off n i =>
    match st.o s, v, szc P t with
    | some (.cells cs), .v (.int k y), some 1 =>
      match intsOf k ((cs.drop off).take n) with
      | some xs => if xs.length = n then K (.set s (.cells (cs.take off ++ setC k i y xs 0 ++ cs.drop (off + n)))) else .fail
      | none => .fail
    | _, _, _ => .fail
  | .vp s i =>
    match st.o s, v, szc P t with
    | some (.vec (.ints k xs)), .v (.int k' y), some 1 => if k = k' then K (.set s (.vec (.ints k (xs.set i.toNat y)))) else .fail
    | _, _, _ => .fail
  | _ => .fail
noncomputable def dindexAddr (P : Program) (st : St) (t : TypeId) (x : SV) (ix : Operand) (K : SV → TR R) : TR R :=
  match P.underlying t with
  | some (.array n e) =>
    match x, szc P e with
    | .ptr s off, some sz =>
      match ix with
      | .const (.int _ (.ofNat j)) => if j < n then K (.ptr s (off + j * sz)) else .fail
      | _ =>
        match ev st ix, sz with
        | .v (.int _ i), 1 => br (0 ≤ i ∧ i < (n : Int)) (K (.pti s off n i)) .fail
        | .v (.int _ (.ofNat j)), _ => if j < n then K (.ptr s (off + j * sz)) else .fail
        | _, _ => .fail
    | _, _ => .fail
  | some (.slice e) =>
    match x, szc P e, ev st ix with
    | .ro l, some 1, .v (.int _ i) => br (0 ≤ i ∧ i < (l.len : Int)) (K (.rp l i)) .fail
    | .sl s, some 1, .v (.int _ i) =>
      match st.o s with
      | some (.vec l) => br (0 ≤ i ∧ i < (l.len : Int)) (K (.vp s i)) .fail
      | _ => .fail
    | _, _, _ => .fail
  | _ => .fail
noncomputable def dindex (P : Program) (st : St) (t : TypeId) (x : SV) (ix : Operand) (K : SV → TR R) : TR R :=
  match P.underlying t, x with
  | some (.array n e), .agg cs =>
    match szc P e, isAgg? P e with
    | some 1, some false =>
      match ix with
      | .const (.int _ (.ofNat j)) => if j < n ∧ cs.length = n then (match cs[j]? with | some v => K v | none => .fail) else .fail
      | _ =>
        match ev st ix, P.underlying e with
        | .v (.int _ i), some (.int k) =>
          match intsOf k cs with
          | some xs => if xs.length = n then (br (0 ≤ i ∧ i < (n : Int)) (K (.v (.int k (xs.getD i.toNat 0)))) .fail) else .fail
          | none => .fail
        | _, _ => .fail
    | _, _ => .fail
  | some .string, .v (.string s) =>
    match ev st ix with
    | .v (.int _ i) => br (0 ≤ i ∧ i < (s.size : Int)) (K (.v (.int .u8 (s.data.toList.getD i.toNat 0).toNat))) .fail
    | _ => .fail
  | _, _ => .fail
noncomputable def SV.c1 : SV → Bool
  | .v _ | .pr .. | .err .. | .ro _ => true
  | _ => false
noncomputable def SV.clean : SV → Bool
  | .agg cs => cs.all SV.c1
  | x => x.c1
noncomputable def argOf (st : St) : SV → Option SV
  | .sl s => match st.o s with
    | some (.vec l) => some (.ro l)
    | some (.fz l) => some (.ro l)
    | _ => none
  | x => if x.clean then some x else none
noncomputable def argsOf (st : St) : List SV → Option (List SV)
  | [] => some []
  | x :: r => match argOf st x with
    | some y => match argsOf st r with
      | some l => some (y :: l)
      | none => none
    | none => none
noncomputable def SV.p1 : SV → Bool
  | .v _ | .pr .. | .err .. => true
  | _ => false
noncomputable def SV.p2 : SV → Bool
  | .agg cs => cs.all SV.p1
  | x => x.p1
noncomputable def SV.plain : SV → Bool
  | .tup cs => cs.all SV.p2
  | x => x.p2
noncomputable def SV.clean3 : SV → Bool
  | .tup cs => cs.all SV.clean
  | x => x.clean
noncomputable def SV.own1 : SV → Bool
  | .sl _ => true
  | _ => false
noncomputable def resOK (args : List SV) (v : SV) : Bool := v.plain || (v.clean3 && !args.any SV.own1)
noncomputable def brB (v : SV) (t e : TR R) : TR R :=
  match v with
  | .v (.bool b) => br (b = true) t e
  | .pr p d => .br p d t e
  | _ => .fail
noncomputable def dpick (c a b : SV) (K : SV → TR R) : TR R := brB c (K a) (K b)
noncomputable def dop (P : Program) (T : Tbl) (st : St) (o : Oper) (K : SV → Eff → TR R) : TR R :=
  match o.op with
  | .move x => K (ev st x) .no
  | .assign x => K (ev st x) .no
  | .pick c a b => dpick (ev st c) (ev st a) (ev st b) fun v => K v .no
  | .binOp op t x y _ =>
    match y, ev st x with
    | .const .nilIface, .err _ _ z =>
      match op, P.underlying t with
      | .eql, some (.interface _) => K (.pr (z.isNone = true) (instDecidableEqBool _ _)) .no
      | .neq, some (.interface _) => K (.pr (¬ z.isNone = true) (@instDecidableNot _ (instDecidableEqBool _ _))) .no
      | _, _ => .fail
    | _, _ => dbin P op t (ev st x) (ev st y) fun v => K v .no
  | .unOp op _ x => dun P op (ev st x) fun v => K v .no
  | .convert s d x =>
    match ev st x with
    | .v (.int _ n) => match P.underlying s, P.underlying d with
      | some _, some (.int k) => K (.v (.int k (wr k n))) .no
      | _, _ => .fail
    | _ => .fail
  | .build t ps => match dbuild P t (ps.toList.map fun (i, x) => (i, ev st x)) with
    | some v => K v .no
    | none => .fail
  | .field t x f => match ev st x, P.underlying t with
    | .agg cs, some (.struct fs) => match fs[f]? with
      | some fd => match dpart P fd.type cs fd.offset with
        | some v => K v .no
        | none => .fail
      | none => .fail
    | _, _ => .fail
  | .index t x i => dindex P st t (ev st x) i fun v => K v .no
  | .extract x i => match ev st x with
    | .tup vs => match vs[i]? with
      | some v => K v .no
      | none => .fail
    | _ => .fail
  | .alloc t => match zeroCs P t with
    | some z => K (.ptr st.n 0) (.new (.cells z))
    | none => .fail
  | .box _ x => if (ev st x).cs.all SV.one = true then K (.ptr st.n 0) (.new (.cells (ev st x).cs)) else .fail
  | .buildSlice t n ps =>
    match P.underlying t with
    | some (.slice e) => match szc P e, zeroCs P e, P.underlying e with
      | some 1, some [z], some (.int k) =>
        if n ≤ 1000 then
        match dfill (fun i => some (i, 1)) (List.replicate n z) (ps.toList.map fun (i, x) => (i, ev st x)) with
        | some cs => match intsOf k cs with
          | some xs => K (.sl st.n) (.new (.vec (.ints k xs)))
          | none => .fail
        | none => .fail
        else .fail
      | _, _, _ => .fail
    | _ => .fail
  | .load t a => dload P st t (ev st a) fun v => K v .no
  | .store t a x => dstore P st t (ev st a) (ev st x) fun e => K .junk e
  | .nilCheck x => match ev st x with
    | .ptr s f => K (.ptr s f) .no
    | _ => .fail
  | .fieldAddr t x f => match ev st x, P.underlying t with
    | .ptr s off, some (.struct fs) => match fs[f]? with
      | some fd => match szc P fd.type with
        | some (_ + 1) => K (.ptr s (off + fd.offset)) .no
        | _ => .fail
      | none => .fail
    | _, _ => .fail
  | .indexAddr t x i => dindexAddr P st t (ev st x) i fun v => K v .no
  | .makeInterface t x => match ev st x, P.underlying t with
    | .v (.int k n), some (.int _) => K (.err t k (some n)) .no
    | _, _ => .fail
  | .call c =>
    match c.callee with
    | .value (.func f) => match argsOf st (c.args.toList.map (ev st)) with
      | some as => T R f as fun v => if resOK (c.args.toList.map (ev st)) v = true then K v .no else .fail
      | none => .fail
    | .value (.tmp t) => match st.t t with
      | .v (.func (.func f) fi ca) =>
        if fi.size = 0 ∧ ca.size = 0 then
          match argsOf st (c.args.toList.map (ev st)) with
          | some as => T R f as fun v => if resOK (c.args.toList.map (ev st)) v = true then K v .no else .fail
          | none => .fail
        else .fail
      | _ => .fail
    | .builtin .len => match c.argTypes[0]?, c.args[0]? with
      | some t, some x => match P.underlying t, ev st x with
        | some .string, .v (.string s) => K (.v (.int .i64 s.size)) .no
        | some (.slice _), .ro l => K (.v (.int .i64 l.len)) .no
        | some (.slice _), .v (.slice none 0 0) => K (.v (.int .i64 0)) .no
        | some (.slice _), .sl s => match st.o s with
          | some (.vec l) => K (.v (.int .i64 l.len)) .no
          | some (.fz l) => K (.v (.int .i64 l.len)) .no
          | _ => .fail
        | some (.array n _), _ => K (.v (.int .i64 n)) .no
        | _, _ => .fail
      | _, _ => .fail
    | .builtin .max => match c.args.toList.map (ev st) with
      | [.v (.int k a), .v (.int k' b)] => if k = k' then K (.v (.int k (if b > a then b else a))) .no else .fail
      | _ => .fail
    | .builtin .min => match c.args.toList.map (ev st) with
      | [.v (.int k a), .v (.int k' b)] => if k = k' then K (.v (.int k (if b < a then b else a))) .no else .fail
      | _ => .fail
    | _ => .fail
  | _ => .fail
noncomputable def St.put (st : St) (d : Option Tmp) (v : SV) : St :=
  match d with
  | some d => if d < st.nt then { st with t := fun x => if x = d then v else st.t x } else st
  | none => st
noncomputable def St.refine (st : St) (x : Operand) (b : Bool) : St :=
  match x with
  | .tmp d => { st with t := fun y => if y = d then .v (.bool b) else st.t y }
  | _ => st
noncomputable def St.eff (st : St) : Eff → St
  | .no => st
  | .new ob => { st with o := fun s => if s = st.n then some ob else st.o s, n := st.n + 1 }
  | .set s ob => { st with o := fun x => if x = s then some ob else st.o x }
noncomputable def dops (P : Program) (T : Tbl) (ops : Array Oper) (st : St) (K : St → TR R) : List Oper → TR R
  | [] => K st
  | o :: r =>
    match o.guard with
    | none => dop P T st o fun v e => dops P T ops ((st.eff e).put o.dst v) K r
    | some (j, want) =>
      match (ops[j]?).bind (·.dst) with
      | some d =>
        match st.t d with
        | .v (.tuple _) => dops P T ops (st.put o.dst (.v undef)) K r
        | g =>
          if want = true then brB g (dop P T (st.refine (.tmp d) true) o fun v e => dops P T ops (((st.refine (.tmp d) true).eff e).put o.dst v) K r) (dops P T ops ((st.refine (.tmp d) false).put o.dst (.v undef)) K r)
          else brB g (dops P T ops ((st.refine (.tmp d) true).put o.dst (.v undef)) K r) (dop P T (st.refine (.tmp d) false) o fun v e => dops P T ops (((st.refine (.tmp d) false).eff e).put o.dst v) K r)
      | none => .fail
noncomputable def sites : SV → List Nat
  | .ptr s _ => [s]
  | .pti s _ _ _ => [s]
  | .sl s => [s]
  | .vp s _ => [s]
  | _ => []
noncomputable def optmps (o : Oper) : List Tmp := o.op.operands.toList.filterMap fun | .tmp t => some t | _ => none
noncomputable def orefs (st : St) (o : Oper) : List Nat := o.op.operands.toList.flatMap fun x => sites (ev st x)
noncomputable def St.min (st : St) (o : Oper) : St :=
  { t := fun x => if (optmps o).contains x = true then st.t x else .junk, o := fun s => if (orefs st o).contains s = true then st.o s else none, n := st.n, nt := st.nt }
structure FP where
  wr : List Nat
  rf : List Nat
noncomputable def Eff.wr (e : Eff) (n : Nat) : List Nat :=
  match e with
  | .no => []
  | .new _ => [n]
  | .set s _ => [s]
noncomputable def St.at (st : St) (n : Nat) : St := { st with n := n }
noncomputable def dopsD (P : Program) (T : Tbl) (ops : Array Oper) (base : Nat) (K : St → List FP → TR R) : List Oper → Nat → St → List FP → TR R
  | [], _, st, log => K st log
  | o :: r, i, st, log =>
    match o.guard with
    | none => dop P T (st.at (base + i)) o fun v e => dopsD P T ops base K r (i + 1) (((st.at (base + i)).eff e).put o.dst v) (log ++ [⟨e.wr (base + i), orefs (st.at (base + i)) o⟩])
    | some (j, want) =>
      match (ops[j]?).bind (·.dst) with
      | some d =>
        match st.t d with
        | .v (.tuple _) => dopsD P T ops base K r (i + 1) ((st.at (base + i)).put o.dst (.v undef)) (log ++ [⟨[], []⟩])
        | g =>
          if want = true then brB g (dop P T ((st.refine (.tmp d) true).at (base + i)) o fun v e => dopsD P T ops base K r (i + 1) ((((st.refine (.tmp d) true).at (base + i)).eff e).put o.dst v) (log ++ [⟨e.wr (base + i), orefs ((st.refine (.tmp d) true).at (base + i)) o⟩]))
            (dopsD P T ops base K r (i + 1) (((st.refine (.tmp d) false).at (base + i)).put o.dst (.v undef)) (log ++ [⟨[], []⟩]))
          else brB g (dopsD P T ops base K r (i + 1) (((st.refine (.tmp d) true).at (base + i)).put o.dst (.v undef)) (log ++ [⟨[], []⟩]))
            (dop P T ((st.refine (.tmp d) false).at (base + i)) o fun v e => dopsD P T ops base K r (i + 1) ((((st.refine (.tmp d) false).at (base + i)).eff e).put o.dst v) (log ++ [⟨e.wr (base + i), orefs ((st.refine (.tmp d) false).at (base + i)) o⟩]))
      | none => .fail
noncomputable def force {α : Type} (n : Nat) (K : Nat → α) : α :=
  match n with
  | 0 => K 0
  | m + 1 => K (m + 1)
noncomputable def maskOf (acc : List Nat) (j : Nat) (es : List Edge) : Nat :=
  es.foldl (fun s e => if Region.binds .any e = true ∧ e.on < j then s ||| 2 ^ e.on ||| acc.getD e.on 0 else s) 0
noncomputable def masks : List Oper → Nat → List Nat → List Nat
  | [], _, acc => acc
  | o :: r, j, acc => force (maskOf acc j o.after.toList) fun m => masks r (j + 1) (acc ++ [m])
noncomputable def gtmps (ops : Array Oper) (o : Oper) : List Tmp :=
  match o.guard with
  | some (j, _) => ((ops[j]?).bind (·.dst)).toList
  | none => []
noncomputable def meets (l m : List Nat) : Bool := l.any fun x => m.contains x
noncomputable def clash (ops : Array Oper) (x y : Oper) (f g : FP) : Bool :=
  meets x.dst.toList (y.dst.toList ++ optmps y ++ gtmps ops y) || meets y.dst.toList (optmps x ++ gtmps ops x) ||
  meets f.wr (g.wr ++ g.rf) || meets g.wr f.rf
noncomputable def ordered1 (ops : Array Oper) (m : Nat) (y : Oper) (g : FP) : List Oper → List FP → Nat → Bool
  | x :: xs, f :: fs, i => (!clash ops x y f g || m.testBit i) && ordered1 ops m y g xs fs (i + 1)
  | [], [], _ => true
  | _, _, _ => false
noncomputable def orderedAll (ops : Array Oper) (nt : Nat) : List Oper → List FP → List Nat → List Oper → List FP → Bool
  | y :: ys, g :: gs, m :: ms, xs, fs =>
    ordered1 ops m y g xs fs 0 && (y.dst.all fun d => d < nt) && (y.after.all fun e => !Region.binds .any e || e.on < xs.length) &&
    orderedAll ops nt ys gs ms (xs ++ [y]) (fs ++ [g])
  | [], [], [], _, _ => true
  | _, _, _, _, _ => false
inductive Ex where
  | normal
  | exit (id : Nat)
  | ret
noncomputable def firstId : Code → Nat
  | .region id _ _ => id
  | .block id _ => id
  | .seq a _ => firstId a
  | .loop b => firstId b
  | _ => 0
noncomputable def loopsAt (id : Nat) : Code → List Code
  | .seq a b => loopsAt id a ++ loopsAt id b
  | .cond _ a b => loopsAt id a ++ loopsAt id b
  | .block _ a => loopsAt id a
  | .loop a => if firstId a = id then a :: loopsAt id a else loopsAt id a
  | _ => []
noncomputable def Cuts : Type 1 := ∀ (R : Type), Nat → St → (Ex → St → TR R) → Option (TR R)
noncomputable def dloop (body : (R : Type) → St → (Ex → St → TR R) → TR R) : Nat → St → (Ex → St → TR R) → TR R
  | 0, _, _ => .fail
  | n + 1, st, K => body R st fun e s => match e with
    | .normal => dloop body n s K
    | e => K e s
noncomputable def den (P : Program) (T : Tbl) (C : Cuts) (c : Code) : (R : Type) → St → (Ex → St → TR R) → TR R :=
  match c with
  | .skip => fun _ st K => K .normal st
  | .region _ ops draw => fun _ st K =>
    if draw = true then dopsD P T ops st.n (fun s log => if orderedAll ops st.nt ops.toList log (masks ops.toList 0 []) [] [] = true then K .normal (s.at (st.n + ops.size)) else .fail) ops.toList 0 st []
    else dops P T ops st (K .normal) ops.toList
  | .seq a b => fun _ st K => den P T C a _ st fun e s => match e with
    | .normal => den P T C b _ s K
    | e => K e s
  | .cond c a b => fun _ st K => brB (ev st c) (den P T C a _ (st.refine c true) K) (den P T C b _ (st.refine c false) K)
  | .block id a => fun _ st K => den P T C a _ st fun e s => match e with
    | .exit i => if i = id then K .normal s else K (.exit i) s
    | e => K e s
  | .loop a => fun _ st K => match C _ (firstId a) st K with
    | some r => r
    | none => dloop (den P T C a) 20 st K
  | .exit i => fun _ st K => K (.exit i) st
  | .ret => fun _ st K => K .ret st
  | _ => fun _ _ _ => .fail
noncomputable def dres1 (P : Program) (st : St) (v : ResultVar) : Option SV :=
  match v with
  | .tmp t => some (st.t t)
  | .cell t ty => match st.t t with
    | .ptr s off => match st.o s with
      | some (.cells cs) => dpart P ty cs off
      | _ => none
    | _ => none
noncomputable def dresL (P : Program) (st : St) : List ResultVar → Option (List SV)
  | [] => some []
  | v :: r => match dres1 P st v with
    | some x => match dresL P st r with
      | some l => some (x :: l)
      | none => none
    | none => none
noncomputable def fin1 (st : St) (x : SV) : SV :=
  match x with
  | .sl s => match st.o s with
    | some (.vec l) => .ro l
    | _ => .junk
  | x => if x.c1 = true then x else .junk
noncomputable def fin2 (st : St) (x : SV) : SV :=
  match x with
  | .agg cs => .agg (cs.map (fin1 st))
  | x => fin1 st x
noncomputable def tup1 : List SV → SV
  | [x] => x
  | l => .tup l
noncomputable def fnK (P : Program) (fn : Func) (dec : SV → Option R) (e : Ex) (st : St) : TR R :=
  match e with
  | .exit _ => .fail
  | _ => match dresL P st fn.results.toList with
    | some l => match dec (tup1 (l.map (fin2 st))) with
      | some y => .ret y
      | none => .fail
    | none => .fail
noncomputable def st0 (nt : Nat) (args : List SV) : St := { t := fun n => args.getD n .junk, o := fun _ => none, n := 0, nt := nt }
noncomputable def dfn (P : Program) (T : Tbl) (C : Cuts) (fn : Func) (dec : SV → Option R) (args : List SV) : TR R :=
  match fn.body with
  | some c => den P T C c R (st0 fn.ntmps args) (fnK P fn dec)
  | none => .fail
end ops
end Go.Proofs.Ythcgeekibomhiaa.Den
namespace Go.Proofs.Ythcgeekibomhiaa.Den
set_option linter.unusedVariables false
set_option linter.unusedSimpArgs false
set_option linter.unusedSectionVars false
open Go Go.RowKit
structure Io where
  f : Nat → Option (Nat × Nat)
  no : Nat → Prop
instance : CoeFun Io fun _ => Nat → Option (Nat × Nat) := ⟨Io.f⟩
def ownI (ι : Io) (b : Nat) : Prop := ∃ s n, ι s = some (b, n)
def own (ι : Io) (b : Nat) : Prop := ownI ι b ∨ ι.no b
def encErr (t : Nat) (k : IntKind) : Option Int → Value
  | none => .nilIface
  | some n => .iface t (.int k n)
def Reads (ι : Io) (w : World) (l : LV) (y : Value) : Prop :=
  ∃ A c, y = .slice A l.len c ∧ l.len ≤ c ∧ l.len ≤ 9223372036854775807 ∧
    (0 < l.len → ∃ b off, A = some ⟨b, off, none⟩ ∧ b < w.heap.size ∧ ¬ own ι b ∧ ∀ (j : Nat) (v : Value), l.cells[j]? = some v → w.cell? ⟨b, off + j, none⟩ = some v)
mutual
def RV (ι : Io) (w : World) : SV → Value → Prop
  | .v x, y => y = x
  | .pr p d, y => y = .bool (@decide p d)
  | .err t k z, y => y = encErr t k z
  | .ptr s off, y => ∃ b n, ι s = some (b, n) ∧ y = .pointer (some ⟨b, off, none⟩)
  | .pti s off n i, y => ∃ b m, ι s = some (b, m) ∧ 0 ≤ i ∧ i < (n : Int) ∧ y = .pointer (some ⟨b, off + i.toNat, none⟩)
  | .agg cs, y => ∃ vs : List Value, y = .agg vs.toArray ∧ RVL ι w cs vs
  | .tup cs, y => ∃ vs : List Value, y = .tuple vs.toArray ∧ RVL ι w cs vs
  | .ro l, y => Reads ι w l y
  | .rp l i, y => 0 ≤ i ∧ i < (l.len : Int) ∧ ∃ b off, y = .pointer (some ⟨b, off + i.toNat, none⟩) ∧ b < w.heap.size ∧ ¬ own ι b ∧ ∀ (j : Nat) (v : Value), l.cells[j]? = some v → w.cell? ⟨b, off + j, none⟩ = some v
  | .sl s, y => ∃ b n c, ι s = some (b, n) ∧ y = .slice (some ⟨b, 0, none⟩) n c ∧ n ≤ c ∧ n ≤ 9223372036854775807
  | .vp s i, y => ∃ b n, ι s = some (b, n) ∧ 0 ≤ i ∧ i < (n : Int) ∧ y = .pointer (some ⟨b, i.toNat, none⟩)
  | .junk, _ => True
def RVL (ι : Io) (w : World) : List SV → List Value → Prop
  | [], [] => True
  | v :: r, y :: s => RV ι w v y ∧ RVL ι w r s
  | _, _ => False
end
def RO (ι : Io) (w : World) (b n : Nat) : SO → Prop
  | .cells cs => ∃ (c : List Value) (e : TypeId), w.heap[b]? = some (.cells c.toArray e (0, 0)) ∧ RVL ι w cs c
  | .vec l => n = l.len ∧ ∃ (c : List Value) (e : TypeId), w.heap[b]? = some (.cells c.toArray e (0, 0)) ∧ ∀ (j : Nat) (v : Value), l.cells[j]? = some v → c[j]? = some v
  | .fz _ => False
structure Rel (N : Nat) (ι : Io) (st : St) (a : Act) (w : World) : Prop where
  defers : a.defers = []
  size : a.tmps.size = N
  nt : st.nt = N
  tmps : ∀ t, RV ι w (st.t t) (a.tmps.getD t undef)
  objs : ∀ s ob, st.o s = some ob → ∃ b n, ι s = some (b, n) ∧ RO ι w b n ob
  dom : ∀ s b n, ι s = some (b, n) → b < w.heap.size
  ndom : ∀ b, ι.no b → b < w.heap.size
  inj : ∀ s s' b n n', ι s = some (b, n) → ι s' = some (b, n') → s = s'
structure Fr (ι : Io) (w : World) (ι' : Io) (w' : World) : Prop where
  os : w'.os = w.os
  tape : w'.tape = w.tape
  output : w'.output = w.output
  size : w.heap.size ≤ w'.heap.size
  blk : ∀ b, b < w.heap.size → ¬ ownI ι b → w'.heap[b]? = w.heap[b]?
  no : ι'.no = ι.no
  ext : ∀ s x, ι s = some x → ι' s = some x
  fresh : ∀ s b n, ι' s = some (b, n) → ι s = some (b, n) ∨ w.heap.size ≤ b
theorem Fr.refl (ι : Io) (w : World) : Fr ι w ι w := ⟨rfl, rfl, rfl, Nat.le_refl _, fun _ _ _ => rfl, rfl, fun _ _ h => h, fun _ _ _ h => .inl h⟩
theorem Fr.ownI_old {ι ι' : Io} {w w' : World} (h : Fr ι w ι' w') {b : Nat} (hb : b < w.heap.size) (ho : ¬ ownI ι b) : ¬ ownI ι' b := by
  rintro ⟨s, n, hs⟩
  rcases h.fresh s b n hs with h' | h'
  · exact ho ⟨s, n, h'⟩
  · omega
theorem Fr.own_old {ι ι' : Io} {w w' : World} (h : Fr ι w ι' w') {b : Nat} (hb : b < w.heap.size) (ho : ¬ own ι b) : ¬ own ι' b := by
  rintro (hi | hn)
  · exact h.ownI_old hb (fun k => ho (.inl k)) hi
  · rw [h.no] at hn; exact ho (.inr hn)
theorem not_ownI {ι : Io} {b : Nat} (h : ¬ own ι b) : ¬ ownI ι b := fun k => h (.inl k)
theorem Fr.trans {ι ι' ι'' : Io} {w w' w'' : World} (h : Fr ι w ι' w') (k : Fr ι' w' ι'' w'') : Fr ι w ι'' w'' where
  os := k.os.trans h.os
  tape := k.tape.trans h.tape
  output := k.output.trans h.output
  size := Nat.le_trans h.size k.size
  blk b hb ho := (k.blk b (Nat.lt_of_lt_of_le hb h.size) (h.ownI_old hb ho)).trans (h.blk b hb ho)
  no := k.no.trans h.no
  ext s x hs := k.ext s x (h.ext s x hs)
  fresh s b n hs := by
    rcases k.fresh s b n hs with h' | h'
    · exact h.fresh s b n h'
    · exact .inr (Nat.le_trans h.size h')
theorem cell_of_blk {w w' : World} {b : Nat} (h : w'.heap[b]? = w.heap[b]?) (o : Nat) : w'.cell? ⟨b, o, none⟩ = w.cell? ⟨b, o, none⟩ := by
  simp [World.cell?, h]
theorem Reads.fr {ι ι' : Io} {w w' : World} {l : LV} {y : Value} (h : Fr ι w ι' w') (r : Reads ι w l y) : Reads ι' w' l y := by
  obtain ⟨A, c, h1, h2, h3, r⟩ := r
  refine ⟨A, c, h1, h2, h3, fun hl => ?_⟩
  obtain ⟨b, off, hy, hb, ho, hc⟩ := r hl
  exact ⟨b, off, hy, Nat.lt_of_lt_of_le hb h.size, h.own_old hb ho, fun j v hj => by rw [cell_of_blk (h.blk b hb (not_ownI ho))]; exact hc j v hj⟩
mutual
theorem RV.fr {ι ι' : Io} {w w' : World} (h : Fr ι w ι' w') : ∀ {v : SV} {y : Value}, RV ι w v y → RV ι' w' v y
  | .v _, _, r => r
  | .pr _ _, _, r => r
  | .err .., _, r => r
  | .ptr .., _, ⟨b, n, hs, hy⟩ => ⟨b, n, h.ext _ _ hs, hy⟩
  | .pti .., _, ⟨b, n, hs, hy⟩ => ⟨b, n, h.ext _ _ hs, hy⟩
  | .agg cs, _, ⟨vs, hy, hl⟩ => ⟨vs, hy, RVL.fr h hl⟩
  | .tup cs, _, ⟨vs, hy, hl⟩ => ⟨vs, hy, RVL.fr h hl⟩
  | .ro l, _, r => Reads.fr h r
  | .rp l i, _, ⟨h0, h1, b, off, hy, hb, ho, hc⟩ =>
    ⟨h0, h1, b, off, hy, Nat.lt_of_lt_of_le hb h.size, h.own_old hb ho, fun j v hj => by rw [cell_of_blk (h.blk b hb (not_ownI ho))]; exact hc j v hj⟩
  | .sl s, _, ⟨b, n, c, hs, hy⟩ => ⟨b, n, c, h.ext _ _ hs, hy⟩
  | .vp .., _, ⟨b, n, hs, hy⟩ => ⟨b, n, h.ext _ _ hs, hy⟩
  | .junk, _, _ => trivial
theorem RVL.fr {ι ι' : Io} {w w' : World} (h : Fr ι w ι' w') : ∀ {v : List SV} {y : List Value}, RVL ι w v y → RVL ι' w' v y
  | [], [], _ => trivial
  | _ :: _, _ :: _, ⟨a, b⟩ => ⟨RV.fr h a, RVL.fr h b⟩
  | [], _ :: _, r => r.elim
  | _ :: _, [], r => r.elim
end
theorem RVL.length {ι : Io} {w : World} : ∀ {v : List SV} {y : List Value}, RVL ι w v y → v.length = y.length
  | [], [], _ => rfl
  | _ :: _, _ :: _, ⟨_, b⟩ => by simp [RVL.length b]
  | [], _ :: _, r => r.elim
  | _ :: _, [], r => r.elim
theorem RVL.get {ι : Io} {w : World} : ∀ {v : List SV} {y : List Value}, RVL ι w v y → ∀ {i : Nat} {x : SV}, v[i]? = some x → ∃ u, y[i]? = some u ∧ RV ι w x u
  | [], [], _, i, x, h => by simp at h
  | v :: r, y :: s, ⟨a, b⟩, 0, x, h => by simp at h; subst h; exact ⟨y, by simp, a⟩
  | v :: r, y :: s, ⟨a, b⟩, i + 1, x, h => by simp at h; simpa using RVL.get b h
  | [], _ :: _, r, _, _, _ => r.elim
  | _ :: _, [], r, _, _, _ => r.elim
theorem RVL.drop {ι : Io} {w : World} : ∀ {v : List SV} {y : List Value} (n : Nat), RVL ι w v y → RVL ι w (v.drop n) (y.drop n)
  | _, _, 0, h => by simpa using h
  | [], [], n + 1, h => by simp [RVL]
  | _ :: _, _ :: _, n + 1, ⟨_, b⟩ => by simpa using RVL.drop n b
  | [], _ :: _, _ + 1, r => r.elim
  | _ :: _, [], _ + 1, r => r.elim
theorem RVL.take {ι : Io} {w : World} : ∀ {v : List SV} {y : List Value} (n : Nat), RVL ι w v y → RVL ι w (v.take n) (y.take n)
  | _, _, 0, _ => by simp [RVL]
  | [], [], n + 1, h => by simp [RVL]
  | _ :: _, _ :: _, n + 1, ⟨a, b⟩ => by simpa [RVL] using ⟨a, RVL.take n b⟩
  | [], _ :: _, _ + 1, r => r.elim
  | _ :: _, [], _ + 1, r => r.elim
theorem RVL.set {ι : Io} {w : World} : ∀ {v : List SV} {y : List Value} (n : Nat) {x : SV} {u : Value}, RVL ι w v y → RV ι w x u → RVL ι w (v.set n x) (y.set n u)
  | [], [], _, _, _, _, _ => by simp [RVL]
  | _ :: _, _ :: _, 0, _, _, ⟨_, b⟩, r => by simpa [RVL] using ⟨r, b⟩
  | _ :: _, _ :: _, n + 1, _, _, ⟨a, b⟩, r => by simpa [RVL] using ⟨a, RVL.set n b r⟩
  | [], _ :: _, _, _, _, r, _ => r.elim
  | _ :: _, [], _, _, _, r, _ => r.elim
theorem RVL.append {ι : Io} {w : World} : ∀ {v v' : List SV} {y y' : List Value}, RVL ι w v y → RVL ι w v' y' → RVL ι w (v ++ v') (y ++ y')
  | [], _, [], _, _, h => h
  | _ :: _, _, _ :: _, _, ⟨a, b⟩, h => ⟨a, RVL.append b h⟩
  | [], _, _ :: _, _, r, _ => r.elim
  | _ :: _, _, [], _, r, _ => r.elim
theorem rvl_v {ι : Io} {w : World} : ∀ (l : List Value), RVL ι w (l.map .v) l
  | [] => trivial
  | _ :: r => ⟨rfl, rvl_v r⟩
theorem rv_ofV0 {ι : Io} {w : World} (x : Value) : RV ι w (SV.ofV0 x) x := by
  cases x <;> try exact rfl
  case agg cs => exact ⟨cs.toList, rfl, rvl_v _⟩
theorem rvl_ofV0 {ι : Io} {w : World} : ∀ (l : List Value), RVL ι w (l.map SV.ofV0) l
  | [] => trivial
  | x :: r => ⟨rv_ofV0 x, rvl_ofV0 r⟩
theorem rv_ofV {ι : Io} {w : World} (x : Value) : RV ι w (SV.ofV x) x := by
  cases x <;> try exact rfl
  case agg cs => exact ⟨cs.toList, rfl, rvl_v _⟩
  case tuple cs => exact ⟨cs.toList, rfl, rvl_ofV0 _⟩
theorem Rel.ev {N : Nat} {ι : Io} {st : St} {a : Act} {w : World} (h : Rel N ι st a w) (x : Operand) : RV ι w (ev st x) (a.eval x) := by
  cases x with
  | tmp t => exact h.tmps t
  | const v => exact rv_ofV0 v
  | global g => exact trivial
  | func f => exact rfl
def Calls1 (P : Program) (f : FuncId) (vals : List Value) (w : World) (R : Value → World → Prop) : Prop :=
  ((callFunc f vals.toArray).run P w = .ok (.enter f vals.toArray) w ∧ Calls P f vals.toArray w fun e w' => ∃ y, e = .returned y ∧ R y w') ∨
  ∃ y, (callFunc f vals.toArray).run P w = .ok (.value y) w ∧ R y w
def CallOK (P : Program) (f : FuncId) (args : List SV) (out : SV) : Prop :=
  ∀ (vals : List Value) (w : World) (ι : Io), (∀ s, ι s = none) → (∀ b, ι.no b → b < w.heap.size) → RVL ι w args vals →
    Calls1 P f vals w fun y w' => RV ι w' out y ∧ Below w.heap.size w w'
def TblOK (P : Program) (T : Tbl) : Prop :=
  ∀ R f args (K : SV → TR R) r, (T R f args K).run = some r → ∃ out, (K out).run = some r ∧ CallOK P f args out
structure Op1 (st : St) (e : Eff) (ι : Io) (w : World) (ι' : Io) (w' : World) : Prop where
  os : w'.os = w.os
  tape : w'.tape = w.tape
  output : w'.output = w.output
  size : w.heap.size ≤ w'.heap.size
  blk : ∀ b, b < w.heap.size → (∀ s ob n, e = .set s ob → ι s = some (b, n) → False) → w'.heap[b]? = w.heap[b]?
  no : ι'.no = ι.no
  ext : ∀ s x, ι s = some x → ι' s = some x
  old : ∀ s, s ≠ st.n → ι' s = ι s
  new : ∀ b n, ι' st.n = some (b, n) → ι st.n = some (b, n) ∨ (w.heap.size ≤ b ∧ ∃ ob, e = .new ob)
theorem Op1.fr {st : St} {e : Eff} {ι ι' : Io} {w w' : World} (h : Op1 st e ι w ι' w') : Fr ι w ι' w' where
  os := h.os
  tape := h.tape
  output := h.output
  size := h.size
  blk b hb ho := h.blk b hb fun s ob n _ hs => ho ⟨s, n, hs⟩
  no := h.no
  ext := h.ext
  fresh s b n hs := by
    by_cases c : s = st.n
    · subst c; exact (h.new b n hs).imp id (·.1)
    · rw [h.old s c] at hs; exact .inl hs
def OpOK (P : Program) (N : Nat) (st : St) (o : Oper) (v : SV) (e : Eff) : Prop :=
  ∀ ι a w, Rel N ι st a w → ι st.n = none → ∀ (next : Act → World → Prop) (Q : Exit → Act → World → Prop),
    (∀ val w' ι', RV ι' w' v val → Rel N ι' (st.eff e) a w' → Op1 st e ι w ι' w' → next (a.put o.dst val) w') → o.wp P a w next Q
theorem OpOK.run {P : Program} {N : Nat} {st : St} {o : Oper} {v : SV} {e : Eff}
    (h : ∀ ι a w, Rel N ι st a w → ι st.n = none → ∃ val w' ι', (execOp a.eval o).run P w = .ok (.value val) w' ∧ RV ι' w' v val ∧ Rel N ι' (st.eff e) a w' ∧ Op1 st e ι w ι' w') : OpOK P N st o v e := by
  intro ι a w hr h0 next Q hn
  obtain ⟨val, w', ι', hrun, h1, h2, h3⟩ := h ι a w hr h0
  unfold Oper.wp
  rw [hrun]
  exact hn val w' ι' h1 h2 h3
theorem Op1.refl (st : St) (ι : Io) (w : World) : Op1 st .no ι w ι w := ⟨rfl, rfl, rfl, Nat.le_refl _, fun _ _ _ => rfl, rfl, fun _ _ h => h, fun _ _ => rfl, fun _ _ h => .inl h⟩
theorem OpOK.still {P : Program} {N : Nat} {st : St} {o : Oper} {v : SV}
    (h : ∀ ι a w, Rel N ι st a w → ∃ val, (execOp a.eval o).run P w = .ok (.value val) w ∧ RV ι w v val) : OpOK P N st o v .no :=
  .run fun ι a w hr _ => let ⟨val, h1, h2⟩ := h ι a w hr; ⟨val, w, ι, h1, h2, hr, .refl st ι w⟩
end Go.Proofs.Ythcgeekibomhiaa.Den
namespace Go.Proofs.Ythcgeekibomhiaa.Den
set_option linter.unusedVariables false
set_option linter.unusedSimpArgs false
set_option linter.unusedSectionVars false
open Go Go.RowKit
variable {R : Type} {r : R} {P : Program} {N : Nat}
theorem szc_run {P : Program} {e n : Nat} (h : szc P e = some n) (w : World) : (sizeOf e).run P w = .ok n w := by
  unfold szc at h
  cases hi : P.info? e with
  | none => simp [hi] at h
  | some i => simp [hi] at h; simp [sizeOf, typeInfo, hi, h]
theorem run_isAgg {P : Program} {t : TypeId} {b : Bool} (h : isAgg? P t = some b) (w : World) : (isAgg t).run P w = .ok b w := by
  unfold isAgg? at h
  cases hu : P.underlying t with
  | none => simp [hu] at h
  | some d => cases d <;> simp [hu] at h <;> subst h <;> simp [isAgg, run_underlying hu]
theorem part_one {P : Program} {w : World} {e : TypeId} {cs : List Value} {i : Nat} {v : Value} (h : isAgg? P e = some false) (hi : cs[i]? = some v) :
    (part e cs.toArray i).run P w = .ok v w := by
  simp [part, run_isAgg h, hi]
theorem eqLoop {P : Program} {w : World} {d : Nat} {e : TypeId} {k : IntKind} (hd : ∀ a b, (Op.equalIn d e (.int k a) (.int k b)).run P w = .ok (a == b) w)
    (hg : isAgg? P e = some false) : ∀ (m s : Nat) (as bs : List Int), as.length = s + m → bs.length = s + m →
    (forIn (m := Sem) (List.range' s m) ((none : Option Bool), ()) fun i (_ : Option Bool × Unit) => do
      let x ← part e (as.map (Value.int k)).toArray (i * 1)
      let y ← part e (bs.map (Value.int k)).toArray (i * 1)
      let q ← Op.equalIn d e x y
      if (!q) = true then pure (ForInStep.done (some false, ())) else pure (ForInStep.yield (none, ()))).run P w =
      .ok (if as.drop s = bs.drop s then none else some false, ()) w := by
  intro m
  induction m with
  | zero => intro s as bs ha hb; simp [List.drop_of_length_le, ha, hb]
  | succ m ih =>
    intro s as bs ha hb
    have h1 : (as.map (Value.int k))[s]? = some (.int k as[s]) := by simp [List.getElem?_eq_getElem (show s < as.length by omega)]
    have h2 : (bs.map (Value.int k))[s]? = some (.int k bs[s]) := by simp [List.getElem?_eq_getElem (show s < bs.length by omega)]
    simp only [List.range'_succ, List.forIn_cons, Sem.run_bind, Nat.mul_one, part_one hg h1, part_one hg h2, Result.andThen_ok, hd]
    have e1 : as.drop s = as[s] :: as.drop (s + 1) := List.drop_eq_getElem_cons (by omega)
    have e2 : bs.drop s = bs[s] :: bs.drop (s + 1) := List.drop_eq_getElem_cons (by omega)
    rw [e1, e2]
    by_cases c : as[s] = bs[s]
    · have hbe : (as[s] == bs[s]) = true := by simp [c]
      simp only [hbe, Bool.not_true, Bool.false_eq_true, if_false, Sem.run_pure, Result.andThen_ok]
      have := ih (s + 1) as bs (by omega) (by omega)
      simp only [Nat.mul_one] at this
      rw [this, c]; simp only [List.cons.injEq, true_and]
    · have hbe : (as[s] == bs[s]) = false := by simp [c]
      simp only [hbe, Bool.not_false, if_true, Sem.run_pure, Result.andThen_ok, List.cons.injEq, c, false_and, if_false]
theorem eqArr {P : Program} {w : World} (d : Nat) {t e : TypeId} {n : Nat} {k : IntKind} (ht : P.underlying t = some (.array n e)) (he : P.underlying e = some (.int k)) (hs : szc P e = some 1)
   (as bs : List Int) (ha : as.length = n) (hb : bs.length = n) :
   (Op.equalIn (d + 2) t (.agg (as.map (Value.int k)).toArray) (.agg (bs.map (Value.int k)).toArray)).run P w = .ok (decide (as = bs)) w := by
  have hg : isAgg? P e = some false := by simp [isAgg?, he]
  have hd : ∀ a b, (Op.equalIn (d + 1) e (.int k a) (.int k b)).run P w = .ok (a == b) w := fun a b => run_equalIn_int w d e k k a b he
  generalize hD : d + 1 = D at hd
  rw [show d + 2 = D + 1 from by omega]
  rw [Op.equalIn]
  simp only [Sem.run_bind, run_underlying ht, Result.andThen_ok, szc_run hs]
  simp only [Std.Legacy.Range.forIn_eq_forIn_range', Std.Legacy.Range.size]
  have := eqLoop (P := P) (w := w) hd hg n 0 as bs (by omega) (by omega)
  simp only [Nat.sub_zero, Nat.add_sub_cancel, Nat.div_one]
  simp only [List.drop_zero] at this
  rw [this]
  by_cases c : as = bs <;> simp [c]
theorem eqFs {P : Program} {w : World} {d : Nat} {k : IntKind} (as bs : List Int) : ∀ (fs : List Field) (i : Nat), flatS P k fs i = true → as.length = i + fs.length → bs.length = i + fs.length →
    (Op.eqFields (d + 1) (as.map (Value.int k)).toArray (bs.map (Value.int k)).toArray fs).run P w = .ok (decide (as.drop i = bs.drop i)) w
  | [], i, _, ha, hb => by simp [Op.eqFields, List.drop_of_length_le, ha, hb]
  | f :: fs, i, h, ha, hb => by
    simp only [flatS, Bool.and_eq_true, decide_eq_true_eq] at h
    obtain ⟨⟨⟨⟨h1, h2⟩, h3⟩, h4⟩, h5⟩ := h
    simp only [List.length_cons] at ha hb
    have hu : P.underlying f.type = some (.int k) := by
      cases hq : P.underlying f.type with
      | none => simp [hq] at h1
      | some q => cases q <;> simp [hq] at h1; rw [h1]
    have hg : isAgg? P f.type = some false := by simp [isAgg?, hu]
    have e1 : (as.map (Value.int k))[i]? = some (.int k as[i]) := by simp [List.getElem?_eq_getElem (show i < as.length by omega)]
    have e2 : (bs.map (Value.int k))[i]? = some (.int k bs[i]) := by simp [List.getElem?_eq_getElem (show i < bs.length by omega)]
    have d1 : as.drop i = as[i] :: as.drop (i + 1) := List.drop_eq_getElem_cons (by omega)
    have d2 : bs.drop i = bs[i] :: bs.drop (i + 1) := List.drop_eq_getElem_cons (by omega)
    rw [Op.eqFields, if_pos h4]
    simp only [Sem.run_bind, h2, part_one hg e1, part_one hg e2, Result.andThen_ok, run_equalIn_int w d f.type k k _ _ hu]
    rw [d1, d2]
    by_cases c : as[i] = bs[i]
    · have hbe : (as[i] == bs[i]) = true := by simp [c]
      simp only [hbe, Bool.not_true, Bool.false_eq_true, if_false]
      rw [eqFs as bs fs (i + 1) h5 (by omega) (by omega), c]
      simp only [List.cons.injEq, true_and]
    · have hbe : (as[i] == bs[i]) = false := by simp [c]
      simp only [hbe, Bool.not_false, if_true, Sem.run_pure, List.cons.injEq, c, false_and, decide_false]
theorem eqStr {P : Program} {w : World} (d : Nat) {t : TypeId} {fs : Array Field} {k : IntKind} (ht : P.underlying t = some (.struct fs)) (hp : P.stoodInHeld t = false) (hf : flatS P k fs.toList 0 = true)
   (as bs : List Int) (ha : as.length = fs.size) (hb : bs.length = fs.size) :
   (Op.equalIn (d + 2) t (.agg (as.map (Value.int k)).toArray) (.agg (bs.map (Value.int k)).toArray)).run P w = .ok (decide (as = bs)) w := by
  have hfs : P.fieldsOf t = fs := by simp [Program.fieldsOf, ht]
  rw [run_equalIn_struct w (d + 1) t _ _ (by rw [hfs]; exact ht) hp, hfs, eqFs as bs fs.toList 0 hf (by simpa using ha) (by simpa using hb)]
  simp
theorem rv_v {ι : Io} {w : World} {x y : Value} (h : RV ι w (.v x) y) : y = x := h
theorem lift_run {o : Option Value} {K : SV → TR R} (h : (lift o K).run = some r) : ∃ x, o = some x ∧ (K (SV.ofV x)).run = some r := by
  cases o with
  | none => simp [lift, TR.run] at h
  | some x => exact ⟨x, rfl, h⟩
theorem br_run {p : Prop} [d : Decidable p] {t e : TR R} (h : (br p t e).run = some r) : (p ∧ t.run = some r) ∨ (¬ p ∧ e.run = some r) := by
  by_cases c : p
  · exact .inl ⟨c, by simpa [br, TR.run, c] using h⟩
  · exact .inr ⟨c, by simpa [br, TR.run, c] using h⟩
theorem fail_run (h : (TR.fail : TR R).run = some r) : False := by simp [TR.run] at h
theorem toB_rv {ι : Io} {w : World} {x : SV} {y : Value} {b : Bool} (h : toB x = some b) (hr : RV ι w x y) : y = .bool b := by
  unfold toB at h; split at h
  · simp only [Option.some.injEq] at h; subst h; exact hr
  · simp only [Option.some.injEq] at h; subst h; exact hr
  · cases h
theorem brB_run {v : SV} {t e : TR R} (h : (brB v t e).run = some r) : ∃ b, toB v = some b ∧ ((b = true ∧ t.run = some r) ∨ (b = false ∧ e.run = some r)) := by
  unfold brB at h
  split at h
  · rename_i b
    rcases br_run h with ⟨hb, h⟩ | ⟨hb, h⟩
    · exact ⟨b, rfl, .inl ⟨hb, h⟩⟩
    · exact ⟨b, rfl, .inr ⟨by cases b; rfl; exact (hb rfl).elim, h⟩⟩
  · rename_i p d
    rcases br_run h with ⟨hb, h⟩ | ⟨hb, h⟩
    · exact ⟨decide p, rfl, .inl ⟨by simp [hb], h⟩⟩
    · exact ⟨decide p, rfl, .inr ⟨by simp [hb], h⟩⟩
  · exact (fail_run h).elim
theorem dcmp_ok {op : BinOp} {a b : Int} {v : SV} (h : dcmp op a b = some v) (t : TypeId) (k : IntKind) (w : World) (ι : Io) :
    ∃ val, (binOp op t (.int k a) (.int k b)).run P w = .ok val w ∧ RV ι w v val := by
  cases op <;> simp [dcmp] at h <;> subst h
  · exact ⟨_, by simp [binOp, Op.intCmp]; rfl, by simp only [RV]; congr 1⟩
  · exact ⟨.bool (!decide (a = b)), by simp [binOp, Op.intCmp]; rfl, by simp [RV]⟩
  · exact ⟨_, by simp [binOp, Op.intCmp]; rfl, by simp [RV]⟩
  · exact ⟨_, by simp [binOp, Op.intCmp]; rfl, by simp [RV]⟩
  · exact ⟨_, by simp [binOp, Op.intCmp]; rfl, by simp [RV]⟩
  · exact ⟨_, by simp [binOp, Op.intCmp]; rfl, by simp [RV]⟩
theorem intsOf_rv {ι : Io} {w : World} {k : IntKind} : ∀ {cs : List SV} {xs : List Int} {vs : List Value}, intsOf k cs = some xs → RVL ι w cs vs → vs = xs.map (.int k)
  | [], xs, [], h, _ => by simp [intsOf] at h; subst h; rfl
  | .v (.int k' x) :: cs, xs, v :: vs, h, ⟨h1, h2⟩ => by
    simp only [intsOf] at h
    split at h
    · rename_i hk; subst hk
      cases hc : intsOf k' cs with
      | none => simp [hc] at h
      | some ys => simp [hc] at h; subst h; rw [rv_v h1, intsOf_rv hc h2]; rfl
    · cases h
  | [], _, _ :: _, _, r => r.elim
  | _ :: _, _, [], _, r => r.elim
  | .v (.bool _) :: _, _, _, h, _ | .v (.float ..) :: _, _, _, h, _ | .v (.complex ..) :: _, _, _, h, _ | .v (.string _) :: _, _, _, h, _
  | .v (.pointer _) :: _, _, _, h, _ | .v (.slice ..) :: _, _, _, h, _ | .v (.map _) :: _, _, _, h, _ | .v (.chan _) :: _, _, _, h, _
  | .v (.func ..) :: _, _, _, h, _ | .v .nilFunc :: _, _, _, h, _ | .v (.iface ..) :: _, _, _, h, _ | .v .nilIface :: _, _, _, h, _
  | .v (.agg _) :: _, _, _, h, _ | .v (.tuple _) :: _, _, _, h, _ | .pr .. :: _, _, _, h, _ | .err .. :: _, _, _, h, _ | .ptr .. :: _, _, _, h, _
  | .pti .. :: _, _, _, h, _ | .agg _ :: _, _, _, h, _ | .tup _ :: _, _, _, h, _ | .ro _ :: _, _, _, h, _ | .rp .. :: _, _, _, h, _
  | .sl _ :: _, _, _, h, _ | .vp .. :: _, _, _, h, _ | .junk :: _, _, _, h, _ => by simp [intsOf] at h
theorem conj_iff : ∀ (as bs : List Int), as.length = bs.length → (conj (as.zip bs) ↔ as = bs)
  | [], [], _ => by simp [conj]
  | [a], [b], _ => by simp [conj]
  | a :: c :: r, b :: d :: s, h => by
    have := conj_iff (c :: r) (d :: s) (by simpa using h)
    simp only [List.zip_cons_cons, conj] at this ⊢
    rw [this]; simp
  | [], _ :: _, h => by simp at h
  | _ :: _, [], h => by simp at h
  | [_], _ :: _ :: _, h => by simp at h
  | _ :: _ :: _, [_], h => by simp at h
theorem structEq_some {t : TypeId} {fs : Array Field} {xs ys : List SV} {l : List (Int × Int)} (h : structEq P t fs xs ys = some l) :
    ∃ k as bs, intsOf k xs = some as ∧ intsOf k ys = some bs ∧ as.length = fs.size ∧ bs.length = fs.size ∧ P.eqGuardType P.depth t = false ∧ P.stoodInHeld t = false ∧ flatS P k fs.toList 0 = true ∧ l = as.zip bs := by
  unfold structEq at h
  split at h
  · split at h
    · rename_i k hk
      split at h
      · rename_i as bs ha hb
        split at h
        · rename_i hc
          obtain ⟨h1, h2, h3, h4, h5⟩ := hc
          simp only [Option.some.injEq] at h
          exact ⟨k, as, bs, ha, hb, h1, h2, h3, h4, h5, h.symm⟩
        · cases h
      · cases h
    · cases h
  · cases h
theorem dbin_ok {op : BinOp} {t : TypeId} {x y : SV} {K : SV → TR R} (h : (dbin P op t x y K).run = some r) :
    ∃ v, (K v).run = some r ∧ ∀ (ι : Io) (w : World) (u u' : Value) (ox oy : Operand), RV ι w x u → RV ι w y u' →
      ∃ val, (do eqGuard op t ox oy u u'; binOp op t u u').run P w = .ok val w ∧ RV ι w v val := by
  unfold dbin at h
  split at h
  · rename_i k a k' b
    split at h
    · 
      split at h
      · rename_i hk; subst hk
        rcases br_run h with ⟨_, h⟩ | ⟨hb, h⟩
        · exact (fail_run h).elim
        · exact ⟨_, h, fun ι w u u' ox oy hu hu' => ⟨_, by rw [rv_v hu, rv_v hu']; simp [eqGuard_quo, binOp_quo, Op.intDiv, hb, wr_eq], rfl⟩⟩
      · exact (fail_run h).elim
    · split at h
      · rename_i hk; subst hk
        rcases br_run h with ⟨_, h⟩ | ⟨hb, h⟩
        · exact (fail_run h).elim
        · exact ⟨_, h, fun ι w u u' ox oy hu hu' => ⟨_, by rw [rv_v hu, rv_v hu']; simp [eqGuard_rem, binOp_rem, Op.intDiv, hb, wr_eq], rfl⟩⟩
      · exact (fail_run h).elim
    · rcases br_run h with ⟨_, h⟩ | ⟨hb, h⟩
      · exact (fail_run h).elim
      · exact ⟨_, h, fun ι w u u' ox oy hu hu' => ⟨_, by rw [rv_v hu, rv_v hu']; simp [eqGuard_shl, binOp_shl, Op.shift, hb, wr_eq], rfl⟩⟩
    · rcases br_run h with ⟨_, h⟩ | ⟨hb, h⟩
      · exact (fail_run h).elim
      · refine ⟨_, h, fun ι w u u' ox oy hu hu' => ⟨_, ?_, rfl⟩⟩
        have hp : (0 : Int) ≤ 2 ^ min b.toNat k.bits := Int.pow_nonneg (by decide)
        rw [rv_v hu, rv_v hu']; simp [eqGuard_shr, binOp_shr, Op.shift, hb, Int.fdiv_eq_ediv_of_nonneg _ hp]
    · split at h
      · rename_i hk; subst hk
        exact ⟨_, h, fun ι w u u' ox oy hu hu' => ⟨_, by rw [rv_v hu, rv_v hu', eqGuard_at_int]; simp [binOp, Op.intArith, wr_eq], rfl⟩⟩
      · exact (fail_run h).elim
    · split at h
      · rename_i hk; subst hk
        exact ⟨_, h, fun ι w u u' ox oy hu hu' => ⟨_, by rw [rv_v hu, rv_v hu', eqGuard_at_int]; simp [binOp, Op.intArith, wr_eq], rfl⟩⟩
      · exact (fail_run h).elim
    · split at h
      · rename_i hk; subst hk
        exact ⟨_, h, fun ι w u u' ox oy hu hu' => ⟨_, by rw [rv_v hu, rv_v hu', eqGuard_at_int]; simp [binOp, Op.intArith, wr_eq], rfl⟩⟩
      · exact (fail_run h).elim
    · split at h
      · rename_i hk; subst hk
        exact ⟨_, h, fun ι w u u' ox oy hu hu' => ⟨_, by rw [rv_v hu, rv_v hu', eqGuard_at_int]; simp [binOp, intBits_and, intBits_or, intBits_xor, intBits_andNot], rfl⟩⟩
      · exact (fail_run h).elim
    · split at h
      · rename_i hk; subst hk
        exact ⟨_, h, fun ι w u u' ox oy hu hu' => ⟨_, by rw [rv_v hu, rv_v hu', eqGuard_at_int]; simp [binOp, intBits_and, intBits_or, intBits_xor, intBits_andNot], rfl⟩⟩
      · exact (fail_run h).elim
    · split at h
      · rename_i hk; subst hk
        exact ⟨_, h, fun ι w u u' ox oy hu hu' => ⟨_, by rw [rv_v hu, rv_v hu', eqGuard_at_int]; simp [binOp, intBits_and, intBits_or, intBits_xor, intBits_andNot], rfl⟩⟩
      · exact (fail_run h).elim
    · split at h
      · rename_i hk; subst hk
        exact ⟨_, h, fun ι w u u' ox oy hu hu' => ⟨_, by rw [rv_v hu, rv_v hu', eqGuard_at_int]; simp [binOp, intBits_and, intBits_or, intBits_xor, intBits_andNot], rfl⟩⟩
      · exact (fail_run h).elim
    · split at h
      · rename_i hk; subst hk
        split at h
        · rename_i rr hc
          refine ⟨_, h, fun ι w u u' ox oy hu hu' => ?_⟩
          obtain ⟨val, h1, h2⟩ := dcmp_ok (P := P) hc t k w ι
          exact ⟨val, by rw [rv_v hu, rv_v hu', eqGuard_at_int]; simpa using h1, h2⟩
        · obtain ⟨z, hz, hK⟩ := lift_run h
          refine ⟨_, hK, fun ι w u u' ox oy hu hu' => ⟨z, ?_, rv_ofV z⟩⟩
          rw [rv_v hu, rv_v hu', eqGuard_at_int]
          simpa using pureRun_run (w := w) _ hz
      · exact (fail_run h).elim
  · obtain ⟨z, hz, hK⟩ := lift_run h
    refine ⟨_, hK, fun ι w u u' ox oy hu hu' => ⟨z, ?_, rv_ofV z⟩⟩
    rw [rv_v hu, rv_v hu', eqGuard_at_string]
    simpa using pureRun_run (w := w) _ hz
  · split at h
    · rename_i n e ht
      split at h
      · rename_i k he
        split at h
        · rename_i as bs ha hb
          split at h
          · rename_i hc
            obtain ⟨h1, h2, h3, h4⟩ := hc
            refine ⟨_, h, fun ι w u u' ox oy hu hu' => ?_⟩
            obtain ⟨va, rfl, hva⟩ := hu
            obtain ⟨vb, rfl, hvb⟩ := hu'
            rw [intsOf_rv ha hva, intsOf_rv hb hvb]
            refine ⟨.bool (decide (as = bs)), ?_, ?_⟩
            · simp only [Sem.run_bind, run_eqGuard_agg w _ _ _ _ _ _ h3, Result.andThen_ok, run_eql_struct, eqArr 9998 ht he h4 as bs h1 h2]
            · simp only [RV]; congr 1; rw [Bool.eq_iff_iff]; simp [conj_iff as bs (by omega)]
          · exact (fail_run h).elim
        · exact (fail_run h).elim
      · exact (fail_run h).elim
    · rename_i n e ht
      split at h
      · rename_i k he
        split at h
        · rename_i as bs ha hb
          split at h
          · rename_i hc
            obtain ⟨h1, h2, h3, h4⟩ := hc
            refine ⟨_, h, fun ι w u u' ox oy hu hu' => ?_⟩
            obtain ⟨va, rfl, hva⟩ := hu
            obtain ⟨vb, rfl, hvb⟩ := hu'
            rw [intsOf_rv ha hva, intsOf_rv hb hvb]
            refine ⟨.bool (!decide (as = bs)), ?_, ?_⟩
            · simp only [Sem.run_bind, run_eqGuard_agg w _ _ _ _ _ _ h3, Result.andThen_ok, run_neq_struct, eqArr 9998 ht he h4 as bs h1 h2]
            · simp only [RV]; congr 1; rw [Bool.eq_iff_iff]; simp [conj_iff as bs (by omega)]
          · exact (fail_run h).elim
        · exact (fail_run h).elim
      · exact (fail_run h).elim
    · rename_i fs ht
      split at h
      · rename_i l hl
        refine ⟨_, h, fun ι w u u' ox oy hu hu' => ?_⟩
        obtain ⟨va, rfl, hva⟩ := hu
        obtain ⟨vb, rfl, hvb⟩ := hu'
        obtain ⟨k, as, bs, q1, q2, q3, q4, q5, q6, q7, rfl⟩ := structEq_some hl
        rw [intsOf_rv q1 hva, intsOf_rv q2 hvb]
        refine ⟨.bool (decide (as = bs)), ?_, ?_⟩
        · simp only [Sem.run_bind, run_eqGuard_agg w _ _ _ _ _ _ q5, Result.andThen_ok, run_eql_struct, eqStr 9998 ht q6 q7 as bs q3 q4]
        · simp only [RV]; congr 1; rw [Bool.eq_iff_iff]; simp [conj_iff as bs (by omega)]
      · exact (fail_run h).elim
    · rename_i fs ht
      split at h
      · rename_i l hl
        refine ⟨_, h, fun ι w u u' ox oy hu hu' => ?_⟩
        obtain ⟨va, rfl, hva⟩ := hu
        obtain ⟨vb, rfl, hvb⟩ := hu'
        obtain ⟨k, as, bs, q1, q2, q3, q4, q5, q6, q7, rfl⟩ := structEq_some hl
        rw [intsOf_rv q1 hva, intsOf_rv q2 hvb]
        refine ⟨.bool (!decide (as = bs)), ?_, ?_⟩
        · simp only [Sem.run_bind, run_eqGuard_agg w _ _ _ _ _ _ q5, Result.andThen_ok, run_neq_struct, eqStr 9998 ht q6 q7 as bs q3 q4]
        · simp only [RV]; congr 1; rw [Bool.eq_iff_iff]; simp [conj_iff as bs (by omega)]
      · exact (fail_run h).elim
    · exact (fail_run h).elim
  · split at h
    · rename_i a b ha hb ht
      refine ⟨_, h, fun ι w u u' ox oy hu hu' => ⟨_, ?_, rfl⟩⟩
      rw [toB_rv ha hu, toB_rv hb hu', eqGuard_at_bool]
      simp [run_eql_bool _ _ _ _ ht, run_neq_bool _ _ _ _ ht]
    · rename_i a b ha hb ht
      refine ⟨_, h, fun ι w u u' ox oy hu hu' => ⟨_, ?_, rfl⟩⟩
      rw [toB_rv ha hu, toB_rv hb hu', eqGuard_at_bool]
      simp [run_eql_bool _ _ _ _ ht, run_neq_bool _ _ _ _ ht]
    · exact (fail_run h).elim
end Go.Proofs.Ythcgeekibomhiaa.Den
namespace Go.Proofs.Ythcgeekibomhiaa.Den
set_option linter.unusedVariables false
set_option linter.unusedSimpArgs false
set_option linter.unusedSectionVars false
open Go Go.RowKit
variable {R : Type} {r : R} {P : Program} {N : Nat}
theorem dun_ok {op : UnOp} {x : SV} {K : SV → TR R} (h : (dun P op x K).run = some r) :
    ∃ v, (K v).run = some r ∧ ∀ (ι : Io) (w : World) (u : Value), RV ι w x u → ∃ val, (Op.unary op u).run P w = .ok val w ∧ RV ι w v val := by
  unfold dun at h
  split at h
  · exact ⟨_, h, fun ι w u hu => ⟨_, by rw [rv_v hu]; rfl, rfl⟩⟩
  · rename_i p d
    refine ⟨_, h, fun ι w u hu => ⟨.bool (!decide p), by rw [show u = .bool (decide p) from hu]; rfl, ?_⟩⟩
    simp only [RV]; congr 1; simp
  · exact ⟨_, h, fun ι w u hu => ⟨_, by rw [rv_v hu]; simp [Op.unary, Op.intArith, wr_eq], rfl⟩⟩
  · exact ⟨_, h, fun ι w u hu => ⟨_, by rw [rv_v hu]; simp only [Op.unary, intBits_xor]; rfl, rfl⟩⟩
  · exact (fail_run h).elim
theorem dpick_ok {c a b : SV} {K : SV → TR R} (h : (dpick c a b K).run = some r) :
    ∃ v, (K v).run = some r ∧ ∀ (ι : Io) (w : World) (x y z : Value), RV ι w c x → RV ι w a y → RV ι w b z →
      ∃ t : Bool, x = .bool t ∧ RV ι w v (if t then y else z) := by
  unfold dpick at h
  obtain ⟨t, ht, ⟨e, h⟩ | ⟨e, h⟩⟩ := brB_run h
  · subst e
    exact ⟨_, h, fun ι w x y z hx hy hz => ⟨true, toB_rv ht hx, by simpa using hy⟩⟩
  · subst e
    exact ⟨_, h, fun ι w x y z hx hy hz => ⟨false, toB_rv ht hx, by simpa using hz⟩⟩
theorem dpart_ok {t : TypeId} {cs : List SV} {off : Nat} {v : SV} (h : dpart P t cs off = some v) {ι : Io} {w : World} {vs : List Value} (hr : RVL ι w cs vs) :
    ∃ val, (part t vs.toArray off).run P w = .ok val w ∧ RV ι w v val := by
  unfold dpart at h
  split at h
  · rename_i s ha hs
    split at h
    · simp only [Option.some.injEq] at h; subst h
      refine ⟨.agg ((vs.drop off).take s).toArray, ?_, ⟨_, rfl, (hr.drop off).take s⟩⟩
      simp only [part, Sem.run_bind, run_isAgg ha, Result.andThen_ok, if_true, szc_run hs, Sem.run_pure, bind_pure_comp, Sem.run_map]
      congr 2
      simp [List.extract_toArray, List.extract_eq_take_drop]
    · cases h
  · rename_i s ha hs
    obtain ⟨u, hu, hrv⟩ := hr.get h
    exact ⟨u, part_one ha hu, hrv⟩
  · cases h
theorem RVL.one {ι : Io} {w : World} : ∀ {cs : List SV} {vs : List Value}, RVL ι w cs vs → cs.all SV.one = true → ∀ v ∈ vs, v.oneCell' = true
  | [], [], _, _ => by simp
  | c :: cs, v :: vs, ⟨h1, h2⟩, h => by
    simp only [List.all_cons, Bool.and_eq_true] at h
    intro x hx
    rcases List.mem_cons.1 hx with rfl | hx
    · have hc := h.1
      cases c <;> simp [SV.one] at hc
      case v y => rw [rv_v h1]; cases y <;> simp_all [Value.oneCell']
      case pr p d => rw [show x = .bool (decide p) from h1]; rfl
      case err t k z => rw [show x = encErr t k z from h1]; cases z <;> rfl
      case ptr s o => obtain ⟨b, n, _, rfl⟩ := h1; rfl
      case pti s o n i => obtain ⟨b, n, _, _, _, rfl⟩ := h1; rfl
      case ro l => obtain ⟨A, c, rfl, _⟩ := h1; rfl
      case rp l i => obtain ⟨_, _, b, o, rfl, _⟩ := h1; rfl
      case sl s => obtain ⟨b, n, c, _, rfl, _⟩ := h1; rfl
      case vp s i => obtain ⟨b, n, _, _, _, rfl⟩ := h1; rfl
    · exact RVL.one h2 h.2 x hx
  | [], _ :: _, r, _ => r.elim
  | _ :: _, [], r, _ => r.elim
theorem rv_cs {ι : Io} {w : World} {v : SV} {u : Value} (h : RV ι w v u) (ho : v.cs.all SV.one = true) : RVL ι w v.cs u.cells.toList ∧ (∀ x ∈ u.cells.toList, x.oneCell' = true) := by
  have key : RVL ι w v.cs u.cells.toList := by
    cases v
    case agg cs => obtain ⟨vs, rfl, hl⟩ := h; exact hl
    case tup cs => simp [SV.cs, SV.one] at ho
    case junk => simp [SV.cs, SV.one] at ho
    case v y =>
      rw [rv_v h]
      cases y <;> first | exact ⟨rfl, trivial⟩ | (simp [SV.cs, SV.one] at ho)
    case pr p d => rw [show u = .bool (decide p) from h]; exact ⟨rfl, trivial⟩
    case err t k z => have h' := h; rw [show u = encErr t k z from h] at h' ⊢; cases z <;> exact ⟨rfl, trivial⟩
    case ptr s o => have h' := h; obtain ⟨b, n, _, rfl⟩ := h; exact ⟨h', trivial⟩
    case pti s o n i => have h' := h; obtain ⟨b, n, _, _, _, rfl⟩ := h; exact ⟨h', trivial⟩
    case ro l => have h' := h; obtain ⟨A, c, rfl, _⟩ := h; exact ⟨h', trivial⟩
    case rp l i => have h' := h; obtain ⟨_, _, b, o, rfl, _⟩ := h; exact ⟨h', trivial⟩
    case sl s => have h' := h; obtain ⟨b, n, c, _, rfl, _⟩ := h; exact ⟨h', trivial⟩
    case vp s i => have h' := h; obtain ⟨b, n, _, _, _, rfl⟩ := h; exact ⟨h', trivial⟩
  exact ⟨key, key.one ho⟩
theorem zeroCs_ok {t : TypeId} {z : List SV} (h : zeroCs P t = some z) : ∃ v, (∀ w, (zeroValue t).run P w = .ok v w) ∧ z = v.cells.toList.map .v := by
  unfold zeroCs at h
  cases hi : P.info? t with
  | none => simp [hi] at h
  | some i =>
    cases hz : i.zero with
    | none => simp [hi, hz] at h
    | some v => simp [hi, hz] at h; exact ⟨v, fun w => by simp [zeroValue, typeInfo, hi, hz], h.symm⟩
theorem putCs_ok {ι : Io} {w : World} : ∀ {u : List SV} {uv : List Value} {cs : List SV} {vs : List Value} (o : Nat), RVL ι w cs vs → RVL ι w u uv →
    ∃ vs' : List Value, RVL ι w (putCs cs o u) vs' ∧ vs'.length = vs.length ∧ ∀ j, (uv.zipIdx j).foldl (fun (a : Array Value) p => a.setIfInBounds (o - j + p.2) p.1) vs.toArray = vs'.toArray ∨ o < j
  | [], [], cs, vs, o, h, _ => ⟨vs, h, rfl, fun j => .inl rfl⟩
  | x :: u, y :: uv, cs, vs, o, h, ⟨h1, h2⟩ => by
    obtain ⟨vs', ha, hb, hc⟩ := putCs_ok (o + 1) (h.set o h1) h2
    refine ⟨vs', ha, by simpa using hb, fun j => ?_⟩
    by_cases hj : o < j
    · exact .inr hj
    · left
      rcases hc (j + 1) with hc | hc
      · simp only [List.zipIdx_cons, List.foldl_cons]
        rw [show o - j + j = o by omega]
        rw [show o + 1 - (j + 1) = o - j by omega] at hc
        simpa using hc
      · omega
  | [], _ :: _, _, _, _, _, r => r.elim
  | _ :: _, [], _, _, _, _, r => r.elim
theorem dfill_ok {ι : Io} {w : World} {pl : Nat → Option (Nat × Nat)} : ∀ {ps : List (Nat × SV)} {qs : List (Nat × Value)} {cs z : List SV} {vs : List Value},
    dfill pl cs ps = some z → RVL ι w cs vs → ps.map (·.1) = qs.map (·.1) → RVL ι w (ps.map (·.2)) (qs.map (·.2)) →
    ∃ zs : List Value, Instr.fill pl vs.toArray qs = some zs.toArray ∧ RVL ι w z zs
  | [], [], cs, z, vs, h, hr, _, _ => by simp [dfill] at h; subst h; exact ⟨vs, rfl, hr⟩
  | (i, v) :: ps, (j, u) :: qs, cs, z, vs, h, hr, hi, ⟨h1, h2⟩ => by
    simp only [List.map_cons, List.cons.injEq] at hi
    obtain ⟨rfl, hi⟩ := hi
    simp only [dfill] at h
    split at h
    · cases h
    · rename_i off size hp
      split at h
      · cases h
      · rename_i hc
        have hc1 : v.cs.length = size := by by_cases x : v.cs.length = size; exact x; exact (hc (.inl x)).elim
        have hc2 : off + v.cs.length ≤ cs.length := by by_cases x : off + v.cs.length > cs.length; exact (hc (.inr (.inl x))).elim; omega
        have hc3 : v.cs.all SV.one = true := by cases x : v.cs.all SV.one; exact (hc (.inr (.inr x))).elim; rfl
        obtain ⟨k1, _⟩ := rv_cs h1 hc3
        obtain ⟨vs', ha, hb, hz⟩ := putCs_ok off hr k1
        obtain ⟨zs, hf, hzs⟩ := dfill_ok h ha hi h2
        refine ⟨zs, ?_, hzs⟩
        have hl1 := k1.length
        have hl2 := hr.length
        simp only [Instr.fill, hp]
        have e1 : u.cells.size = size := by rw [← Array.length_toList, ← hl1, hc1]
        have e2 : ¬ (off + u.cells.size > vs.toArray.size) := by simp [e1]; omega
        simp only [e1, ne_eq, not_true_eq_false, false_or]
        rw [e1] at e2
        rw [if_neg (by simpa using e2)]
        have := (hz 0).resolve_right (by omega)
        simp only [Nat.sub_zero] at this
        rw [← Array.foldl_toList]
        simp only [Array.toList_zipIdx]
        rw [this]; exact hf
  | [], _ :: _, _, _, _, _, _, h, _ => by simp at h
  | _ :: _, [], _, _, _, _, _, h, _ => by simp at h
end Go.Proofs.Ythcgeekibomhiaa.Den
namespace Go.Proofs.Ythcgeekibomhiaa.Den
set_option linter.unusedVariables false
set_option linter.unusedSimpArgs false
set_option linter.unusedSectionVars false
open Go Go.RowKit
variable {R : Type} {r : R} {P : Program} {N : Nat}
theorem mapM_sizes (w : World) : ∀ (l : List Field), l.all (fun f => (szc P f.type).isSome) = true →
    (l.mapM (m := Sem) fun f => do let s ← sizeOf f.type; pure (f.offset, s)).run P w = .ok (l.map fun f => (f.offset, (szc P f.type).getD 0)) w
  | [], _ => rfl
  | f :: l, h => by
    simp only [List.all_cons, Bool.and_eq_true] at h
    obtain ⟨s, hs⟩ := Option.isSome_iff_exists.1 h.1
    simp only [List.mapM_cons, Sem.run_bind, szc_run hs, Result.andThen_ok, Sem.run_pure, mapM_sizes w l h.2]
    simp [hs]
theorem dbuild_ok {t : TypeId} {ps : List (Nat × SV)} {v : SV} (h : dbuild P t ps = some v) {ι : Io} {w : World} {qs : List (Nat × Value)}
    (hi : ps.map (·.1) = qs.map (·.1)) (hr : RVL ι w (ps.map (·.2)) (qs.map (·.2))) :
    ∃ val, (Instr.build t qs.toArray).run P w = .ok val w ∧ RV ι w v val := by
  unfold dbuild at h
  split at h
  · rename_i z fields hz ht
    split at h
    · rename_i hall
      obtain ⟨zv, hzv, rfl⟩ := zeroCs_ok hz
      cases hf : dfill (fun i => (fields[i]?).map fun (f : Field) => (f.offset, (szc P f.type).getD 0)) (zv.cells.toList.map .v) ps with
      | none => simp [hf] at h
      | some cs =>
        simp [hf] at h; subst h
        obtain ⟨zs, h1, h2⟩ := dfill_ok hf (rvl_v zv.cells.toList) hi hr
        refine ⟨.agg zs.toArray, ?_, zs, rfl, h2⟩
        have hm := mapM_sizes (P := P) w fields.toList hall
        simp only [Instr.build, Sem.run_bind, hzv, Result.andThen_ok, run_underlying ht, Array.mapM_eq_mapM_toList, Sem.run_map, hm]
        have e : (fun (x : Nat) => (fields.toList.map fun (f : Field) => (f.offset, (szc P f.type).getD 0)).toArray[x]?) = (fun (i : Nat) => (fields[i]?).map fun (f : Field) => (f.offset, (szc P f.type).getD 0)) := by
          funext i; simp
        rw [e]
        simp only [Array.toArray_toList] at h1
        simp [h1]
    · cases h
  · rename_i z n e hz ht
    split at h
    · rename_i s hs
      obtain ⟨zv, hzv, rfl⟩ := zeroCs_ok hz
      cases hf : dfill (fun i => some (i * s, s)) (zv.cells.toList.map .v) ps with
      | none => simp [hf] at h
      | some cs =>
        simp [hf] at h; subst h
        obtain ⟨zs, h1, h2⟩ := dfill_ok hf (rvl_v zv.cells.toList) hi hr
        refine ⟨.agg zs.toArray, ?_, zs, rfl, h2⟩
        simp only [Array.toArray_toList] at h1
        simp [Instr.build, hzv, run_underlying ht, szc_run hs, h1]
    · cases h
  · cases h
theorem heap_cell {w : World} {b : Nat} {c : List Value} {e : TypeId} (h : w.heap[b]? = some (.cells c.toArray e (0, 0))) (o : Nat) : w.cell? ⟨b, o, none⟩ = c[o]? := by
  simp [World.cell?, h]
theorem addr_add (b o j : Nat) : (⟨b, o, none⟩ : Addr).add j = ⟨b, o + j, none⟩ := by
  unfold Addr.add; split <;> simp_all
theorem loadAt_one {w : World} {t : TypeId} {b o : Nat} {v : Value} (ht : isAgg? P t = some false) (h : w.cell? ⟨b, o, none⟩ = some v) : (Instr.loadAt t (.pointer (some ⟨b, o, none⟩))).run P w = .ok v w := by
  simp only [Instr.loadAt, Instr.sureAddr, loadVar, Sem.run_bind, Sem.run_pure, Result.andThen_ok, run_isAgg ht, Bool.false_eq_true, if_false, run_load, h]
theorem dload_ok {st : St} {t : TypeId} {x : SV} {K : SV → TR R} (h : (dload P st t x K).run = some r) :
    ∃ v, (K v).run = some r ∧ ∀ (ι : Io) (a : Act) (w : World) (u : Value), Rel N ι st a w → RV ι w x u → ∃ val, (Instr.loadAt t u).run P w = .ok val w ∧ RV ι w v val := by
  unfold dload at h
  split at h
  · rename_i s off
    split at h
    · rename_i cs ho
      split at h
      · rename_i v hd
        refine ⟨_, h, fun ι a w u hrel hu => ?_⟩
        obtain ⟨b, n, hs, rfl⟩ := hu
        obtain ⟨b', n', hs', c, e, hh, hl⟩ := hrel.objs _ _ ho
        rw [hs] at hs'; simp only [Option.some.injEq, Prod.mk.injEq] at hs'; obtain ⟨rfl, rfl⟩ := hs'
        unfold dpart at hd
        split at hd
        · rename_i sz ha hsz
          split at hd
          · simp only [Option.some.injEq] at hd; subst hd
            rename_i hle
            refine ⟨.agg ((c.drop off).take sz).toArray, ?_, _, rfl, (hl.drop off).take sz⟩
            have hlen : ((c.drop off).take sz).length = sz := by simp [← hl.length]; omega
            have := run_loadCells_list (P := P) w ⟨b, off, none⟩ ((c.drop off).take sz) (fun j v hj => by
              rw [addr_add, heap_cell hh]
              rw [List.getElem?_take] at hj
              split at hj
              · simpa using hj
              · cases hj)
            rw [hlen] at this
            simp [Instr.loadAt, Instr.sureAddr, loadVar, run_isAgg ha, szc_run hsz, this]
          · cases hd
        · rename_i sz ha hsz
          obtain ⟨v', hv', hrv⟩ := hl.get hd
          refine ⟨v', ?_, hrv⟩
          exact loadAt_one ha (by rw [heap_cell hh]; exact hv')
        · cases hd
      · exact (fail_run h).elim
    · exact (fail_run h).elim
  · rename_i s off n i
    split at h
    · rename_i cs k ho ht
      split at h
      · rename_i xs hx
        split at h
        · rename_i hlen
          refine ⟨_, h, fun ι a w u hrel hu => ?_⟩
          obtain ⟨b, m, hs, h0, h1, rfl⟩ := hu
          obtain ⟨b', n', hs', c, e, hh, hl⟩ := hrel.objs _ _ ho
          rw [hs] at hs'; simp only [Option.some.injEq, Prod.mk.injEq] at hs'; obtain ⟨rfl, rfl⟩ := hs'
          have hc := intsOf_rv hx ((hl.drop off).take n)
          have hi : i.toNat < n := by omega
          have hcell : c[off + i.toNat]? = some (.int k (xs.getD i.toNat 0)) := by
            have : ((c.drop off).take n)[i.toNat]? = some (.int k (xs.getD i.toNat 0)) := by
              rw [hc]; simp [List.getD, List.getElem?_eq_getElem (show i.toNat < xs.length by omega)]
            rw [List.getElem?_take] at this
            simpa [hi] using this
          refine ⟨_, ?_, rfl⟩
          exact loadAt_one (by simp [isAgg?, ht]) (by rw [heap_cell hh]; exact hcell)
        · exact (fail_run h).elim
      · exact (fail_run h).elim
    · exact (fail_run h).elim
  · rename_i l i
    split at h
    · rename_i k xs k' ht
      split at h
      · rename_i hk
        refine ⟨_, h, fun ι a w u hrel hu => ?_⟩
        obtain ⟨h0, h1, b, off, rfl, hb, hno, hc⟩ := hu
        simp only [LV.len] at h1
        have hcell := hc i.toNat (.int k (xs.getD i.toNat 0)) (by simp [LV.cells, List.getD, List.getElem?_eq_getElem (show i.toNat < xs.length by omega)])
        refine ⟨_, ?_, rfl⟩
        exact loadAt_one (by simp [isAgg?, ht]) hcell
      · exact (fail_run h).elim
    · rename_i xs ht
      refine ⟨_, h, fun ι a w u hrel hu => ?_⟩
      obtain ⟨h0, h1, b, off, rfl, hb, hno, hc⟩ := hu
      simp only [LV.len] at h1
      have hcell := hc i.toNat (.string (xs.getD i.toNat ByteArray.empty)) (by simp [LV.cells, List.getD, List.getElem?_eq_getElem (show i.toNat < xs.length by omega)])
      refine ⟨_, ?_, rfl⟩
      exact loadAt_one (by simp [isAgg?, ht]) hcell
    · exact (fail_run h).elim
  · rename_i s i
    split at h
    · rename_i k xs k' ho ht
      split at h
      · rename_i hk
        refine ⟨_, h, fun ι a w u hrel hu => ?_⟩
        obtain ⟨b, n, hs, h0, h1, rfl⟩ := hu
        obtain ⟨b', n', hs', hn, c, e, hh, hl⟩ := hrel.objs _ _ ho
        rw [hs] at hs'; simp only [Option.some.injEq, Prod.mk.injEq] at hs'; obtain ⟨rfl, rfl⟩ := hs'
        simp only [LV.len] at hn
        have hcell := hl i.toNat (.int k (xs.getD i.toNat 0)) (by simp [LV.cells, List.getD, List.getElem?_eq_getElem (show i.toNat < xs.length by omega)])
        refine ⟨_, ?_, rfl⟩
        exact loadAt_one (by simp [isAgg?, ht]) (by rw [heap_cell hh]; exact hcell)
      · exact (fail_run h).elim
    · exact (fail_run h).elim
  · exact (fail_run h).elim
end Go.Proofs.Ythcgeekibomhiaa.Den
namespace Go.Proofs.Ythcgeekibomhiaa.Den
set_option linter.unusedVariables false
set_option linter.unusedSimpArgs false
set_option linter.unusedSectionVars false
open Go Go.RowKit
variable {R : Type} {r : R} {P : Program} {N : Nat}
theorem setRow_ne (w : World) (g : Nat) (c : Array Value) {k : Nat} (h : k ≠ g) : (w.setRow g c).heap[k]? = w.heap[k]? := by
  simp only [World.setRow, Array.getElem?_modify]
  rw [if_neg (by omega)]
theorem Fr.setRow {ι : Io} {w : World} {b : Nat} (c : Array Value) (ho : ownI ι b) : Fr ι w ι (w.setRow b c) where
  os := rfl
  tape := rfl
  output := rfl
  size := by simp [World.setRow]
  blk k hk hn := setRow_ne w b c (fun e => hn (e ▸ ho))
  no := rfl
  ext _ _ h := h
  fresh _ _ _ h := .inl h
theorem Op1.setRow {st : St} {ι : Io} {w : World} {s b n : Nat} {ob : SO} (c : Array Value) (hs : ι s = some (b, n)) : Op1 st (.set s ob) ι w ι (w.setRow b c) where
  os := rfl
  tape := rfl
  output := rfl
  size := by simp [World.setRow]
  blk k hk hn := setRow_ne w b c (fun e => hn s ob n rfl (e ▸ hs))
  no := rfl
  ext _ _ h := h
  old _ _ := rfl
  new _ _ h := .inl h
theorem RO.fr {ι ι' : Io} {w w' : World} {b n : Nat} {ob : SO} (h : Fr ι w ι' w') (hb : w'.heap[b]? = w.heap[b]?) (r : RO ι w b n ob) : RO ι' w' b n ob := by
  cases ob with
  | cells cs => obtain ⟨c, e, hh, hl⟩ := r; exact ⟨c, e, by rw [hb]; exact hh, hl.fr h⟩
  | vec l => obtain ⟨hn, c, e, hh, hl⟩ := r; exact ⟨hn, c, e, by rw [hb]; exact hh, hl⟩
  | fz l => exact r
theorem Rel.set {ι : Io} {st : St} {a : Act} {w : World} (h : Rel N ι st a w) {s b n : Nat} {ob : SO} {c : Array Value} (hs : ι s = some (b, n))
    (hro : RO ι (w.setRow b c) b n ob) : Rel N ι (st.eff (.set s ob)) a (w.setRow b c) := by
  have hf : Fr ι w ι (w.setRow b c) := Fr.setRow c ⟨s, n, hs⟩
  refine ⟨h.defers, h.size, h.nt, fun t => (h.tmps t).fr hf, fun s' ob' ho => ?_, fun s' b' n' hs' => ?_, fun b' hb' => by simpa [World.setRow] using h.ndom b' hb', h.inj⟩
  · simp only [St.eff] at ho
    split at ho
    · rename_i e; subst e; simp only [Option.some.injEq] at ho; subst ho; exact ⟨b, n, hs, hro⟩
    · rename_i hne
      obtain ⟨b', n', hs', hro'⟩ := h.objs s' ob' ho
      refine ⟨b', n', hs', hro'.fr hf (setRow_ne w b c fun e => hne ?_)⟩
      subst e; exact h.inj s' s b' n' n hs' hs
  · have := h.dom s' b' n' hs'
    simpa [World.setRow, St.eff] using this
theorem storeVar_at {w : World} {t : TypeId} {b o sz : Nat} {u : Value} {c : List Value} {e : TypeId} (hsz : szc P t = some sz) (hu : u.cells.toList.length = sz)
    (hh : w.heap[b]? = some (.cells c.toArray e (0, 0))) (hl : o + sz ≤ c.length) (h1 : ∀ v ∈ u.cells.toList, v.oneCell' = true) :
    (Instr.storeAt t (.pointer (some ⟨b, o, none⟩)) u).run P w = .ok () (w.setRow b (c.take o ++ u.cells.toList ++ c.drop (o + sz)).toArray) := by
  have h := run_storeCells_at P b o e u.cells.toList 0 c.toArray w hh (by simp at hu ⊢; omega) h1
  have hs : u.cells.size = sz := by rw [← Array.length_toList]; exact hu
  simp only [Instr.storeAt, Instr.sureAddr, storeVar, Sem.run_bind, Sem.run_pure, Result.andThen_ok, szc_run hsz, hs, ne_eq, not_true_eq_false, if_false]
  rw [h]
  simp only [Nat.add_zero, hu]
theorem setC_ok {ι : Io} {w : World} {k : IntKind} {i y : Int} : ∀ (xs : List Int) (j : Nat), (j : Int) ≤ i → RVL ι w (setC k i y xs j) ((xs.set (i.toNat - j) y).map (.int k))
  | [], _, _ => by simp [setC, RVL]
  | x :: xs, j, h => by
    by_cases c : i = (j : Int)
    · have : i.toNat - j = 0 := by omega
      simp only [setC, c, if_true, this]
      rw [show ((j : Int).toNat - j) = 0 by omega]
      refine ⟨rfl, ?_⟩
      have : ∀ (l : List Int) (m : Nat), j < m → RVL ι w (setC k (j : Int) y l m) (l.map (.int k)) := by
        intro l
        induction l with
        | nil => intro m _; simp [setC, RVL]
        | cons z l ih => intro m hm; simp only [setC]; rw [if_neg (by omega)]; exact ⟨rfl, ih (m + 1) (by omega)⟩
      exact this xs (j + 1) (by omega)
    · have : i.toNat - j = (i.toNat - (j + 1)) + 1 := by omega
      rw [this]
      simp only [setC, c, if_false, List.set_cons_succ, List.map_cons]
      exact ⟨rfl, setC_ok xs (j + 1) (by omega)⟩
theorem dstore_ok {st : St} {t : TypeId} {x v : SV} {K : Eff → TR R} (h : (dstore P st t x v K).run = some r) :
    ∃ e, (K e).run = some r ∧ ∀ (ι : Io) (a : Act) (w : World) (u uv : Value), Rel N ι st a w → RV ι w x u → RV ι w v uv →
      ∃ w', (Instr.storeAt t u uv).run P w = .ok () w' ∧ Rel N ι (st.eff e) a w' ∧ Op1 st e ι w ι w' := by
  unfold dstore at h
  split at h
  · rename_i s off
    split at h
    · rename_i cs sz ho hsz
      split at h
      · rename_i hc
        obtain ⟨h1, h2, h3⟩ := hc
        refine ⟨_, h, fun ι a w u uv hrel hu hv => ?_⟩
        obtain ⟨b, n, hs, rfl⟩ := hu
        obtain ⟨b', n', hs', c, e, hh, hl⟩ := hrel.objs _ _ ho
        rw [hs] at hs'; simp only [Option.some.injEq, Prod.mk.injEq] at hs'; obtain ⟨rfl, rfl⟩ := hs'
        obtain ⟨k1, k2⟩ := rv_cs hv h3
        have hfr := Fr.setRow (w := w) (c.take off ++ uv.cells.toList ++ c.drop (off + sz)).toArray ⟨s, n, hs⟩
        refine ⟨_, storeVar_at hsz (by rw [← k1.length, h1]) hh (by rw [← hl.length]; exact h2) k2, hrel.set hs ?_, Op1.setRow _ hs⟩
        refine ⟨_, e, setRow_heap w b _ _ e _ hh, ?_⟩
        rw [h1]
        exact RVL.fr hfr (((hl.take off).append k1).append (hl.drop _))
      · exact (fail_run h).elim
    · exact (fail_run h).elim
  · rename_i s off n i
    split at h
    · rename_i cs k y ho hsz
      split at h
      · rename_i xs hx
        split at h
        · rename_i hlen
          refine ⟨_, h, fun ι a w u uv hrel hu hv => ?_⟩
          obtain ⟨b, m, hs, h0, h1, rfl⟩ := hu
          obtain ⟨b', n', hs', c, e, hh, hl⟩ := hrel.objs _ _ ho
          rw [hs] at hs'; simp only [Option.some.injEq, Prod.mk.injEq] at hs'; obtain ⟨rfl, rfl⟩ := hs'
          rw [rv_v hv]
          have hc := intsOf_rv hx ((hl.drop off).take n)
          have hlc : off + n ≤ c.length := by
            have := congrArg List.length hc
            simp at this; omega
          have hfr := Fr.setRow (w := w) (c.take (off + i.toNat) ++ [Value.int k y] ++ c.drop (off + i.toNat + 1)).toArray ⟨s, m, hs⟩
          refine ⟨_, storeVar_at (u := .int k y) hsz rfl hh (by omega) (by simp [Value.cells, Value.oneCell']), hrel.set hs ?_, Op1.setRow _ hs⟩
          refine ⟨_, e, setRow_heap w b _ _ e _ hh, ?_⟩
          refine RVL.fr hfr ?_
          have hset : c.take (off + i.toNat) ++ (Value.int k y).cells.toList ++ c.drop (off + i.toNat + 1) = c.take off ++ (xs.set (i.toNat - 0) y).map (.int k) ++ c.drop (off + n) := by
            have e1 : (xs.set i.toNat y).map (Value.int k) = ((c.drop off).take n).set i.toNat (.int k y) := by rw [hc]; simp
            rw [Nat.sub_zero, e1]
            have e2 : c.take (off + i.toNat) ++ (Value.int k y).cells.toList ++ c.drop (off + i.toNat + 1) = c.set (off + i.toNat) (.int k y) := by
              rw [List.set_eq_take_append_cons_drop, if_pos (by omega)]; simp [Value.cells]
            have hsplit : c = c.take off ++ ((c.drop off).take n ++ c.drop (off + n)) := by
              rw [← List.drop_drop, List.take_append_drop, List.take_append_drop]
            rw [e2]
            conv => lhs; rw [hsplit]
            rw [List.set_append_right _ _ (by simp; omega), List.set_append_left _ _ (by simp; omega)]
            have : off + i.toNat - (c.take off).length = i.toNat := by simp; omega
            rw [this, List.append_assoc]
          rw [hset]
          exact ((hl.take off).append (setC_ok xs 0 h0)).append (hl.drop _)
        · exact (fail_run h).elim
      · exact (fail_run h).elim
    · exact (fail_run h).elim
  · rename_i s i
    split at h
    · rename_i k xs k' y ho hsz
      split at h
      · rename_i hk; subst hk
        refine ⟨_, h, fun ι a w u uv hrel hu hv => ?_⟩
        obtain ⟨b, n, hs, h0, h1, rfl⟩ := hu
        obtain ⟨b', n', hs', hn, c, e, hh, hl⟩ := hrel.objs _ _ ho
        rw [hs] at hs'; simp only [Option.some.injEq, Prod.mk.injEq] at hs'; obtain ⟨rfl, rfl⟩ := hs'
        simp only [LV.len] at hn
        rw [rv_v hv]
        have hcl : i.toNat < c.length := by
          have := hl i.toNat (.int k (xs.getD i.toNat 0)) (by simp [LV.cells, List.getD, List.getElem?_eq_getElem (show i.toNat < xs.length by omega)])
          exact (List.getElem?_eq_some_iff.1 this).1
        have hfr := Fr.setRow (w := w) (c.take i.toNat ++ [Value.int k y] ++ c.drop (i.toNat + 1)).toArray ⟨s, n, hs⟩
        refine ⟨_, storeVar_at (u := .int k y) hsz rfl hh (by omega) (by simp [Value.cells, Value.oneCell']), hrel.set hs ?_, Op1.setRow _ hs⟩
        refine ⟨by simpa [LV.len] using hn, _, e, setRow_heap w b _ _ e _ hh, ?_⟩
        intro j v hj
        simp only [LV.cells, List.map_set] at hj
        have e2 : c.take i.toNat ++ (Value.int k y).cells.toList ++ c.drop (i.toNat + 1) = c.set i.toNat (.int k y) := by
          rw [List.set_eq_take_append_cons_drop, if_pos hcl]; simp [Value.cells]
        rw [e2]
        rw [List.getElem?_set] at hj ⊢
        split
        · rename_i hij; subst hij
          simp at hj; simp [hcl, hj.2]
        · rename_i hij
          rw [if_neg hij] at hj
          exact hl j v (by simpa [LV.cells] using hj)
      · exact (fail_run h).elim
    · exact (fail_run h).elim
  · exact (fail_run h).elim
end Go.Proofs.Ythcgeekibomhiaa.Den
namespace Go.Proofs.Ythcgeekibomhiaa.Den
set_option linter.unusedVariables false
set_option linter.unusedSimpArgs false
set_option linter.unusedSectionVars false
open Go Go.RowKit
variable {R : Type} {r : R} {P : Program} {N : Nat}
theorem Rel.alloc {ι : Io} {st : St} {a : Act} {w : World} (h : Rel N ι st a w) (h0 : ι st.n = none) {n : Nat} {ob : SO} {c : Array Value} {e : TypeId}
    (hro : ∀ ι' : Io, (∀ s x, ι s = some x → ι' s = some x) → ι' st.n = some (w.heap.size, n) → Fr ι w ι' (w.alloc (.cells c e)) → RO ι' (w.alloc (.cells c e)) w.heap.size n ob) :
    ∃ ι' : Io, ι' st.n = some (w.heap.size, n) ∧ Rel N ι' (st.eff (.new ob)) a (w.alloc (.cells c e)) ∧ Op1 st (.new ob) ι w ι' (w.alloc (.cells c e)) := by
  let ι' : Io := ⟨fun s => if s = st.n then some (w.heap.size, n) else ι s, ι.no⟩
  have hn : ∀ s x, ι s = some x → s ≠ st.n := fun s x hx e => by subst e; rw [h0] at hx; cases hx
  have hext : ∀ s x, ι s = some x → ι' s = some x := fun s x hx => by
    have := hn s x hx
    simp only [ι']; rw [if_neg this]; exact hx
  have hnew : ι' st.n = some (w.heap.size, n) := by simp [ι']
  have hop : Op1 st (.new ob) ι w ι' (w.alloc (.cells c e)) := ⟨rfl, rfl, rfl, by simp, fun b hb _ => Below.heap_alloc _ _ _ hb, rfl, hext, fun s hs => by simp only [ι']; rw [if_neg hs], fun b m hs => by
    rw [hnew] at hs; simp only [Option.some.injEq, Prod.mk.injEq] at hs; exact .inr ⟨by omega, ob, rfl⟩⟩
  have hfr := hop.fr
  refine ⟨ι', hnew, ⟨h.defers, h.size, h.nt, fun t => (h.tmps t).fr hfr, fun s ob' ho => ?_, fun s b m hs => ?_, fun b hb => by have := h.ndom b hb; simp; omega, fun s s' b m m' hs hs' => ?_⟩, hop⟩
  · simp only [St.eff] at ho
    split at ho
    · rename_i es; subst es; simp only [Option.some.injEq] at ho; subst ho
      exact ⟨_, _, hnew, hro ι' hext hnew hfr⟩
    · obtain ⟨b, m, hs, hr⟩ := h.objs s ob' ho
      exact ⟨b, m, hext _ _ hs, hr.fr hfr (Below.heap_alloc _ _ _ (h.dom s b m hs))⟩
  · simp only [ι'] at hs ⊢
    split at hs
    · simp only [Option.some.injEq, Prod.mk.injEq] at hs; simp; omega
    · have := h.dom s b m hs; simp; omega
  · simp only [ι'] at hs hs'
    split at hs <;> split at hs'
    · omega
    · simp only [Option.some.injEq, Prod.mk.injEq] at hs; have := h.dom s' b m' hs'; omega
    · simp only [Option.some.injEq, Prod.mk.injEq] at hs'; have := h.dom s b m hs; omega
    · exact h.inj s s' b m m' hs hs'
theorem newVar_run {w : World} (t : TypeId) (v : Value) : (newVar t v).run P w = .ok ⟨w.heap.size, 0, none⟩ (w.alloc (.cells v.cells t)) := rfl
theorem heap_new {w : World} {c : Array Value} {e : TypeId} : (w.alloc (.cells c e)).heap[w.heap.size]? = some (.cells c e (0, 0)) := by
  show (w.heap.push _)[w.heap.size]? = _
  simp
def noIo (p : Nat → Prop) : Io := ⟨fun _ => none, p⟩
theorem own_noIo {p : Nat → Prop} {b : Nat} : own (noIo p) b ↔ p b := ⟨fun h => h.elim (fun ⟨_, _, k⟩ => by cases k) id, .inr⟩
theorem c1_rv {z : SV} (hz : z.c1 = true) {ι ι' : Io} (ho : ∀ b, own ι' b → own ι b) {w : World} {v : Value} (hv : RV ι w z v) : RV ι' w z v := by
  cases z <;> (try (simp [SV.c1] at hz; done)) <;> try exact hv
  obtain ⟨A, c, k1, k2, k3, hv⟩ := hv
  refine ⟨A, c, k1, k2, k3, fun hl => ?_⟩
  obtain ⟨b, off, h1, h2, h3, h4⟩ := hv hl
  exact ⟨b, off, h1, h2, fun k => h3 (ho b k), h4⟩
theorem c1_rvl {ι ι' : Io} (ho : ∀ b, own ι' b → own ι b) {w : World} : ∀ {cs : List SV} {vs : List Value}, cs.all SV.c1 = true → RVL ι w cs vs → RVL ι' w cs vs
  | [], [], _, _ => trivial
  | z :: cs, v :: vs, hz, hl => by
    simp only [List.all_cons, Bool.and_eq_true] at hz
    exact ⟨c1_rv hz.1 ho hl.1, c1_rvl ho hz.2 hl.2⟩
  | [], _ :: _, _, h => h.elim
  | _ :: _, [], _, h => h.elim
theorem clean_rv {z : SV} (hz : z.clean = true) {ι ι' : Io} (ho : ∀ b, own ι' b → own ι b) {w : World} {v : Value} (hv : RV ι w z v) : RV ι' w z v := by
  cases z <;> try (refine c1_rv ?_ ho hv; exact hz)
  case agg cs => obtain ⟨vs, rfl, hl⟩ := hv; exact ⟨vs, rfl, c1_rvl ho hz hl⟩
theorem clean_rvl {ι ι' : Io} (ho : ∀ b, own ι' b → own ι b) {w : World} : ∀ {cs : List SV} {vs : List Value}, cs.all SV.clean = true → RVL ι w cs vs → RVL ι' w cs vs
  | [], [], _, _ => trivial
  | z :: cs, v :: vs, hz, hl => by
    simp only [List.all_cons, Bool.and_eq_true] at hz
    exact ⟨clean_rv hz.1 ho hl.1, clean_rvl ho hz.2 hl.2⟩
  | [], _ :: _, _, h => h.elim
  | _ :: _, [], _, h => h.elim
theorem clean3_rv {z : SV} (hz : z.clean3 = true) {ι ι' : Io} (ho : ∀ b, own ι' b → own ι b) {w : World} {v : Value} (hv : RV ι w z v) : RV ι' w z v := by
  cases z <;> try (refine clean_rv ?_ ho hv; exact hz)
  case tup cs => obtain ⟨vs, rfl, hl⟩ := hv; exact ⟨vs, rfl, clean_rvl ho hz hl⟩
theorem p1_rv {z : SV} (hz : z.p1 = true) {ι ι' : Io} {w w' : World} {v : Value} (hv : RV ι w z v) : RV ι' w' z v := by
  cases z <;> (try (simp [SV.p1] at hz; done)) <;> exact hv
theorem p1_rvl {ι ι' : Io} {w w' : World} : ∀ {cs : List SV} {vs : List Value}, cs.all SV.p1 = true → RVL ι w cs vs → RVL ι' w' cs vs
  | [], [], _, _ => trivial
  | z :: cs, v :: vs, hz, hl => by
    simp only [List.all_cons, Bool.and_eq_true] at hz
    exact ⟨p1_rv hz.1 hl.1, p1_rvl hz.2 hl.2⟩
  | [], _ :: _, _, h => h.elim
  | _ :: _, [], _, h => h.elim
theorem p2_rv {z : SV} (hz : z.p2 = true) {ι ι' : Io} {w w' : World} {v : Value} (hv : RV ι w z v) : RV ι' w' z v := by
  cases z <;> try (refine p1_rv ?_ hv; exact hz)
  case agg cs => obtain ⟨vs, rfl, hl⟩ := hv; exact ⟨vs, rfl, p1_rvl hz hl⟩
theorem p2_rvl {ι ι' : Io} {w w' : World} : ∀ {cs : List SV} {vs : List Value}, cs.all SV.p2 = true → RVL ι w cs vs → RVL ι' w' cs vs
  | [], [], _, _ => trivial
  | z :: cs, v :: vs, hz, hl => by
    simp only [List.all_cons, Bool.and_eq_true] at hz
    exact ⟨p2_rv hz.1 hl.1, p2_rvl hz.2 hl.2⟩
  | [], _ :: _, _, h => h.elim
  | _ :: _, [], _, h => h.elim
theorem plain_rv {v : SV} (h : v.plain = true) {ι ι' : Io} {w w' : World} {u : Value} (hu : RV ι w v u) : RV ι' w' v u := by
  cases v <;> try (refine p2_rv ?_ hu; exact h)
  case tup cs => obtain ⟨vs, rfl, hl⟩ := hu; exact ⟨vs, rfl, p2_rvl h hl⟩
theorem argOf_ok {st : St} {x y : SV} (h : argOf st x = some y) {ι : Io} {a : Act} {w : World} (hrel : Rel N ι st a w) {u : Value} (hu : RV ι w x u) :
    RV (noIo fun _ => False) w y u ∧ (x.own1 = false → RV (noIo (own ι)) w y u) := by
  unfold argOf at h
  split at h
  · rename_i s
    split at h
    · rename_i l ho
      simp only [Option.some.injEq] at h; subst h
      obtain ⟨b, n, c, hs, rfl, hnc, hnm⟩ := hu
      obtain ⟨b', n', hs', hn, cc, e, hh, hl⟩ := hrel.objs _ _ ho
      rw [hs] at hs'; simp only [Option.some.injEq, Prod.mk.injEq] at hs'; obtain ⟨rfl, rfl⟩ := hs'
      subst hn
      exact ⟨⟨_, c, rfl, hnc, hnm, fun _ => ⟨b, 0, rfl, hrel.dom _ _ _ hs, fun k => own_noIo.1 k, fun j v hj => by rw [heap_cell hh, Nat.zero_add]; exact hl j v hj⟩⟩, fun k => by simp [SV.own1] at k⟩
    · rename_i l ho
      obtain ⟨b', n', hs', hf⟩ := hrel.objs _ _ ho
      exact hf.elim
    · cases h
  · split at h
    · rename_i hc
      simp only [Option.some.injEq] at h; subst h
      exact ⟨clean_rv hc (fun b k => (own_noIo.1 k).elim) hu, fun _ => clean_rv hc (fun b k => own_noIo.1 k) hu⟩
    · cases h
theorem argsOf_ok {st : St} {ι : Io} {a : Act} {w : World} (hrel : Rel N ι st a w) : ∀ {xs ys : List SV} {us : List Value}, argsOf st xs = some ys → RVL ι w xs us →
    RVL (noIo fun _ => False) w ys us ∧ (xs.any SV.own1 = false → RVL (noIo (own ι)) w ys us)
  | [], ys, [], h, _ => by simp [argsOf] at h; subst h; exact ⟨trivial, fun _ => trivial⟩
  | x :: xs, ys, u :: us, h, ⟨h1, h2⟩ => by
    simp only [argsOf] at h
    split at h
    · rename_i y hy
      split at h
      · rename_i l hl
        simp only [Option.some.injEq] at h; subst h
        obtain ⟨k1, k2⟩ := argOf_ok hy hrel h1
        obtain ⟨k3, k4⟩ := argsOf_ok hrel hl h2
        exact ⟨⟨k1, k3⟩, fun k => by simp only [List.any_cons, Bool.or_eq_false_iff] at k; exact ⟨k2 k.1, k4 k.2⟩⟩
      · cases h
    · cases h
  | [], _, _ :: _, _, h => h.elim
  | _ :: _, _, [], _, h => h.elim
theorem Rel.below {ι : Io} {st : St} {a : Act} {w w' : World} (h : Rel N ι st a w) (hb : Below w.heap.size w w') : Rel N ι st a w' ∧ Op1 st .no ι w ι w' := by
  have hop : Op1 st .no ι w ι w' := ⟨hb.os, hb.tape, hb.output, hb.size, fun b hlt _ => hb.block b hlt, rfl, fun _ _ h => h, fun _ _ => rfl, fun _ _ h => .inl h⟩
  have hfr := hop.fr
  refine ⟨⟨h.defers, h.size, h.nt, fun t => (h.tmps t).fr hfr, fun s ob ho => ?_, fun s b n hs => ?_, fun b k => by have := h.ndom b k; have := hb.size; omega, h.inj⟩, hop⟩
  · obtain ⟨b, n, hs, hr⟩ := h.objs s ob ho
    exact ⟨b, n, hs, hr.fr hfr (hb.block b (h.dom s b n hs))⟩
  · have := h.dom s b n hs; have := hb.size; omega
theorem rvl_map {ι : Io} {st : St} {a : Act} {w : World} (hrel : Rel N ι st a w) : ∀ l : List Operand, RVL ι w (l.map (ev st)) (l.map a.eval)
  | [] => trivial
  | x :: l => ⟨hrel.ev x, rvl_map hrel l⟩
theorem call_ok {T : Tbl} (hT : TblOK P T) {st : St} {o : Oper} {c : Call} {f : FuncId} {as : List SV} (ho : o.op = .call c)
    (hres : ∀ ι a w, Rel N ι st a w → (execOp a.eval o).run P w = (callFunc f (c.args.map a.eval)).run P w)
    (ha : argsOf st (c.args.toList.map (ev st)) = some as) {K : SV → Eff → TR R} (h : (T R f as fun v => if resOK (c.args.toList.map (ev st)) v = true then K v .no else .fail).run = some r) :
    ∃ v e, (K v e).run = some r ∧ OpOK P N st o v e := by
  obtain ⟨out, hK, hc⟩ := hT R f as _ r h
  split at hK
  · rename_i hp
    refine ⟨out, .no, hK, ?_⟩
    intro ι a w hrel _ next Q hn
    obtain ⟨hl, hl2⟩ := argsOf_ok hrel ha (rvl_map hrel c.args.toList)
    have e : (c.args.map a.eval) = (c.args.toList.map a.eval).toArray := by simp only [← Array.toList_map, Array.toArray_toList]
    have hrun := hres ι a w hrel
    rw [e] at hrun
    have main : Calls1 P f (c.args.toList.map a.eval) w fun y w' => RV ι w' out y ∧ Below w.heap.size w w' := by
      have imp : ∀ {R1 R2 : Value → World → Prop}, (∀ y w', R1 y w' → R2 y w') → Calls1 P f (c.args.toList.map a.eval) w R1 → Calls1 P f (c.args.toList.map a.eval) w R2 := by
        intro R1 R2 hi hh
        rcases hh with ⟨h1, h2⟩ | ⟨y, h1, h2⟩
        · exact .inl ⟨h1, h2.mono fun e w' ⟨y, he, hr⟩ => ⟨y, he, hi y w' hr⟩⟩
        · exact .inr ⟨y, h1, hi y w h2⟩
      unfold resOK at hp
      rcases Bool.or_eq_true _ _ |>.mp hp with hp | hp
      · exact imp (fun y w' ⟨hy, hb⟩ => ⟨plain_rv hp hy, hb⟩) (hc _ w (noIo fun _ => False) (fun _ => rfl) (fun _ k => k.elim) hl)
      · simp only [Bool.and_eq_true, Bool.not_eq_true'] at hp
        refine imp (fun y w' ⟨hy, hb⟩ => ⟨clean3_rv hp.1 (fun b k => .inr k) hy, hb⟩) (hc _ w (noIo (own ι)) (fun _ => rfl) (fun b k => ?_) (hl2 hp.2))
        rcases k with ⟨s, n, hs⟩ | k
        · exact hrel.dom s b n hs
        · exact hrel.ndom b k
    rcases main with ⟨h1, h2⟩ | ⟨y, h1, h2, h3⟩
    · unfold Oper.wp
      rw [hrun, h1]
      simp only [Oper.upon]
      refine h2.mono ?_
      rintro e w' ⟨y, rfl, hy, hb⟩
      obtain ⟨k1, k2⟩ := hrel.below hb
      exact hn y w' ι hy k1 k2
    · unfold Oper.wp
      rw [hrun, h1]
      obtain ⟨k1, k2⟩ := hrel.below h3
      exact hn y w ι h2 k1 k2
  · exact (fail_run hK).elim
end Go.Proofs.Ythcgeekibomhiaa.Den
namespace Go.Proofs.Ythcgeekibomhiaa.Den
set_option linter.unusedVariables false
set_option linter.unusedSimpArgs false
set_option linter.unusedSectionVars false
open Go Go.RowKit
variable {R : Type} {r : R} {P : Program} {N : Nat}
theorem dindexAddr_ok {st : St} {t : TypeId} {x : SV} {ix : Operand} {K : SV → TR R} (h : (dindexAddr P st t x ix K).run = some r) :
    ∃ v, (K v).run = some r ∧ ∀ (ι : Io) (a : Act) (w : World) (u : Value), Rel N ι st a w → RV ι w x u → ∃ val, (Instr.indexAt t u (a.eval ix)).run P w = .ok val w ∧ RV ι w v val := by
  have arr : ∀ {n e sz : Nat} {s off j : Nat} {k : IntKind} {ι : Io} {a : Act} {w : World} {u : Value}, P.underlying t = some (.array n e) → szc P e = some sz → j < n →
      a.eval ix = .int k j → RV ι w (.ptr s off) u → ∃ val, (Instr.indexAt t u (a.eval ix)).run P w = .ok val w ∧ RV ι w (.ptr s (off + j * sz)) val := by
    intro n e sz s off j k ι a w u ht hs hj hk hu
    obtain ⟨b, m, hb, rfl⟩ := hu
    refine ⟨.pointer (some ⟨b, off + j * sz, none⟩), ?_, b, m, hb, rfl⟩
    rw [hk]
    have h0 : (0 : Int) ≤ (j : Int) ∧ (j : Int) < (n : Int) := by omega
    simp only [Instr.indexAt, asIntOf, Sem.run_bind, Sem.run_pure, Result.andThen_ok, run_underlying ht, Instr.sureAddr]
    simp [h0, hj, szc_run hs, addr_add]
  unfold dindexAddr at h
  split at h
  · rename_i n e ht
    split at h
    · rename_i s off sz hs
      split at h
      · rename_i k j
        split at h
        · rename_i hj
          exact ⟨_, h, fun ι a w u hrel hu => arr ht hs hj rfl hu⟩
        · exact (fail_run h).elim
      · split at h
        · rename_i k i hev
          rcases br_run h with ⟨hb, h⟩ | ⟨_, h⟩
          · refine ⟨_, h, fun ι a w u hrel hu => ?_⟩
            have hix := hrel.ev ix
            rw [hev] at hix
            obtain ⟨b, m, hs', rfl⟩ := hu
            refine ⟨.pointer (some ⟨b, off + i.toNat, none⟩), ?_, b, m, hs', hb.1, hb.2, rfl⟩
            rw [rv_v hix]
            simp only [Instr.indexAt, asIntOf, Sem.run_bind, Sem.run_pure, Result.andThen_ok, run_underlying ht, Instr.sureAddr]
            simp [hb, szc_run hs, addr_add]
          · exact (fail_run h).elim
        · rename_i k j hev _
          split at h
          · rename_i hj
            refine ⟨_, h, fun ι a w u hrel hu => ?_⟩
            have hix := hrel.ev ix
            rw [hev] at hix
            exact arr ht hs hj (rv_v hix) hu
          · exact (fail_run h).elim
        · exact (fail_run h).elim
    · exact (fail_run h).elim
  · rename_i e ht
    split at h
    · rename_i l k i hs hev
      rcases br_run h with ⟨hb, h⟩ | ⟨_, h⟩
      · refine ⟨_, h, fun ι a w u hrel hu => ?_⟩
        have hix := hrel.ev ix
        rw [hev] at hix
        obtain ⟨A, c, rfl, _, _, hu⟩ := hu
        obtain ⟨b, off, rfl, hlt, hno, hc⟩ := hu (by omega)
        refine ⟨.pointer (some ⟨b, off + i.toNat, none⟩), ?_, hb.1, hb.2, b, off, rfl, hlt, hno, hc⟩
        rw [rv_v hix]
        simp only [Instr.indexAt, asIntOf, Sem.run_bind, Sem.run_pure, Result.andThen_ok, run_underlying ht]
        simp [hb, szc_run hs, addr_add]
      · exact (fail_run h).elim
    · rename_i s k i hs hev
      split at h
      · rename_i l ho
        rcases br_run h with ⟨hb, h⟩ | ⟨_, h⟩
        · refine ⟨_, h, fun ι a w u hrel hu => ?_⟩
          have hix := hrel.ev ix
          rw [hev] at hix
          obtain ⟨b, n, c, hs', rfl, _⟩ := hu
          obtain ⟨b', n', hs'', hn, _⟩ := hrel.objs _ _ ho
          rw [hs'] at hs''; simp only [Option.some.injEq, Prod.mk.injEq] at hs''; obtain ⟨rfl, rfl⟩ := hs''
          refine ⟨.pointer (some ⟨b, i.toNat, none⟩), ?_, b, n, hs', hb.1, by omega, rfl⟩
          rw [rv_v hix]
          simp only [Instr.indexAt, asIntOf, Sem.run_bind, Sem.run_pure, Result.andThen_ok, run_underlying ht]
          have hb' : 0 ≤ i ∧ i < (n : Int) := by omega
          simp [hb', szc_run hs, addr_add]
        · exact (fail_run h).elim
      · exact (fail_run h).elim
    · exact (fail_run h).elim
  · exact (fail_run h).elim
theorem dindex_ok {st : St} {t : TypeId} {x : SV} {ix : Operand} {K : SV → TR R} (h : (dindex P st t x ix K).run = some r) :
    ∃ v, (K v).run = some r ∧ ∀ (ι : Io) (a : Act) (w : World) (u : Value), Rel N ι st a w → RV ι w x u → ∃ val, (Instr.index t u (a.eval ix)).run P w = .ok val w ∧ RV ι w v val := by
  unfold dindex at h
  split at h
  · rename_i n e cs ht
    split at h
    · rename_i hs ha
      split at h
      · rename_i k j
        split at h
        · rename_i hj
          split at h
          · rename_i v hv
            refine ⟨v, h, fun ι a w u hrel hu => ?_⟩
            obtain ⟨vs, rfl, hl⟩ := hu
            obtain ⟨val, hval, hrv⟩ := hl.get hv
            refine ⟨val, ?_, hrv⟩
            have h0 : (0 : Int) ≤ Int.ofNat j ∧ Int.ofNat j < (n : Int) := by constructor; exact Int.natCast_nonneg _; exact Int.ofNat_lt.2 hj.1
            simp only [Act.eval, Instr.index, asIntOf, Sem.run_bind, Sem.run_pure, Result.andThen_ok, run_underlying ht, Sem.run_ite, h0, and_self, if_true, szc_run hs]
            exact part_one ha (by simpa using hval)
          · exact (fail_run h).elim
        · exact (fail_run h).elim
      · split at h
        · rename_i k' i k hev he
          split at h
          · rename_i xs hx
            split at h
            · rename_i hlen
              rcases br_run h with ⟨hb, h⟩ | ⟨_, h⟩
              · refine ⟨_, h, fun ι a w u hrel hu => ?_⟩
                have hix := hrel.ev ix
                rw [hev] at hix
                obtain ⟨vs, rfl, hl⟩ := hu
                have hvs := intsOf_rv hx hl
                refine ⟨_, ?_, rfl⟩
                rw [rv_v hix]
                simp only [Instr.index, asIntOf, Sem.run_bind, Sem.run_pure, Result.andThen_ok, run_underlying ht, Sem.run_ite, hb, and_self, if_true, szc_run hs]
                refine part_one ha ?_
                rw [hvs]
                simp [List.getD, List.getElem?_eq_getElem (show i.toNat < xs.length by omega)]
              · exact (fail_run h).elim
            · exact (fail_run h).elim
          · exact (fail_run h).elim
        · exact (fail_run h).elim
    · exact (fail_run h).elim
  · rename_i s ht
    split at h
    · rename_i k i hev
      rcases br_run h with ⟨hb, h⟩ | ⟨_, h⟩
      · refine ⟨_, h, fun ι a w u hrel hu => ?_⟩
        have hix := hrel.ev ix
        rw [hev] at hix
        refine ⟨_, ?_, rfl⟩
        rw [rv_v hix, rv_v hu]
        have hlt : i.toNat < s.size := by omega
        have hg : s[i.toNat]? = some s[i.toNat] := by simp [hlt]
        simp only [Instr.index, asIntOf, Sem.run_bind, Sem.run_pure, Result.andThen_ok, run_underlying ht, hb.1, if_true, hg]
        congr 3
        have hl2 : i.toNat < s.data.toList.length := by simpa using hlt
        rw [List.getD_eq_getElem?_getD, List.getElem?_eq_getElem hl2]
        rfl
      · exact (fail_run h).elim
    · exact (fail_run h).elim
  · exact (fail_run h).elim
end Go.Proofs.Ythcgeekibomhiaa.Den
namespace Go.Proofs.Ythcgeekibomhiaa.Den
set_option linter.unusedVariables false
set_option linter.unusedSimpArgs false
set_option linter.unusedSectionVars false
open Go Go.RowKit
variable {R : Type} {r : R} {P : Program} {N : Nat}
theorem pairs_fst (ps : Array (Nat × Operand)) (f : Operand → SV) (g : Operand → Value) :
    (ps.toList.map fun (i, x) => (i, f x)).map (·.1) = (ps.toList.map fun (i, x) => (i, g x)).map (·.1) := by simp
theorem pairs_snd {ι : Io} {st : St} {a : Act} {w : World} (hrel : Rel N ι st a w) : ∀ l : List (Nat × Operand),
    RVL ι w ((l.map fun (i, x) => (i, ev st x)).map (·.2)) ((l.map fun (i, x) => (i, a.eval x)).map (·.2))
  | [] => trivial
  | (_, x) :: l => ⟨hrel.ev x, pairs_snd hrel l⟩
theorem pairs_arr (ps : Array (Nat × Operand)) (g : Operand → Value) : (ps.map fun (i, x) => (i, g x)) = (ps.toList.map fun (i, x) => (i, g x)).toArray := by
  simp only [← Array.toList_map, Array.toArray_toList]
theorem OpOK.store {st : St} {o : Oper} {e : Eff}
    (h : ∀ ι a w, Rel N ι st a w → ∃ w' ι', (execOp a.eval o).run P w = .ok .skip w' ∧ Rel N ι' (st.eff e) a w' ∧ Op1 st e ι w ι' w') : OpOK P N st o .junk e := by
  intro ι a w hr _ next Q hn
  obtain ⟨w', ι', hrun, h2, h3⟩ := h ι a w hr
  unfold Oper.wp
  rw [hrun]
  exact hn undef w' ι' trivial h2 h3
theorem dop_ok {T : Tbl} (hT : TblOK P T) {st : St} {o : Oper} {K : SV → Eff → TR R} (h : (dop P T st o K).run = some r) :
    ∃ v e, (K v e).run = some r ∧ OpOK P N st o v e := by
  unfold dop at h
  split at h
  · rename_i x ho
    exact ⟨_, _, h, .still fun ι a w hr => ⟨a.eval x, by simp [execOp, ho], hr.ev x⟩⟩
  · rename_i x ho
    exact ⟨_, _, h, .still fun ι a w hr => ⟨a.eval x, by simp [execOp, ho], hr.ev x⟩⟩
  · 
    rename_i c x y ho
    obtain ⟨v, hK, hv⟩ := dpick_ok h
    refine ⟨_, _, hK, .still fun ι a w hr => ?_⟩
    obtain ⟨t, ht, hrv⟩ := hv ι w _ _ _ (hr.ev c) (hr.ev x) (hr.ev y)
    refine ⟨_, ?_, hrv⟩
    simp [execOp, ho, ht, asBool]
  · 
    rename_i op t x y yt ho
    split at h
    · rename_i tt k z hev
      split at h
      · rename_i ms hu
        refine ⟨_, _, h, .still fun ι a w hr => ?_⟩
        have hx := hr.ev x
        rw [hev] at hx
        have hx' : a.eval x = encErr tt k z := hx
        have hn0 : a.eval (.const .nilIface) = .nilIface := rfl
        have hm : P.underlying t = some (.interface (P.methodsAt t)) := by simp [Program.methodsAt, hu]
        refine ⟨.bool z.isNone, ?_, by simp only [RV]; congr 1; cases z <;> rfl⟩
        cases z with
        | none => simp only [execOp, ho, hx', hn0, encErr, eqGuard_nil_constR, Sem.run_bind, Sem.run_pure, Result.andThen_ok, run_eql_nil_nil w t hm]; rfl
        | some n => simp only [execOp, ho, hx', hn0, encErr, eqGuard_at_iface, Sem.run_bind, Sem.run_pure, Result.andThen_ok, run_eql_held_nil w t tt (.int k n) hm]; rfl
      · rename_i ms hu
        refine ⟨_, _, h, .still fun ι a w hr => ?_⟩
        have hx := hr.ev x
        rw [hev] at hx
        have hx' : a.eval x = encErr tt k z := hx
        have hn0 : a.eval (.const .nilIface) = .nilIface := rfl
        have hm : P.underlying t = some (.interface (P.methodsAt t)) := by simp [Program.methodsAt, hu]
        refine ⟨.bool (!z.isNone), ?_, by simp only [RV]; congr 1; cases z <;> rfl⟩
        cases z with
        | none => simp only [execOp, ho, hx', hn0, encErr, eqGuard_nil_constR, Sem.run_bind, Sem.run_pure, Result.andThen_ok, run_neq_nil_nil w t hm]; rfl
        | some n => simp only [execOp, ho, hx', hn0, encErr, eqGuard_at_iface, Sem.run_bind, Sem.run_pure, Result.andThen_ok, run_neq_held_nil w t tt (.int k n) hm]; rfl
      · exact (fail_run h).elim
    · obtain ⟨v, hK, hv⟩ := dbin_ok h
      refine ⟨_, _, hK, .still fun ι a w hr => ?_⟩
      obtain ⟨val, h1, h2⟩ := hv ι w _ _ x _ (hr.ev x) (hr.ev _)
      refine ⟨val, ?_, h2⟩
      simp only [execOp, ho]
      rw [Sem.run_bind, h1]; rfl
  · 
    rename_i op t x ho
    obtain ⟨v, hK, hv⟩ := dun_ok h
    refine ⟨_, _, hK, .still fun ι a w hr => ?_⟩
    obtain ⟨val, h1, h2⟩ := hv ι w _ (hr.ev x)
    exact ⟨val, by simp [execOp, ho, h1], h2⟩
  · 
    rename_i s d x ho
    split at h
    · rename_i k n hev
      split at h
      · rename_i ts k' hs hd
        refine ⟨_, _, h, .still fun ι a w hr => ?_⟩
        have hx := hr.ev x
        rw [hev] at hx
        refine ⟨.int k' (wr k' n), ?_, rfl⟩
        have hik : P.intKind d = k' := by simp [Program.intKind, hd]
        have hrun := run_convert_int (P := P) w s d k n (by simp [hs]) (by rw [hik]; exact hd)
        rw [hik] at hrun
        simp only [execOp, ho, rv_v hx, Sem.run_bind]
        rw [hrun, wr_eq]; rfl
      · exact (fail_run h).elim
    · exact (fail_run h).elim
  · 
    rename_i t ps ho
    split at h
    · rename_i v hb
      refine ⟨_, _, h, .still fun ι a w hr => ?_⟩
      obtain ⟨val, h1, h2⟩ := dbuild_ok hb (pairs_fst ps (ev st) a.eval) (pairs_snd hr ps.toList)
      exact ⟨val, by simp only [execOp, ho, pairs_arr]; rw [Sem.run_bind, h1]; rfl, h2⟩
    · exact (fail_run h).elim
  · 
    rename_i t x f ho
    split at h
    · rename_i cs fs hev hu
      split at h
      · rename_i fd hf
        split at h
        · rename_i v hp
          refine ⟨_, _, h, .still fun ι a w hr => ?_⟩
          have hx := hr.ev x
          rw [hev] at hx
          obtain ⟨vs, hx', hl⟩ := hx
          obtain ⟨val, h1, h2⟩ := dpart_ok hp hl
          exact ⟨val, by simp [execOp, ho, Instr.field, run_underlying hu, hf, hx', asAgg, h1], h2⟩
        · exact (fail_run h).elim
      · exact (fail_run h).elim
    · exact (fail_run h).elim
  · 
    rename_i t x ix ho
    obtain ⟨v, hK, hv⟩ := dindex_ok (N := N) h
    refine ⟨_, _, hK, .still fun ι a w hr => ?_⟩
    obtain ⟨val, h1, h2⟩ := hv ι a w _ hr (hr.ev x)
    exact ⟨val, by simp [execOp, ho, h1], h2⟩
  · 
    rename_i x i ho
    split at h
    · rename_i vs hev
      split at h
      · rename_i v hv
        refine ⟨_, _, h, .still fun ι a w hr => ?_⟩
        have hx := hr.ev x
        rw [hev] at hx
        obtain ⟨us, hx', hl⟩ := hx
        obtain ⟨u, hu, hrv⟩ := hl.get hv
        exact ⟨u, by simp [execOp, ho, hx', Instr.extract, hu], hrv⟩
      · exact (fail_run h).elim
    · exact (fail_run h).elim
  · 
    rename_i t ho
    split at h
    · rename_i z hz
      refine ⟨_, _, h, .run fun ι a w hr h0 => ?_⟩
      obtain ⟨zv, hzv, rfl⟩ := zeroCs_ok hz
      obtain ⟨ι', hn, h1, h2⟩ := hr.alloc h0 (n := 0) (ob := .cells (zv.cells.toList.map .v)) (c := zv.cells) (e := t) (fun ι' _ _ _ => ⟨zv.cells.toList, t, by rw [Array.toArray_toList]; exact heap_new, rvl_v _⟩)
      exact ⟨.pointer (some ⟨w.heap.size, 0, none⟩), _, ι', by simp [execOp, ho, Instr.alloc, hzv, newVar_run], ⟨_, _, hn, rfl⟩, h1, h2⟩
    · exact (fail_run h).elim
  · 
    rename_i t x ho
    split at h
    · rename_i hone
      refine ⟨_, _, h, .run fun ι a w hr h0 => ?_⟩
      have hx := hr.ev x
      obtain ⟨k1, _⟩ := rv_cs hx hone
      obtain ⟨ι', hn, h1, h2⟩ := hr.alloc h0 (n := 0) (ob := .cells (ev st x).cs) (c := (a.eval x).cells) (e := t) (fun ι' _ _ hf => ⟨(a.eval x).cells.toList, t, by rw [Array.toArray_toList]; exact heap_new, k1.fr hf⟩)
      exact ⟨.pointer (some ⟨w.heap.size, 0, none⟩), _, ι', by simp [execOp, ho, Instr.box, newVar_run], ⟨_, _, hn, rfl⟩, h1, h2⟩
    · exact (fail_run h).elim
  · 
    rename_i t n ps ho
    split at h
    · rename_i e hu
      split at h
      · rename_i z k hs hz he
        split at h
        · rename_i hle
          split at h
          · rename_i cs hf
            split at h
            · rename_i xs hx
              refine ⟨_, _, h, .run fun ι a w hr h0 => ?_⟩
              obtain ⟨zv, hzv, hzz⟩ := zeroCs_ok hz
              have hzc : ∃ z0, zv.cells = #[z0] ∧ z = .v z0 := by
                cases hc : zv.cells with
                | mk l => cases l with
                  | nil => simp [hc] at hzz
                  | cons z0 l => cases l with
                    | nil => simp [hc] at hzz; exact ⟨z0, rfl, hzz⟩
                    | cons _ _ => simp [hc] at hzz
              obtain ⟨z0, hz0, rfl⟩ := hzc
              have hrep : RVL ι w (List.replicate n (.v z0)) (List.replicate n z0) := by
                have := rvl_v (ι := ι) (w := w) (List.replicate n z0)
                rwa [List.map_replicate] at this
              obtain ⟨zs, f1, f2⟩ := dfill_ok hf hrep (pairs_fst ps (ev st) a.eval) (pairs_snd hr ps.toList)
              have hzs := intsOf_rv hx f2
              have hlen : xs.length = n := by
                have := f2.length
                have h3 : ∀ (ps : List (Nat × SV)) (cs z : List SV), dfill (fun i => some (i, 1)) cs ps = some z → z.length = cs.length := by
                  have hp : ∀ (u cs : List SV) (o : Nat), (putCs cs o u).length = cs.length := by
                    intro u; induction u with
                    | nil => intro cs o; rfl
                    | cons x u ih => intro cs o; simp [putCs, ih]
                  intro ps; induction ps with
                  | nil => intro cs z h; simp [dfill] at h; rw [h]
                  | cons p ps ih =>
                    intro cs z h
                    simp only [dfill] at h
                    split at h
                    · cases h
                    · rw [ih _ _ h, hp]
                have := h3 _ _ _ hf
                have h4 := congrArg List.length hzs
                simp at this h4; omega
              obtain ⟨ι', hn, h1, h2⟩ := hr.alloc h0 (n := n) (ob := .vec (.ints k xs)) (c := zs.toArray) (e := e)
                (fun ι' _ _ _ => ⟨by simp [LV.len, hlen], zs, e, heap_new, fun j v hj => by rw [hzs]; exact hj⟩)
              refine ⟨.slice (some ⟨w.heap.size, 0, none⟩) n n, _, ι', ?_, ⟨_, _, _, hn, rfl, Nat.le_refl _, by omega⟩, h1, h2⟩
              have hzero : ((Array.range n).map fun x => (#[z0] : Array Value)[x % (#[z0] : Array Value).size]!) = (List.replicate n z0).toArray := by
                apply Array.ext
                · simp
                · intro i h1 h2; simp [Nat.mod_one]
              have hbig : ¬ (2 ^ 24 < n * 1) := by omega
              have hfill : Instr.fill (fun i => some (i * 1, 1)) (List.replicate n z0).toArray (ps.toList.map fun (i, x) => (i, a.eval x)) = some zs.toArray := by
                simpa only [Nat.mul_one] using f1
              simp only [execOp, ho, Instr.buildSlice, Sem.run_bind, run_underlying hu, Result.andThen_ok, szc_run hs]
              rw [if_neg hbig]
              have hps : (ps.map fun x => (x.fst, a.eval x.snd)).toList = (ps.toList.map fun (i, x) => (i, a.eval x)) := by simp
              by_cases hn0 : n = 0
              · have hzero0 : ((Array.range n).map fun x => (#[] : Array Value)[x % (#[] : Array Value).size]!) = (List.replicate n z0).toArray := by
                  subst hn0; simp
                simp only [Nat.mul_one, hn0, if_true, Sem.run_bind, Sem.run_pure, Result.andThen_ok]
                simp only [Nat.mul_one, hn0] at hzero0 hfill
                rw [hzero0, hps, hfill]
                rfl
              · simp only [Nat.mul_one, hn0, if_false, Sem.run_bind, Sem.run_pure, Result.andThen_ok, hzv, hz0]
                simp only [Nat.mul_one] at hfill
                rw [hzero, hps, hfill]
                rfl
            · exact (fail_run h).elim
          · exact (fail_run h).elim
        · exact (fail_run h).elim
      · exact (fail_run h).elim
    · exact (fail_run h).elim
  · 
    rename_i t x ho
    obtain ⟨v, hK, hv⟩ := dload_ok (N := N) h
    refine ⟨_, _, hK, .still fun ι a w hr => ?_⟩
    obtain ⟨val, h1, h2⟩ := hv ι a w _ hr (hr.ev x)
    exact ⟨val, by simp [execOp, ho, h1], h2⟩
  · 
    rename_i t x y ho
    obtain ⟨e, hK, hv⟩ := dstore_ok (N := N) h
    refine ⟨_, _, hK, .store fun ι a w hr => ?_⟩
    obtain ⟨w', h1, h2, h3⟩ := hv ι a w _ _ hr (hr.ev x) (hr.ev y)
    exact ⟨w', ι, by simp [execOp, ho, h1], h2, h3⟩
  · 
    rename_i x ho
    split at h
    · rename_i s f hev
      refine ⟨_, _, h, .still fun ι a w hr => ?_⟩
      have hx := hr.ev x
      rw [hev] at hx
      obtain ⟨b, n, hs, hx'⟩ := hx
      exact ⟨_, by simp only [execOp, ho, hx']; rfl, b, n, hs, rfl⟩
    · exact (fail_run h).elim
  · 
    rename_i t x f ho
    split at h
    · rename_i s off fs hev hu
      split at h
      · rename_i fd hf
        split at h
        · rename_i m hs
          refine ⟨_, _, h, .still fun ι a w hr => ?_⟩
          have hx := hr.ev x
          rw [hev] at hx
          obtain ⟨b, n, hb, hx'⟩ := hx
          refine ⟨.pointer (some ⟨b, off + fd.offset, none⟩), ?_, b, n, hb, rfl⟩
          simp [execOp, ho, Instr.fieldAt, run_underlying hu, hf, hx', Instr.sureAddr, fieldPlace, szc_run hs, addr_add]
        · exact (fail_run h).elim
      · exact (fail_run h).elim
    · exact (fail_run h).elim
  · 
    rename_i t x ix ho
    obtain ⟨v, hK, hv⟩ := dindexAddr_ok (N := N) h
    refine ⟨_, _, hK, .still fun ι a w hr => ?_⟩
    obtain ⟨val, h1, h2⟩ := hv ι a w _ hr (hr.ev x)
    exact ⟨val, by simp [execOp, ho, h1], h2⟩
  · 
    rename_i t x ho
    split at h
    · rename_i k n k' hev hu
      refine ⟨_, _, h, .still fun ι a w hr => ?_⟩
      have hx := hr.ev x
      rw [hev] at hx
      exact ⟨.iface t (.int k n), by simp [execOp, ho, Instr.makeInterface, run_underlying hu, rv_v hx], rfl⟩
    · exact (fail_run h).elim
  · 
    rename_i c ho
    split at h
    · rename_i f hc
      split at h
      · rename_i as ha
        refine call_ok hT ho (fun ι a w hr => ?_) ha h
        simp [execOp, ho, resolve, hc, Act.eval, Deferred.ofValue, invoke]
      · exact (fail_run h).elim
    · rename_i t hc
      split at h
      · rename_i f fi ca hev
        split at h
        · rename_i hsz
          have h1 : fi = #[] := Array.eq_empty_of_size_eq_zero hsz.1
          have h2 : ca = #[] := Array.eq_empty_of_size_eq_zero hsz.2
          subst h1; subst h2
          split at h
          · rename_i as ha
            refine call_ok hT ho (fun ι a w hr => ?_) ha h
            have hx := hr.tmps t
            rw [hev] at hx
            have hx' : a.eval (.tmp t) = .func (.func f) #[] #[] := hx
            simp [execOp, ho, resolve, hc, hx', Deferred.ofValue, invoke]
          · exact (fail_run h).elim
        · exact (fail_run h).elim
      · exact (fail_run h).elim
    · 
      rename_i hc
      split at h
      · rename_i t x ht hx
        have hargs : ∀ a : Act, (c.args.map a.eval)[0]? = some (a.eval x) := fun a => by simp [hx]
        have hrun : ∀ (a : Act) (w : World) (v : Value), (Builtin.len_ c.argTypes o.type (c.args.map a.eval)).run P w = .ok v w → (execOp a.eval o).run P w = .ok (.value v) w := by
          intro a w v hv
          simp [execOp, ho, resolve, hc, invoke, builtin, hv]
        split at h
        · rename_i s hu hev
          refine ⟨_, _, h, .still fun ι a w hr => ⟨_, hrun a w _ ?_, rfl⟩⟩
          have hq := hr.ev x; rw [hev] at hq
          simp only [Builtin.len_, ht, hargs, rv_v hq, Sem.run_bind, run_underlying hu, Result.andThen_ok]; rfl
        · rename_i e l hu hev
          refine ⟨_, _, h, .still fun ι a w hr => ⟨_, hrun a w _ ?_, rfl⟩⟩
          have hq := hr.ev x; rw [hev] at hq
          obtain ⟨A, cc, hq, _⟩ := hq
          · simp only [Builtin.len_, ht, hargs, hq, Sem.run_bind, run_underlying hu, Result.andThen_ok]; rfl
        · rename_i hu hev
          refine ⟨_, _, h, .still fun ι a w hr => ⟨_, hrun a w _ ?_, rfl⟩⟩
          have hq := hr.ev x; rw [hev] at hq
          simp only [Builtin.len_, ht, hargs, rv_v hq, Sem.run_bind, run_underlying hu, Result.andThen_ok]; rfl
        · rename_i e s hu hev
          split at h
          · rename_i l hob
            refine ⟨_, _, h, .still fun ι a w hr => ⟨_, hrun a w _ ?_, rfl⟩⟩
            have hq := hr.ev x; rw [hev] at hq
            obtain ⟨b, n, cc, hs, hq, _⟩ := hq
            obtain ⟨b', n', hs', hn, _⟩ := hr.objs _ _ hob
            rw [hs] at hs'; simp only [Option.some.injEq, Prod.mk.injEq] at hs'; obtain ⟨rfl, rfl⟩ := hs'
            subst hn
            simp only [Builtin.len_, ht, hargs, hq, Sem.run_bind, run_underlying hu, Result.andThen_ok]; rfl
          · rename_i l hob
            refine ⟨_, _, h, .still fun ι a w hr => ?_⟩
            obtain ⟨b', n', hs', hn⟩ := hr.objs _ _ hob
            exact hn.elim
          · exact (fail_run h).elim
        · rename_i _ n e hu
          refine ⟨_, _, h, .still fun ι a w hr => ⟨_, hrun a w _ ?_, rfl⟩⟩
          simp only [Builtin.len_, ht, hargs, Sem.run_bind, run_underlying hu, Result.andThen_ok]; rfl
        · exact (fail_run h).elim
      · exact (fail_run h).elim
    · 
      rename_i hc
      split at h
      · rename_i k a0 k' b0 hev
        split at h
        · rename_i hk; subst hk
          refine ⟨_, _, h, .still fun ι a w hr => ⟨_, ?_, rfl⟩⟩
          have hl := rvl_map hr c.args.toList
          rw [hev] at hl
          have hargs : c.args.map a.eval = #[.int k a0, .int k b0] := by
            have e : (c.args.map a.eval) = (c.args.toList.map a.eval).toArray := by simp only [← Array.toList_map, Array.toArray_toList]
            rw [e]
            cases hcl : c.args.toList.map a.eval with
            | nil => rw [hcl] at hl; exact hl.elim
            | cons x l => cases l with
              | nil => rw [hcl] at hl; exact hl.2.elim
              | cons y l => cases l with
                | nil => rw [hcl] at hl; rw [rv_v hl.1, rv_v hl.2.1]
                | cons z l => rw [hcl] at hl; exact hl.2.2.elim
          simp [execOp, ho, resolve, hc, invoke, builtin, hargs, run_max_int2]
        · exact (fail_run h).elim
      · exact (fail_run h).elim
    · 
      rename_i hc
      split at h
      · rename_i k a0 k' b0 hev
        split at h
        · rename_i hk; subst hk
          refine ⟨_, _, h, .still fun ι a w hr => ⟨_, ?_, rfl⟩⟩
          have hl := rvl_map hr c.args.toList
          rw [hev] at hl
          have hargs : c.args.map a.eval = #[.int k a0, .int k b0] := by
            have e : (c.args.map a.eval) = (c.args.toList.map a.eval).toArray := by simp only [← Array.toList_map, Array.toArray_toList]
            rw [e]
            cases hcl : c.args.toList.map a.eval with
            | nil => rw [hcl] at hl; exact hl.elim
            | cons x l => cases l with
              | nil => rw [hcl] at hl; exact hl.2.elim
              | cons y l => cases l with
                | nil => rw [hcl] at hl; rw [rv_v hl.1, rv_v hl.2.1]
                | cons z l => rw [hcl] at hl; exact hl.2.2.elim
          simp [execOp, ho, resolve, hc, invoke, builtin, hargs, run_min_int2]
        · exact (fail_run h).elim
      · exact (fail_run h).elim
    · exact (fail_run h).elim
  · exact (fail_run h).elim
end Go.Proofs.Ythcgeekibomhiaa.Den
namespace Go.Proofs.Ythcgeekibomhiaa.Den
set_option linter.unusedVariables false
set_option linter.unusedSimpArgs false
set_option linter.unusedSectionVars false
open Go Go.RowKit
variable {R : Type} {r : R} {P : Program} {N : Nat}
theorem min_ev (st : St) (o : Oper) {x : Operand} (hx : x ∈ o.op.operands) : ev (st.min o) x = ev st x := by
  cases x with
  | tmp t =>
    have : (optmps o).contains t = true := by
      simp only [optmps, List.contains_iff_mem, List.mem_filterMap]
      exact ⟨.tmp t, by simpa using hx, rfl⟩
    simp only [ev, St.min, this, if_true]
  | const v => rfl
  | global g => rfl
  | func f => rfl
theorem min_o (st : St) (o : Oper) {x : Operand} (hx : x ∈ o.op.operands) {s : Nat} (hs : s ∈ sites (ev st x)) : (st.min o).o s = st.o s := by
  have : (orefs st o).contains s = true := by
    simp only [orefs, List.contains_iff_mem, List.mem_flatMap]
    exact ⟨x, by simpa using hx, hs⟩
  simp only [St.min, this, if_true]
theorem map_ev (st : St) (o : Oper) (l : List Operand) (h : ∀ x ∈ l, x ∈ o.op.operands) : l.map (ev (st.min o)) = l.map (ev st) :=
  List.map_congr_left fun x hx => min_ev st o (h x hx)
theorem argsOf_min (st : St) (o : Oper) : ∀ (l : List Operand), (∀ x ∈ l, x ∈ o.op.operands) → argsOf (st.min o) (l.map (ev st)) = argsOf st (l.map (ev st))
  | [], _ => rfl
  | x :: l, h => by
    have h1 : argOf (st.min o) (ev st x) = argOf st (ev st x) := by
      have hx := h x (by simp)
      unfold argOf
      split
      · rename_i s hs
        have hs' : s ∈ sites (ev st x) := by rw [hs]; simp [sites]
        rw [min_o st o hx hs']
      · rfl
    simp only [List.map_cons, argsOf, h1, argsOf_min st o l (fun y hy => h y (by simp [hy]))]
theorem pairs_min (st : St) (o : Oper) (ps : Array (Nat × Operand)) (h : ∀ x ∈ ps, x.2 ∈ o.op.operands) :
    (ps.toList.map fun (i, x) => (i, ev (st.min o) x)) = (ps.toList.map fun (i, x) => (i, ev st x)) :=
  List.map_congr_left fun p hp => by
    obtain ⟨i, x⟩ := p
    simp only [min_ev st o (h (i, x) (by simpa using hp))]
theorem dload_min (st : St) (o : Oper) (t : TypeId) {x : Operand} (hx : x ∈ o.op.operands) (K : SV → TR R) : dload P (st.min o) t (ev st x) K = dload P st t (ev st x) K := by
  have O := fun s => min_o st o hx (s := s)
  unfold dload
  split
  · rename_i s off hs; rw [O s (by rw [hs]; simp [sites])]
  · rename_i s off n i hs; rw [O s (by rw [hs]; simp [sites])]
  · rfl
  · rename_i s i hs; rw [O s (by rw [hs]; simp [sites])]
  · rfl
theorem dstore_min (st : St) (o : Oper) (t : TypeId) {x : Operand} (hx : x ∈ o.op.operands) (v : SV) (K : Eff → TR R) : dstore P (st.min o) t (ev st x) v K = dstore P st t (ev st x) v K := by
  have O := fun s => min_o st o hx (s := s)
  unfold dstore
  split
  · rename_i s off hs; rw [O s (by rw [hs]; simp [sites])]
  · rename_i s off n i hs; rw [O s (by rw [hs]; simp [sites])]
  · rename_i s i hs; rw [O s (by rw [hs]; simp [sites])]
  · rfl
theorem dindexAddr_min (st : St) (o : Oper) (t : TypeId) {x ix : Operand} (hx : x ∈ o.op.operands) (hi : ix ∈ o.op.operands) (K : SV → TR R) :
    dindexAddr P (st.min o) t (ev st x) ix K = dindexAddr P st t (ev st x) ix K := by
  have O := fun s => min_o st o hx (s := s)
  unfold dindexAddr
  rw [min_ev st o hi]
  split
  · split
    · split <;> rfl
    · rfl
  · split
    · rfl
    · rename_i s k i hs _ _; rw [O s (by rw [hs]; simp [sites])]
    · rfl
  · rfl
theorem dindex_min (st : St) (o : Oper) (t : TypeId) (x : SV) {ix : Operand} (hi : ix ∈ o.op.operands) (K : SV → TR R) : dindex P (st.min o) t x ix K = dindex P st t x ix K := by
  unfold dindex
  rw [min_ev st o hi]
theorem dop_min (T : Tbl) (st : St) (o : Oper) (K : SV → Eff → TR R) : dop P T (st.min o) o K = dop P T st o K := by
  have E := fun x => min_ev st o (x := x)
  have O := fun x hx s => min_o st o (x := x) hx (s := s)
  unfold dop
  split
  any_goals (rename_i ho; rw [ho] at E O; simp only [Op.operands] at E O)
  · rw [E _ (by simp)]
  · rw [E _ (by simp)]
  · rw [E _ (by simp), E _ (by simp), E _ (by simp)]
  · rename_i x y _; rw [E x (by simp), E y (by simp)]
  · rw [E _ (by simp)]
  · rw [E _ (by simp)]
  · rw [pairs_min st o _ (fun p hp => by rw [ho]; simp only [Op.operands]; simp; exact ⟨p.1, by simpa using hp⟩)]
  · rw [E _ (by simp)]
  · rename_i x ix; rw [E x (by simp), dindex_min st o _ _ (by rw [ho]; simp [Op.operands])]
  · rw [E _ (by simp)]
  · rfl
  · rw [E _ (by simp)]; rfl
  · rw [pairs_min st o _ (fun p hp => by rw [ho]; simp only [Op.operands]; simp; exact ⟨p.1, by simpa using hp⟩)]; rfl
  · rw [E _ (by simp), dload_min st o _ (by rw [ho]; simp [Op.operands])]
  · rename_i x y; rw [E x (by simp), E y (by simp), dstore_min st o _ (by rw [ho]; simp [Op.operands])]
  · rw [E _ (by simp)]
  · rw [E _ (by simp)]
  · rename_i x ix; rw [E x (by simp), dindexAddr_min st o _ (by rw [ho]; simp [Op.operands]) (by rw [ho]; simp [Op.operands])]
  · rw [E _ (by simp)]
  · rename_i c
    have ha : ∀ x ∈ c.args.toList, x ∈ o.op.operands := fun x hx => by rw [ho]; simp only [Op.operands, Call.operands]; simp; exact .inr (by simpa using hx)
    rw [map_ev st o _ ha, argsOf_min st o _ ha]
    split
    · rfl
    · rename_i t hc
      have : (st.min o).t t = st.t t := min_ev st o (x := .tmp t) (by rw [ho]; simp [Op.operands, Call.operands, hc])
      rw [this]
    · split
      · rename_i t x ht hx
        have hm : x ∈ o.op.operands := ha x (by
          have := Array.mem_of_getElem? hx
          simpa using this)
        rw [min_ev st o hm]
        split
        · rfl
        · rfl
        · rfl
        · rename_i s _ hs
          rw [min_o st o hm (by rw [hs]; simp [sites])]
        · rfl
        · rfl
      · rfl
    · rfl
    · rfl
    · rfl
  · rfl
end Go.Proofs.Ythcgeekibomhiaa.Den
namespace Go.Proofs.Ythcgeekibomhiaa.Den
set_option linter.unusedVariables false
set_option linter.unusedSimpArgs false
set_option linter.unusedSectionVars false
open Go Go.RowKit
variable {R : Type} {r : R} {P : Program} {N : Nat}
theorem put_getD (a : Act) (d t : Nat) (v : Value) : (a.put (some d) v).tmps.getD t undef = if t = d ∧ d < a.tmps.size then v else a.tmps.getD t undef := by
  simp only [Act.put, Array.getD_eq_getD_getElem?, Array.getElem?_setIfInBounds]
  by_cases h : d = t
  · subst h; by_cases h2 : d < a.tmps.size <;> simp [h2]
  · simp [h, Ne.symm h]
theorem Rel.put {ι : Io} {st : St} {a : Act} {w : World} (h : Rel N ι st a w) {d : Option Tmp} {v : SV} {val : Value} (hv : RV ι w v val) : Rel N ι (st.put d v) (a.put d val) w := by
  cases d with
  | none => exact h
  | some d =>
    have hsz : (a.put (some d) val).tmps.size = a.tmps.size := by simp [Act.put]
    have h1 := h.size
    have h2 := h.nt
    by_cases hd : d < st.nt
    · have e : st.put (some d) v = { st with t := fun x => if x = d then v else st.t x } := by simp [St.put, hd]
      rw [e]
      refine ⟨h.defers, by rw [hsz]; exact h.size, h.nt, fun t => ?_, h.objs, h.dom, h.ndom, h.inj⟩
      rw [put_getD]
      show RV ι w (if t = d then v else st.t t) _
      by_cases c : t = d
      · rw [if_pos c, if_pos ⟨c, by rw [h1, ← h2]; exact hd⟩]; exact hv
      · rw [if_neg c, if_neg (fun e => c e.1)]; exact h.tmps t
    · have e : st.put (some d) v = st := by simp [St.put, hd]
      rw [e]
      refine ⟨h.defers, by rw [hsz]; exact h.size, h.nt, fun t => ?_, h.objs, h.dom, h.ndom, h.inj⟩
      rw [put_getD, if_neg (fun e => hd (by rw [h2, ← h1]; exact e.2))]
      exact h.tmps t
theorem refine_t (st : St) (d x : Nat) (b : Bool) : (st.refine (.tmp d) b).t x = if x = d then .v (.bool b) else st.t x := rfl
theorem refine_rv {st : St} {d : Nat} {b : Bool} (hb : toB (st.t d) = some b) {ι : Io} {w : World} {x : Nat} {val : Value} (h : RV ι w (st.t x) val) :
    RV ι w ((st.refine (.tmp d) b).t x) val := by
  rw [refine_t]
  split
  · rename_i e; subst e; exact toB_rv hb h
  · exact h
theorem Rel.refine {ι : Io} {st : St} {a : Act} {w : World} (h : Rel N ι st a w) {d : Nat} {b : Bool} (hb : toB (st.t d) = some b) : Rel N ι (st.refine (.tmp d) b) a w :=
  ⟨h.defers, h.size, h.nt, fun t => refine_rv hb (h.tmps t), h.objs, h.dom, h.ndom, h.inj⟩
theorem yielded_of {ops : Array Oper} {tmps : Array Value} {j d : Nat} {b : Bool} (hd : (ops[j]?).bind (·.dst) = some d) (hv : tmps.getD d undef = .bool b) : yielded ops tmps j = some b := by
  unfold yielded
  rw [hd]
  simp only [Option.bind_some]
  rw [Array.getD_eq_getD_getElem?] at hv
  cases h : tmps[d]? with
  | none => rw [h] at hv; simp [undef, noResult] at hv
  | some x => rw [h] at hv; simp at hv; subst hv; rfl
theorem wanted_of {ops : Array Oper} {o : Oper} {tmps : Array Value} {j d : Nat} {b want : Bool} (hg : o.guard = some (j, want)) (hd : (ops[j]?).bind (·.dst) = some d) (hv : tmps.getD d undef = .bool b) :
    Region.wanted o (yielded ops tmps) = (b == want) := by
  simp only [Region.wanted, hg, yielded_of hd hv]
  cases b <;> cases want <;> rfl
theorem wanted_none {ops : Array Oper} {o : Oper} {tmps : Array Value} {j d : Nat} {want : Bool} {x : Array Value} (hg : o.guard = some (j, want)) (hd : (ops[j]?).bind (·.dst) = some d) (hv : tmps.getD d undef = .tuple x) :
    Region.wanted o (yielded ops tmps) = false := by
  have : yielded ops tmps j = none := by
    unfold yielded
    rw [hd]
    simp only [Option.bind_some]
    rw [Array.getD_eq_getD_getElem?] at hv
    cases h : tmps[d]? with
    | none => rfl
    | some y => rw [h] at hv; simp at hv; subst hv; rfl
  simp only [Region.wanted, hg, this]
  cases want <;> rfl
def NewOK (st : St) (ι : Io) : Prop := ∀ s, st.n ≤ s → ι s = none
theorem eff_n (st : St) (e : Eff) : (st.eff e).n = st.n ∨ (st.eff e).n = st.n + 1 := by cases e <;> simp [St.eff]
theorem put_n (st : St) (d : Option Tmp) (v : SV) : (st.put d v).n = st.n := by cases d <;> simp [St.put]; split <;> rfl
theorem NewOK.op {st : St} {e : Eff} {ι ι' : Io} {w w' : World} (h : NewOK st ι) (hop : Op1 st e ι w ι' w') (d : Option Tmp) (v : SV) : NewOK ((st.eff e).put d v) ι' := by
  intro s hs
  rw [put_n] at hs
  by_cases c : s = st.n
  · subst c
    cases hi : ι' st.n with
    | none => rfl
    | some x =>
      rcases hop.new x.1 x.2 hi with h' | ⟨_, ob, he⟩
      · rw [h _ (Nat.le_refl _)] at h'; cases h'
      · subst he; exfalso
        have : (st.eff (.new ob)).n = st.n + 1 := rfl
        omega
  · rw [hop.old s c]
    refine h s ?_
    rcases eff_n st e with h1 | h1 <;> omega
theorem dops_ok {T : Tbl} (hT : TblOK P T) {ops : Array Oper} {K : St → TR R} : ∀ (l : List Oper) (st : St), (dops P T ops st K l).run = some r →
    ∀ (ι : Io) (a : Act) (w : World), Rel N ι st a w → NewOK st ι → ∀ Q : Exit → Act → World → Prop,
    (∀ st' ι' a' w', (K st').run = some r → Rel N ι' st' a' w' → NewOK st' ι' → Fr ι w ι' w' → Q .normal a' w') → wpList P ops Q l a w
  | [], st, h, ι, a, w, hr, hn, Q, hq => hq st ι a w h hr hn (.refl ι w)
  | o :: l, st, h, ι, a, w, hr, hn, Q, hq => by
    have go : ∀ (st : St), Rel N ι st a w → NewOK st ι → (dop P T st o fun v e => dops P T ops ((st.eff e).put o.dst v) K l).run = some r →
        o.wp P a w (wpList P ops Q l) Q := by
      intro st hr hn h
      obtain ⟨v, e, hK, hop⟩ := dop_ok hT (N := N) h
      refine hop ι a w hr (hn _ (Nat.le_refl _)) _ _ fun val w' ι' h1 h2 h3 => ?_
      refine dops_ok hT l _ hK ι' _ w' (h2.put h1) (hn.op h3 _ _) Q fun st' ι'' a' w'' k1 k2 k3 k4 => ?_
      exact hq st' ι'' a' w'' k1 k2 k3 (h3.fr.trans k4)
    have skip : ∀ (st : St), Rel N ι st a w → NewOK st ι → (dops P T ops (st.put o.dst (.v undef)) K l).run = some r → wpList P ops Q l (a.put o.dst undef) w := by
      intro st hr hn h
      refine dops_ok hT l _ h ι _ w (hr.put rfl) ?_ Q hq
      intro s hs; rw [put_n] at hs; exact hn s hs
    unfold wpList
    simp only [dops] at h
    split at h
    · rename_i hg
      rw [if_pos (by simp [Region.wanted, hg])]
      exact .inl (go st hr hn h)
    · rename_i j want hg
      split at h
      · rename_i d hd
        have hnr : ∀ b, NewOK (st.refine (.tmp d) b) ι := fun b s hs => hn s hs
        split at h
        · rename_i x hx
          have hv := hr.tmps d
          rw [hx] at hv
          rw [if_neg (by rw [wanted_none hg hd hv]; decide)]
          exact skip _ hr hn h
        split at h
        · rename_i hwant
          subst hwant
          obtain ⟨b, hb, ⟨hb1, h⟩ | ⟨hb1, h⟩⟩ := brB_run h
          · have hw := wanted_of hg hd (toB_rv hb (hr.tmps d))
            subst hb1
            rw [if_pos (by rw [hw]; rfl)]
            exact .inl (go _ (hr.refine hb) (hnr _) h)
          · have hw := wanted_of hg hd (toB_rv hb (hr.tmps d))
            subst hb1
            rw [if_neg (by rw [hw]; decide)]
            exact skip _ (hr.refine hb) (hnr _) h
        · rename_i hwant
          have hw0 : want = false := by cases want; rfl; exact (hwant rfl).elim
          subst hw0
          obtain ⟨b, hb, ⟨hb1, h⟩ | ⟨hb1, h⟩⟩ := brB_run h
          · have hw := wanted_of hg hd (toB_rv hb (hr.tmps d))
            subst hb1
            rw [if_neg (by rw [hw]; decide)]
            exact skip _ (hr.refine hb) (hnr _) h
          · have hw := wanted_of hg hd (toB_rv hb (hr.tmps d))
            subst hb1
            rw [if_pos (by rw [hw]; rfl)]
            exact .inl (go _ (hr.refine hb) (hnr _) h)
      · exact (fail_run h).elim
end Go.Proofs.Ythcgeekibomhiaa.Den
namespace Go.Proofs.Ythcgeekibomhiaa.Den
set_option linter.unusedVariables false
set_option linter.unusedSimpArgs false
set_option linter.unusedSectionVars false
open Go Go.RowKit
variable {R : Type} {r : R} {P : Program} {N : Nat}
structure Stp where
  p : St
  r : St
  v : SV
  e : Eff
  ran : Bool
def StpOK (P : Program) (N : Nat) (ops : Array Oper) (n : Nat) (o : Oper) (s : Stp) : Prop :=
  s.r.o = s.p.o ∧ s.r.n = n ∧ s.r.nt = s.p.nt ∧ (∀ (ι : Io) (w : World) (x : Nat) (val : Value), RV ι w (s.p.t x) val → RV ι w (s.r.t x) val) ∧
  (s.ran = true → OpOK P N (s.r.min o) o s.v s.e) ∧ (s.ran = false → s.v = .v undef ∧ s.e = .no) ∧
  (∀ (a : Act) (ι : Io) (w : World), (∀ x ∈ gtmps ops o, RV ι w (s.p.t x) (a.tmps.getD x undef)) → Region.wanted o (yielded ops a.tmps) = s.ran)
noncomputable def Stp.next (s : Stp) (o : Oper) : St := (s.r.eff s.e).put o.dst s.v
noncomputable def Stp.fp (s : Stp) (o : Oper) : FP := if s.ran = true then ⟨s.e.wr s.r.n, orefs s.r o⟩ else ⟨[], []⟩
def Chain (P : Program) (N : Nat) (ops : Array Oper) (base : Nat) : List Oper → Nat → St → List Stp → St → Prop
  | [], _, p, [], pf => p = pf
  | o :: l, i, p, s :: S, pf => s.p = p ∧ StpOK P N ops (base + i) o s ∧ Chain P N ops base l (i + 1) (s.next o) S pf
  | _, _, _, _, _ => False
theorem dopsD_chain {T : Tbl} (hT : TblOK P T) {ops : Array Oper} {base : Nat} {K : St → List FP → TR R} : ∀ (l : List Oper) (i : Nat) (st : St) (log : List FP),
    (dopsD P T ops base K l i st log).run = some r → ∃ S pf, Chain P N ops base l i st S pf ∧ (K pf (log ++ List.zipWith (fun o s => Stp.fp s o) l S)).run = some r
  | [], i, st, log, h => ⟨[], st, rfl, by simpa [dopsD] using h⟩
  | o :: l, i, st, log, h => by
    have go : ∀ (st' : St), st'.o = st.o → st'.nt = st.nt → (∀ (ι : Io) (w : World) (x : Nat) (val : Value), RV ι w (st.t x) val → RV ι w (st'.t x) val) →
        (∀ (a : Act) (ι : Io) (w : World), (∀ x ∈ gtmps ops o, RV ι w (st.t x) (a.tmps.getD x undef)) → Region.wanted o (yielded ops a.tmps) = true) →
        (dop P T (st'.at (base + i)) o fun v e => dopsD P T ops base K l (i + 1) (((st'.at (base + i)).eff e).put o.dst v) (log ++ [⟨e.wr (base + i), orefs (st'.at (base + i)) o⟩])).run = some r →
        ∃ S pf, Chain P N ops base (o :: l) i st S pf ∧ (K pf (log ++ List.zipWith (fun o s => Stp.fp s o) (o :: l) S)).run = some r := by
      intro st' h1 h2 h3 h4 h
      rw [← dop_min] at h
      obtain ⟨v, e, hK, hop⟩ := dop_ok hT (N := N) h
      obtain ⟨S, pf, hc, hk⟩ := dopsD_chain hT l (i + 1) _ _ hK
      refine ⟨⟨st, st'.at (base + i), v, e, true⟩ :: S, pf, ⟨rfl, ⟨h1, rfl, h2, h3, fun _ => hop, (fun h => by cases h), h4⟩, hc⟩, ?_⟩
      simpa [Stp.fp, St.at] using hk
    have skip : ∀ (st' : St), st'.o = st.o → st'.nt = st.nt → (∀ (ι : Io) (w : World) (x : Nat) (val : Value), RV ι w (st.t x) val → RV ι w (st'.t x) val) →
        (∀ (a : Act) (ι : Io) (w : World), (∀ x ∈ gtmps ops o, RV ι w (st.t x) (a.tmps.getD x undef)) → Region.wanted o (yielded ops a.tmps) = false) →
        (dopsD P T ops base K l (i + 1) ((st'.at (base + i)).put o.dst (.v undef)) (log ++ [⟨[], []⟩])).run = some r →
        ∃ S pf, Chain P N ops base (o :: l) i st S pf ∧ (K pf (log ++ List.zipWith (fun o s => Stp.fp s o) (o :: l) S)).run = some r := by
      intro st' h1 h2 h3 h4 h
      obtain ⟨S, pf, hc, hk⟩ := dopsD_chain hT l (i + 1) _ _ h
      refine ⟨⟨st, st'.at (base + i), .v undef, .no, false⟩ :: S, pf, ⟨rfl, ⟨h1, rfl, h2, h3, (fun h => by cases h), (fun _ => ⟨rfl, rfl⟩), h4⟩, hc⟩, ?_⟩
      simpa [Stp.fp] using hk
    simp only [dopsD] at h
    split at h
    · rename_i hg
      exact go st rfl rfl (fun _ _ _ _ h => h) (fun a _ _ _ => by simp [Region.wanted, hg]) h
    · rename_i j want hg
      split at h
      · rename_i d hd
        have hw : ∀ b, toB (st.t d) = some b → ∀ (a : Act) (ι : Io) (w : World), (∀ x ∈ gtmps ops o, RV ι w (st.t x) (a.tmps.getD x undef)) → Region.wanted o (yielded ops a.tmps) = (b == want) := fun b hb a ι w hx =>
          wanted_of hg hd (toB_rv hb (hx d (by simp [gtmps, hg, hd])))
        have hrf : ∀ b, toB (st.t d) = some b → ∀ (ι : Io) (w : World) (x : Nat) (val : Value), RV ι w (st.t x) val → RV ι w ((st.refine (.tmp d) b).t x) val := fun b hb ι w x val h => refine_rv hb h
        split at h
        · rename_i x hx
          exact skip st rfl rfl (fun _ _ _ _ h => h) (fun a ι w hy => by
            have hv := hy d (by simp [gtmps, hg, hd])
            rw [hx] at hv
            exact wanted_none hg hd hv) h
        split at h
        · rename_i hwant; subst hwant
          obtain ⟨b, hb, ⟨hb1, h⟩ | ⟨hb1, h⟩⟩ := brB_run h
          · subst hb1; exact go (st.refine (.tmp d) true) rfl rfl (hrf true hb) (fun a ι w hx => by rw [hw _ hb a ι w hx]; rfl) h
          · subst hb1; exact skip (st.refine (.tmp d) false) rfl rfl (hrf false hb) (fun a ι w hx => by rw [hw _ hb a ι w hx]; rfl) h
        · rename_i hwant
          have hw0 : want = false := by cases want; rfl; exact (hwant rfl).elim
          subst hw0
          obtain ⟨b, hb, ⟨hb1, h⟩ | ⟨hb1, h⟩⟩ := brB_run h
          · subst hb1; exact skip (st.refine (.tmp d) true) rfl rfl (hrf true hb) (fun a ι w hx => by rw [hw _ hb a ι w hx]; rfl) h
          · subst hb1; exact go (st.refine (.tmp d) false) rfl rfl (hrf false hb) (fun a ι w hx => by rw [hw _ hb a ι w hx]; rfl) h
      · exact (fail_run h).elim
noncomputable def pst (S : List Stp) (pf : St) (k : Nat) : St := match S[k]? with | some s => s.p | none => pf
theorem Chain.zero {ops : Array Oper} {base : Nat} : ∀ {l : List Oper} {i : Nat} {p : St} {S : List Stp} {pf : St}, Chain P N ops base l i p S pf → pst S pf 0 = p
  | [], _, _, [], _, h => by simp [pst]; exact Eq.symm h
  | _ :: _, _, _, _ :: _, _, h => h.1
  | [], _, _, _ :: _, _, h => h.elim
  | _ :: _, _, _, [], _, h => h.elim
theorem Chain.len {ops : Array Oper} {base : Nat} : ∀ {l : List Oper} {i : Nat} {p : St} {S : List Stp} {pf : St}, Chain P N ops base l i p S pf → S.length = l.length
  | [], _, _, [], _, _ => rfl
  | _ :: _, _, _, _ :: _, _, h => by simp [Chain.len h.2.2]
  | [], _, _, _ :: _, _, h => h.elim
  | _ :: _, _, _, [], _, h => h.elim
theorem Chain.at {ops : Array Oper} {base : Nat} : ∀ {l : List Oper} {i : Nat} {p : St} {S : List Stp} {pf : St}, Chain P N ops base l i p S pf → ∀ {k : Nat} {o : Oper}, l[k]? = some o →
    ∃ s, S[k]? = some s ∧ StpOK P N ops (base + (i + k)) o s ∧ pst S pf k = s.p ∧ pst S pf (k + 1) = s.next o
  | o' :: l, i, p, s :: S, pf, h, 0, o, hk => by
    simp at hk; subst hk
    refine ⟨s, rfl, h.2.1, rfl, ?_⟩
    have := Chain.zero h.2.2
    simpa [pst] using this
  | o' :: l, i, p, s :: S, pf, h, k + 1, o, hk => by
    simp at hk
    obtain ⟨s', h1, h2, h3, h4⟩ := Chain.at h.2.2 hk
    refine ⟨s', by simpa using h1, by rw [show i + (k + 1) = i + 1 + k by omega]; exact h2, by simpa [pst] using h3, by simpa [pst] using h4⟩
  | [], _, _, _, _, _, k, o, hk => by simp at hk
  | _ :: _, _, _, [], _, h, _, _, _ => h.elim
theorem force_eq {α : Type} (n : Nat) (K : Nat → α) : force n K = K n := by cases n <;> rfl
theorem maskOf_spec (acc : List Nat) (j : Nat) (t : Nat) : ∀ (es : List Edge) (s : Nat),
    (es.foldl (fun s e => if Region.binds .any e = true ∧ e.on < j then s ||| 2 ^ e.on ||| acc.getD e.on 0 else s) s).testBit t = true →
    s.testBit t = true ∨ ∃ e ∈ es, Region.binds .any e = true ∧ e.on < j ∧ (e.on = t ∨ (acc.getD e.on 0).testBit t = true)
  | [], s, h => .inl h
  | e :: es, s, h => by
    simp only [List.foldl_cons] at h
    rcases maskOf_spec acc j t es _ h with h | ⟨e', he, h⟩
    · split at h
      · rename_i hc
        simp only [Nat.testBit_or, Bool.or_eq_true] at h
        rcases h with (h | h) | h
        · exact .inl h
        · rw [Nat.testBit_two_pow] at h
          exact .inr ⟨e, by simp, hc.1, hc.2, .inl (by simpa using h)⟩
        · exact .inr ⟨e, by simp, hc.1, hc.2, .inr h⟩
      · exact .inl h
    · exact .inr ⟨e', by simp [he], h⟩
theorem masks_spec : ∀ (l : List Oper) (acc : List Nat), (masks l acc.length acc).take acc.length = acc ∧
    ∀ k o, l[k]? = some o → ∃ m, (masks l acc.length acc)[acc.length + k]? = some m ∧
      m = maskOf ((masks l acc.length acc).take (acc.length + k)) (acc.length + k) o.after.toList
  | [], acc => ⟨by simp [masks], fun k o h => by simp at h⟩
  | o :: l, acc => by
    have ih := masks_spec l (acc ++ [maskOf acc acc.length o.after.toList])
    simp only [List.length_append, List.length_singleton] at ih
    simp only [masks, force_eq]
    generalize hR : masks l (acc.length + 1) (acc ++ [maskOf acc acc.length o.after.toList]) = R at *
    have h1 : R.take acc.length = acc := by
      have := congrArg (List.take acc.length) ih.1
      simpa [List.take_take] using this
    refine ⟨h1, fun k o' hk => ?_⟩
    cases k with
    | zero =>
      simp at hk; subst hk
      have h2 : R[acc.length]? = some (maskOf acc acc.length o.after.toList) := by
        have := congrArg (fun l => l[acc.length]?) ih.1
        simpa [List.getElem?_take] using this
      exact ⟨_, h2, by rw [Nat.add_zero, h1]⟩
    | succ k =>
      simp at hk
      obtain ⟨m, h2, h3⟩ := ih.2 k o' hk
      refine ⟨m, by rw [show acc.length + (k + 1) = acc.length + 1 + k by omega]; exact h2, ?_⟩
      rw [show acc.length + (k + 1) = acc.length + 1 + k by omega]; exact h3
end Go.Proofs.Ythcgeekibomhiaa.Den
namespace Go.Proofs.Ythcgeekibomhiaa.Den
set_option linter.unusedVariables false
set_option linter.unusedSimpArgs false
set_option linter.unusedSectionVars false
open Go Go.RowKit
variable {R : Type} {r : R} {P : Program} {N : Nat}
structure RChk (ops : Array Oper) (nt : Nat) (l : List Oper) (F : List FP) (M : List Nat) : Prop where
  pair : ∀ (i k : Nat) (x y : Oper) (f g : FP) (m : Nat), i < k → l[i]? = some x → l[k]? = some y → F[i]? = some f → F[k]? = some g → M[k]? = some m → clash ops x y f g = true → m.testBit i = true
  dst : ∀ (k : Nat) (y : Oper) (d : Tmp), l[k]? = some y → y.dst = some d → d < nt
  edge : ∀ (k : Nat) (y : Oper) (e : Edge), l[k]? = some y → e ∈ y.after → Region.binds .any e = true → e.on < k
theorem ordered1_spec {ops : Array Oper} {m : Nat} {y : Oper} {g : FP} : ∀ (xs : List Oper) (fs : List FP) (i : Nat), ordered1 ops m y g xs fs i = true →
    ∀ (k : Nat) (x : Oper) (f : FP), xs[k]? = some x → fs[k]? = some f → clash ops x y f g = true → m.testBit (i + k) = true
  | [], _, _, _, k, x, f, hx, _, _ => by simp at hx
  | _ :: _, [], _, h, _, _, _, _, _, _ => by simp [ordered1] at h
  | x :: xs, f :: fs, i, h, 0, x', f', hx, hf, hc => by
    simp only [ordered1, Bool.and_eq_true, Bool.or_eq_true, Bool.not_eq_true'] at h
    simp at hx hf; subst hx; subst hf
    rcases h.1 with h1 | h1
    · rw [h1] at hc; cases hc
    · exact h1
  | x :: xs, f :: fs, i, h, k + 1, x', f', hx, hf, hc => by
    simp only [ordered1, Bool.and_eq_true] at h
    simp at hx hf
    have := ordered1_spec xs fs (i + 1) h.2 k x' f' hx hf hc
    rw [show i + (k + 1) = i + 1 + k by omega]; exact this
theorem orderedAll_spec {ops : Array Oper} {nt : Nat} : ∀ (ys : List Oper) (gs : List FP) (ms : List Nat) (xs : List Oper) (fs : List FP), xs.length = fs.length →
    orderedAll ops nt ys gs ms xs fs = true →
    (∀ (i k : Nat) (x y : Oper) (f g : FP) (m : Nat), i < xs.length + k → (xs ++ ys)[i]? = some x → ys[k]? = some y → (fs ++ gs)[i]? = some f → gs[k]? = some g → ms[k]? = some m → clash ops x y f g = true → m.testBit i = true) ∧
    (∀ (k : Nat) (y : Oper) (d : Tmp), ys[k]? = some y → y.dst = some d → d < nt) ∧
    (∀ (k : Nat) (y : Oper) (e : Edge), ys[k]? = some y → e ∈ y.after → Region.binds .any e = true → e.on < xs.length + k)
  | [], gs, ms, xs, fs, _, _ => ⟨fun i k x y f g m _ _ hy => by simp at hy, fun k y d hy => by simp at hy, fun k y e hy => by simp at hy⟩
  | y :: ys, [], _, _, _, _, h => by simp [orderedAll] at h
  | y :: ys, _ :: _, [], _, _, _, h => by simp [orderedAll] at h
  | y :: ys, g :: gs, m :: ms, xs, fs, hl, h => by
    simp only [orderedAll, Bool.and_eq_true] at h
    obtain ⟨⟨⟨h1, h2⟩, h3⟩, h4⟩ := h
    obtain ⟨k1, k2, k3⟩ := orderedAll_spec ys gs ms (xs ++ [y]) (fs ++ [g]) (by simp [hl]) h4
    refine ⟨fun i k x' y' f' g' m' hi hx hy hf hg hm hc => ?_, fun k y' d hy hd => ?_, fun k y' e hy he hb => ?_⟩
    · cases k with
      | zero =>
        simp at hy hg hm; subst hy; subst hg; subst hm
        have hx' : xs[i]? = some x' := by rw [List.getElem?_append_left (by omega)] at hx; exact hx
        have hf' : fs[i]? = some f' := by rw [List.getElem?_append_left (by omega)] at hf; exact hf
        have := ordered1_spec xs fs 0 h1 i x' f' hx' hf' hc
        simpa using this
      | succ k =>
        simp at hy hg hm
        exact k1 i k x' y' f' g' m' (by simp; omega) (by simpa using hx) hy (by simpa using hf) hg hm hc
    · cases k with
      | zero => simp at hy; subst hy; rw [hd] at h2; simpa using h2
      | succ k => simp at hy; exact k2 k y' d hy hd
    · cases k with
      | zero =>
        simp at hy; subst hy
        rw [Array.all_eq_true_iff_forall_mem] at h3
        have := h3 e he
        simp [hb] at this; omega
      | succ k => simp at hy; have := k3 k y' e hy he hb; simp at this; omega
theorem fps_get {l : List Oper} {S : List Stp} {k : Nat} {o : Oper} {s : Stp} (hl : l[k]? = some o) (hs : S[k]? = some s) : (List.zipWith (fun o s => Stp.fp s o) l S)[k]? = some (s.fp o) := by
  rw [List.getElem?_zipWith, hl, hs]
section region
variable {ops : Array Oper} {base : Nat} {S : List Stp} {pf st0 : St}
  (hc : Chain P N ops base ops.toList 0 st0 S pf) (hk : RChk ops N ops.toList (List.zipWith (fun o s => Stp.fp s o) ops.toList S) (masks ops.toList 0 []))
include hc hk
theorem stp_at {k : Nat} {o : Oper} (ho : ops[k]? = some o) : ∃ s, S[k]? = some s ∧ StpOK P N ops (base + k) o s ∧ pst S pf k = s.p ∧ pst S pf (k + 1) = s.next o := by
  have := hc.at (k := k) (o := o) (by simpa using ho)
  simpa using this
theorem mask_at {k : Nat} {o : Oper} (ho : ops[k]? = some o) : ∃ m, (masks ops.toList 0 [])[k]? = some m ∧
    ∀ t, m.testBit t = true → ∃ e ∈ o.after, Region.binds .any e = true ∧ e.on < k ∧ (e.on = t ∨ ∃ m', (masks ops.toList 0 [])[e.on]? = some m' ∧ m'.testBit t = true) := by
  obtain ⟨_, h⟩ := masks_spec ops.toList []
  obtain ⟨m, h1, h2⟩ := h k o (by simpa using ho)
  simp only [List.length_nil, Nat.zero_add] at h1 h2
  refine ⟨m, h1, fun t ht => ?_⟩
  rw [h2] at ht
  rcases maskOf_spec _ _ t _ 0 ht with h | ⟨e, he, hb, hlt, h⟩
  · simp at h
  · refine ⟨e, by simpa using he, hb, hlt, h.imp id fun h => ?_⟩
    rw [List.getD_eq_getElem?_getD, List.getElem?_take, if_pos hlt] at h
    cases hm : (masks ops.toList 0 [])[e.on]? with
    | none => rw [hm] at h; simp at h
    | some m' => rw [hm] at h; exact ⟨m', rfl, by simpa using h⟩
def Closed (ops : Array Oper) (L : Nat → Prop) : Prop := ∀ k o, ops[k]? = some o → L k → ∀ e ∈ o.after, Region.binds .any e = true → L e.on
theorem mask_closed {L : Nat → Prop} (hL : Closed ops L) : ∀ (k : Nat) (o : Oper), ops[k]? = some o → (∀ e ∈ o.after, Region.binds .any e = true → L e.on) →
    ∀ m, (masks ops.toList 0 [])[k]? = some m → ∀ t, m.testBit t = true → L t := by
  intro k
  induction k using Nat.strongRecOn with
  | _ k ih =>
    intro o ho he m hm t ht
    obtain ⟨m', h1, h2⟩ := mask_at hc hk ho
    rw [hm] at h1; simp only [Option.some.injEq] at h1; subst h1
    obtain ⟨e, hem, hb, hlt, h⟩ := h2 t ht
    have hLe := he e hem hb
    rcases h with h | ⟨m'', hm'', ht''⟩
    · rw [← h]; exact hLe
    · have hlt' : e.on < ops.size := by
        have := (Array.getElem?_eq_some_iff.1 ho).1; omega
      exact ih e.on hlt ops[e.on] (by simp [hlt']) (fun e' he' hb' => hL e.on _ (by simp [hlt']) hLe e' he' hb') m'' hm'' t ht''
end region
end Go.Proofs.Ythcgeekibomhiaa.Den
namespace Go.Proofs.Ythcgeekibomhiaa.Den
set_option linter.unusedVariables false
set_option linter.unusedSimpArgs false
set_option linter.unusedSectionVars false
open Go Go.RowKit
variable {R : Type} {r : R} {P : Program} {N : Nat}
theorem put_t_ne (st : St) {d : Option Tmp} {v : SV} {x : Nat} (h : d ≠ some x) : (st.put d v).t x = st.t x := by
  cases d with
  | none => rfl
  | some d =>
    simp only [St.put]
    split
    · show (if x = d then v else st.t x) = _
      rw [if_neg (fun e => h (by rw [e]))]
    · rfl
theorem put_t_eq (st : St) {x : Nat} {v : SV} (h : x < st.nt) : (st.put (some x) v).t x = v := by simp [St.put, h]
theorem put_o (st : St) (d : Option Tmp) (v : SV) : (st.put d v).o = st.o := by cases d <;> simp [St.put]; split <;> rfl
theorem eff_t (st : St) (e : Eff) : (st.eff e).t = st.t := by cases e <;> rfl
theorem eff_nt (st : St) (e : Eff) : (st.eff e).nt = st.nt := by cases e <;> rfl
theorem put_nt (st : St) (d : Option Tmp) (v : SV) : (st.put d v).nt = st.nt := by cases d <;> simp [St.put]; split <;> rfl
theorem eff_o_ne (st : St) (e : Eff) {s : Nat} (h : s ∉ e.wr st.n) : (st.eff e).o s = st.o s := by
  cases e with
  | no => rfl
  | new ob => simp [Eff.wr] at h; simp [St.eff, h]
  | set s' ob => simp [Eff.wr] at h; simp [St.eff, h]
def WR (S : List Stp) (j s : Nat) : Prop := ∃ st, S[j]? = some st ∧ st.ran = true ∧ s ∈ st.e.wr st.r.n
structure Inv (N : Nat) (ops : Array Oper) (base : Nat) (S : List Stp) (pf : St) (ι0 : Io) (w0 : World) (L : Nat → Prop) (ι : Io) (a : Act) (w : World) : Prop where
  defers : a.defers = []
  size : a.tmps.size = N
  tmps : ∀ i, i ≤ ops.size → ∀ x, (∀ j o, ops[j]? = some o → o.dst = some x → (L j ↔ j < i)) → RV ι w ((pst S pf i).t x) (a.tmps.getD x undef)
  objs : ∀ i, i ≤ ops.size → ∀ s, (∀ j, WR S j s → (L j ↔ j < i)) → ∀ ob, (pst S pf i).o s = some ob → ∃ b m, ι s = some (b, m) ∧ RO ι w b m ob
  dom : ∀ s b n, ι s = some (b, n) → b < w.heap.size
  ndom : ∀ b, ι.no b → b < w.heap.size
  inj : ∀ s s' b n n', ι s = some (b, n) → ι s' = some (b, n') → s = s'
  newk : ∀ j, j < ops.size → ¬ L j → ι (base + j) = none
  newn : ∀ s, base + ops.size ≤ s → ι s = none
  fr : Fr ι0 w0 ι w
  closed : Closed ops L
section region
variable {ops : Array Oper} {base : Nat} {S : List Stp} {pf st0 : St}
  (hc : Chain P N ops base ops.toList 0 st0 S pf) (hk : RChk ops N ops.toList (List.zipWith (fun o s => Stp.fp s o) ops.toList S) (masks ops.toList 0 []))
include hc hk
theorem fwd_t {ι : Io} {w : World} {x : Nat} {val : Value} {k : Nat} : ∀ (i : Nat), k ≤ i → i ≤ ops.size → (∀ j o, k ≤ j → j < i → ops[j]? = some o → o.dst ≠ some x) →
    RV ι w ((pst S pf k).t x) val → RV ι w ((pst S pf i).t x) val
  | 0, h, _, _, hv => by rw [show k = 0 by omega] at hv; exact hv
  | i + 1, h, hi, hw, hv => by
    by_cases e : k = i + 1
    · subst e; exact hv
    · have ho : ops[i]? = some ops[i] := by simp
      have ih := fwd_t i (by omega) (by omega) (fun j o h1 h2 => hw j o h1 (by omega)) hv
      obtain ⟨s, _, hs, h1, h2⟩ := stp_at hc hk ho
      rw [h2, Stp.next, put_t_ne _ (hw i _ (by omega) (by omega) ho), eff_t]
      rw [h1] at ih
      exact hs.2.2.2.1 ι w x val ih
theorem fwd_o {s : Nat} {k : Nat} : ∀ (i : Nat), k ≤ i → i ≤ ops.size → (∀ j, k ≤ j → j < i → ¬ WR S j s) → (pst S pf i).o s = (pst S pf k).o s
  | 0, h, _, _ => by rw [show k = 0 by omega]
  | i + 1, h, hi, hw => by
    by_cases e : k = i + 1
    · subst e; rfl
    · have ho : ops[i]? = some ops[i] := by simp
      have ih := fwd_o i (by omega) (by omega) (fun j h1 h2 => hw j h1 (by omega))
      obtain ⟨st, hst, hs, h1, h2⟩ := stp_at hc hk ho
      rw [h2, Stp.next, put_o, eff_o_ne, hs.1, ← h1, ih]
      intro hm
      cases hr : st.ran with
      | true => exact hw i (by omega) (by omega) ⟨st, hst, hr, hm⟩
      | false => rw [(hs.2.2.2.2.2.1 hr).2] at hm; simp [Eff.wr] at hm
theorem pst_nt (hnt : st0.nt = N) : ∀ (i : Nat), i ≤ ops.size → (pst S pf i).nt = N
  | 0, _ => by have := hc.zero; rw [this]; exact hnt
  | i + 1, hi => by
    have ho : ops[i]? = some ops[i] := by simp
    obtain ⟨st, hst, hs, h1, h2⟩ := stp_at hc hk ho
    have ih := pst_nt hnt i (by omega)
    rw [h2, Stp.next, put_nt, eff_nt, hs.2.2.1, ← h1, ih]
theorem clash_order {L : Nat → Prop} (hL : Closed ops L) {i k : Nat} (hik : i < k) {x y : Oper} (hx : ops[i]? = some x) (hy : ops[k]? = some y) {sx sy : Stp}
    (hsx : S[i]? = some sx) (hsy : S[k]? = some sy) (hcl : clash ops x y (sx.fp x) (sy.fp y) = true) (he : ∀ e ∈ y.after, Region.binds .any e = true → L e.on) : L i := by
  obtain ⟨m, hm, _⟩ := mask_at hc hk hy
  have := hk.pair i k x y _ _ m hik (by simpa using hx) (by simpa using hy) (fps_get (by simpa using hx) hsx) (fps_get (by simpa using hy) hsy) hm hcl
  exact mask_closed hc hk hL k y hy he m hm i this
end region
end Go.Proofs.Ythcgeekibomhiaa.Den
namespace Go.Proofs.Ythcgeekibomhiaa.Den
set_option linter.unusedVariables false
set_option linter.unusedSimpArgs false
set_option linter.unusedSectionVars false
open Go Go.RowKit
variable {R : Type} {r : R} {P : Program} {N : Nat}
theorem meets_of {l m : List Nat} {x : Nat} (h1 : x ∈ l) (h2 : x ∈ m) : meets l m = true := by
  simp only [meets, List.any_eq_true, List.contains_iff_mem]; exact ⟨x, h1, h2⟩
section region
variable {ops : Array Oper} {base : Nat} {S : List Stp} {pf st0 : St}
  (hc : Chain P N ops base ops.toList 0 st0 S pf) (hk : RChk ops N ops.toList (List.zipWith (fun o s => Stp.fp s o) ops.toList S) (masks ops.toList 0 []))
include hc hk
theorem tmp_upto {L : Nat → Prop} (hL : Closed ops L) {k : Nat} {o : Oper} (ho : ops[k]? = some o) (hn : ¬ L k) (he : ∀ e ∈ o.after, Region.binds .any e = true → L e.on)
    {x : Nat} (hx : x ∈ optmps o ++ gtmps ops o) : ∀ j o', ops[j]? = some o' → o'.dst = some x → (L j ↔ j < k) := by
  intro j o' ho' hd
  obtain ⟨s, hs, _⟩ := stp_at hc hk ho
  obtain ⟨s', hs', _⟩ := stp_at hc hk ho'
  rcases Nat.lt_trichotomy j k with h | h | h
  · refine ⟨fun _ => h, fun _ => clash_order hc hk hL h ho' ho hs' hs ?_ he⟩
    simp only [clash, Bool.or_eq_true]
    refine .inl (.inl (.inl (meets_of (x := x) (by simp [hd]) (by simp only [List.mem_append] at hx ⊢; rcases hx with h | h; exact .inl (.inr h); exact .inr h))))
  · subst h; exact ⟨fun h => (hn h).elim, fun h => by omega⟩
  · refine ⟨fun hj => (hn ?_).elim, fun h' => by omega⟩
    refine clash_order hc hk hL h ho ho' hs hs' ?_ (fun e he' hb => hL j o' ho' hj e he' hb)
    simp only [clash, Bool.or_eq_true]
    exact .inl (.inl (.inr (meets_of (x := x) (by simp [hd]) (by simpa using hx))))
theorem dst_order {L : Nat → Prop} (hL : Closed ops L) {k j : Nat} {o o' : Oper} (ho : ops[k]? = some o) (ho' : ops[j]? = some o') (hkj : k < j) {x : Nat} (hd : o.dst = some x) (hd' : o'.dst = some x)
    (hj : L j) : L k := by
  obtain ⟨s, hs, _⟩ := stp_at hc hk ho
  obtain ⟨s', hs', _⟩ := stp_at hc hk ho'
  refine clash_order hc hk hL hkj ho ho' hs hs' ?_ (fun e he' hb => hL j o' ho' hj e he' hb)
  simp only [clash, Bool.or_eq_true]
  exact .inl (.inl (.inl (meets_of (x := x) (by simp [hd]) (by simp [hd']))))
theorem wr_fp {j s : Nat} {o : Oper} {st : Stp} (hst : S[j]? = some st) (h : WR S j s) : s ∈ (st.fp o).wr := by
  obtain ⟨st', h1, h2, h3⟩ := h
  rw [hst] at h1; simp only [Option.some.injEq] at h1; subst h1
  simp only [Stp.fp, h2, if_true]; exact h3
theorem obj_upto {L : Nat → Prop} (hL : Closed ops L) {k : Nat} {o : Oper} (ho : ops[k]? = some o) (hn : ¬ L k) (he : ∀ e ∈ o.after, Region.binds .any e = true → L e.on)
    {st : Stp} (hst : S[k]? = some st) {s : Nat} (hs : s ∈ (st.fp o).wr ++ (st.fp o).rf) : ∀ j, WR S j s → (L j ↔ j < k) := by
  intro j hw
  obtain ⟨st', hst', _⟩ := id hw
  have hj : j < ops.size := by
    have h1 := (List.getElem?_eq_some_iff.1 hst').1
    have h2 := hc.len
    simp at h2; omega
  have ho' : ops[j]? = some ops[j] := by simp [hj]
  have hw' := wr_fp hc hk (o := ops[j]) hst' hw
  rcases Nat.lt_trichotomy j k with h | h | h
  · refine ⟨fun _ => h, fun _ => clash_order hc hk hL h ho' ho hst' hst ?_ he⟩
    simp only [clash, Bool.or_eq_true]
    exact .inl (.inr (meets_of (x := s) hw' hs))
  · subst h; exact ⟨fun h => (hn h).elim, fun h => by omega⟩
  · refine ⟨fun hj => (hn ?_).elim, fun h' => by omega⟩
    refine clash_order hc hk hL h ho ho' hst hst' ?_ (fun e he' hb => hL j _ ho' hj e he' hb)
    simp only [clash, Bool.or_eq_true]
    rcases List.mem_append.1 hs with h | h
    · exact .inl (.inr (meets_of (x := s) h (by simp [hw'])))
    · exact .inr (meets_of (x := s) hw' h)
theorem wr_order {L : Nat → Prop} (hL : Closed ops L) {k j s : Nat} (hkj : k < j) (hw : WR S k s) (hw' : WR S j s) (hj : L j) : L k := by
  obtain ⟨st, hst, _⟩ := id hw
  obtain ⟨st', hst', _⟩ := id hw'
  have hlen := hc.len
  have h1 := (List.getElem?_eq_some_iff.1 hst).1
  have h2 := (List.getElem?_eq_some_iff.1 hst').1
  simp at hlen
  have ho : ops[k]? = some ops[k] := by simp
  have ho' : ops[j]? = some ops[j] := by simp
  refine clash_order hc hk hL hkj ho ho' hst hst' ?_ (fun e he' hb => hL j _ ho' hj e he' hb)
  simp only [clash, Bool.or_eq_true]
  exact .inl (.inr (meets_of (x := s) (wr_fp hc hk hst hw) (by simp [wr_fp hc hk (o := ops[j]) hst' hw'])))
theorem Inv.step (hnt : st0.nt = N) {ι0 : Io} {w0 : World} {L : Nat → Prop} {ι : Io} {a : Act} {w : World} (h : Inv N ops base S pf ι0 w0 L ι a w) {k : Nat} {o : Oper} (ho : ops[k]? = some o) (hn : ¬ L k)
    (he : ∀ e ∈ o.after, Region.binds .any e = true → L e.on) {s : Stp} (hs : S[k]? = some s) {ι' : Io} {w' : World} {val : Value} (hv : RV ι' w' s.v val) (hop : Op1 s.r s.e ι w ι' w') (hrn : s.r.n = base + k)
    (hdom : ∀ s b n, ι' s = some (b, n) → b < w'.heap.size) (hinj : ∀ s s' b n n', ι' s = some (b, n) → ι' s' = some (b, n') → s = s')
    (hobj : ∀ t, t ∈ s.e.wr s.r.n → s.ran = true ∧ ∀ ob, (s.r.eff s.e).o t = some ob → ∃ b m, ι' t = some (b, m) ∧ RO ι' w' b m ob) :
    Inv N ops base S pf ι0 w0 (fun j => L j ∨ j = k) ι' (a.put o.dst val) w' := by
  have hfr := hop.fr
  have hklt : k < ops.size := (Array.getElem?_eq_some_iff.1 ho).1
  obtain ⟨s1, hs1, hst, hp1, hp2⟩ := stp_at hc hk ho
  rw [hs] at hs1; simp only [Option.some.injEq] at hs1; subst hs1
  refine ⟨?_, ?_, fun i hi x hx => ?_, fun i hi t ht ob hob => ?_, hdom, fun b hb => Nat.lt_of_lt_of_le (h.ndom b (by rw [hop.no] at hb; exact hb)) hop.size, hinj, fun j hj hnj => ?_, fun t ht => ?_, h.fr.trans hfr, fun j o' ho' hj e he' hb => ?_⟩
  · cases hd : o.dst <;> simp [Act.put] <;> exact h.defers
  · cases hd : o.dst <;> simp [Act.put] <;> exact h.size
  · by_cases hd : o.dst = some x
    · have hki : k < i := (hx k o ho hd).1 (.inr rfl)
      have hxn : x < N := hk.dst k o x (by simpa using ho) hd
      have hval : (a.put o.dst val).tmps.getD x undef = val := by
        rw [hd, put_getD, if_pos ⟨rfl, by rw [h.size]; exact hxn⟩]
      rw [hval]
      refine fwd_t hc hk (k := k + 1) i (by omega) hi (fun j o' h1 h2 ho' hd' => ?_) ?_
      · have hLj : L j := by
          rcases (hx j o' ho' hd').2 h2 with h | h
          · exact h
          · omega
        exact hn (dst_order hc hk h.closed ho ho' (by omega) hd hd' hLj)
      · rw [hp2, Stp.next, hd, put_t_eq]
        · exact hv
        · rw [eff_nt, hst.2.2.1, ← hp1, pst_nt hc hk hnt k (by omega)]; exact hxn
    · have hg : (a.put o.dst val).tmps.getD x undef = a.tmps.getD x undef := by
        cases hd' : o.dst with
        | none => rfl
        | some d => rw [put_getD, if_neg]; rintro ⟨e, _⟩; exact hd (by rw [hd', e])
      rw [hg]
      refine RV.fr hfr (h.tmps i hi x fun j o' ho' hd' => ?_)
      have := hx j o' ho' hd'
      constructor
      · exact fun hj => this.1 (.inl hj)
      · intro hj
        rcases this.2 hj with h | h
        · exact h
        · subst h; rw [ho] at ho'; simp only [Option.some.injEq] at ho'; subst ho'; exact (hd hd').elim
  · by_cases hw : WR S k t
    · have hki : k < i := (ht k hw).1 (.inr rfl)
      have hfo := fwd_o hc hk (s := t) (k := k + 1) i (by omega) hi (fun j h1 h2 hwj => by
        have hLj : L j := by
          rcases (ht j hwj).2 h2 with h | h
          · exact h
          · omega
        exact hn (wr_order hc hk h.closed (by omega) hw hwj hLj))
      rw [hfo, hp2, Stp.next, put_o] at hob
      obtain ⟨s2, hs2, _, hm⟩ := hw
      rw [hs] at hs2; simp only [Option.some.injEq] at hs2; subst hs2
      exact (hobj t hm).2 ob hob
    · obtain ⟨b, m, hb, hro⟩ := h.objs i hi t (fun j hwj => by
        have := ht j hwj
        constructor
        · exact fun hj => this.1 (.inl hj)
        · intro hj
          rcases this.2 hj with h | h
          · exact h
          · subst h; exact (hw hwj).elim) ob hob
      refine ⟨b, m, hop.ext _ _ hb, hro.fr hfr (hop.blk b (h.dom t b m hb) fun s' ob' n' hse hs' => ?_)⟩
      have : t = s' := h.inj t s' b m n' hb hs'
      subst this
      have hm : t ∈ s.e.wr s.r.n := by rw [hse]; simp [Eff.wr]
      exact hw ⟨s, hs, (hobj t hm).1, hm⟩
  · rw [hop.old (base + j) (by rw [hrn]; intro e; exact hnj (.inr (by omega)))]
    exact h.newk j hj (fun hj => hnj (.inl hj))
  · rw [hop.old t (by rw [hrn]; omega)]
    exact h.newn t ht
  · rcases hj with hj | hj
    · exact .inl (h.closed j o' ho' hj e he' hb)
    · subst hj; rw [ho] at ho'; simp only [Option.some.injEq] at ho'; subst ho'; exact .inl (he e he' hb)
end region
end Go.Proofs.Ythcgeekibomhiaa.Den
namespace Go.Proofs.Ythcgeekibomhiaa.Den
set_option linter.unusedVariables false
set_option linter.unusedSimpArgs false
set_option linter.unusedSectionVars false
open Go Go.RowKit
variable {R : Type} {r : R} {P : Program} {N : Nat}
section region
variable {ops : Array Oper} {base : Nat} {S : List Stp} {pf st0 : St}
  (hc : Chain P N ops base ops.toList 0 st0 S pf) (hk : RChk ops N ops.toList (List.zipWith (fun o s => Stp.fp s o) ops.toList S) (masks ops.toList 0 []))
include hc hk
theorem Inv.rel (hnt : st0.nt = N) {ι0 : Io} {w0 : World} {L : Nat → Prop} {ι : Io} {a : Act} {w : World} (h : Inv N ops base S pf ι0 w0 L ι a w) {k : Nat} {o : Oper} (ho : ops[k]? = some o) (hn : ¬ L k)
    (he : ∀ e ∈ o.after, Region.binds .any e = true → L e.on) {s : Stp} (hs : S[k]? = some s) (hran : s.ran = true) : Rel N ι (s.r.min o) a w := by
  obtain ⟨s1, hs1, hst, hp1, hp2⟩ := stp_at hc hk ho
  rw [hs] at hs1; simp only [Option.some.injEq] at hs1; subst hs1
  have hklt : k < ops.size := (Array.getElem?_eq_some_iff.1 ho).1
  refine ⟨h.defers, h.size, ?_, fun x => ?_, fun t ob hob => ?_, h.dom, h.ndom, h.inj⟩
  · show s.r.nt = N
    rw [hst.2.2.1, ← hp1, pst_nt hc hk hnt k (by omega)]
  · show RV ι w (if (optmps o).contains x = true then s.r.t x else .junk) _
    split
    · rename_i hx
      have hx' : x ∈ optmps o ++ gtmps ops o := List.mem_append_left _ (by simpa using hx)
      have := h.tmps k (by omega) x (tmp_upto hc hk h.closed ho hn he hx')
      rw [hp1] at this
      exact hst.2.2.2.1 ι w x _ this
    · exact trivial
  · have hob' : (if (orefs s.r o).contains t = true then s.r.o t else none) = some ob := hob
    split at hob'
    · rename_i hx
      have hm : t ∈ (s.fp o).wr ++ (s.fp o).rf := List.mem_append_right _ (by simp only [Stp.fp, hran, if_true]; simpa using hx)
      refine h.objs k (by omega) t (obj_upto hc hk h.closed ho hn he hs hm) ob ?_
      rw [hp1, ← hst.1]; exact hob'
    · cases hob'
theorem least_ready {listed : Array Bool} (hsz : listed.size = ops.size) (h : Region.ready .any ops listed = []) : ∀ j, j < ops.size → listed.getD j false = true := by
  intro j
  induction j using Nat.strongRecOn with
  | _ j ih =>
    intro hj
    cases hl : listed.getD j false with
    | true => rfl
    | false =>
      have : j ∈ Region.ready .any ops listed := by
        rw [mem_ready]
        refine ⟨?_, ops[j], by simp [hj], fun e he hb => ?_⟩
        · have hlt : j < listed.size := by omega
          rw [Array.getD_eq_getD_getElem?, Array.getElem?_eq_getElem hlt] at hl ⊢
          exact hl
        · have := hk.edge j ops[j] e (by simp [hj]) he hb
          exact ih e.on this (by omega)
      rw [h] at this; cases this
theorem wpAny_all (hnt : st0.nt = N) {Q : Exit → Act → World → Prop} {ι0 : Io} {w0 : World}
    (hQ : ∀ ι a w, Inv N ops base S pf ι0 w0 (fun j => j < ops.size) ι a w → Q .normal a w) :
    ∀ (fuel : Nat) (listed : Array Bool) (ι : Io) (a : Act) (w : World), listed.size = ops.size → ((List.range ops.size).filter fun j => !listed.getD j false).length ≤ fuel →
    Inv N ops base S pf ι0 w0 (fun j => listed.getD j false = true) ι a w → wpAny P .any ops Q fuel listed a w := by
  have done : ∀ (listed : Array Bool) (ι : Io) (a : Act) (w : World), listed.size = ops.size → (∀ j, j < ops.size → listed.getD j false = true) →
      Inv N ops base S pf ι0 w0 (fun j => listed.getD j false = true) ι a w → Q .normal a w := by
    intro listed ι a w hsz hall h
    refine hQ ι a w ?_
    have e : (fun j => listed.getD j false = true) = (fun j => j < ops.size) := by
      funext j
      apply propext
      constructor
      · intro hj
        rcases Nat.lt_or_ge j listed.size with h' | h'
        · omega
        · rw [Array.getD_eq_getD_getElem?, Array.getElem?_eq_none h'] at hj; cases hj
      · exact hall j
    rw [e] at h; exact h
  intro fuel
  induction fuel with
  | zero =>
    intro listed ι a w hsz hf h
    have hall : ∀ j, j < ops.size → listed.getD j false = true := by
      intro j hj
      cases hl : listed.getD j false with
      | true => rfl
      | false =>
        have : j ∈ (List.range ops.size).filter fun j => !listed.getD j false := by simp [hj] at hl ⊢; simpa using hl
        have := List.length_pos_of_mem this
        omega
    refine ⟨?_, done listed ι a w hsz hall h⟩
    apply List.eq_nil_iff_forall_not_mem.2
    intro j hj
    rw [mem_ready] at hj
    obtain ⟨h0, o, ho, _⟩ := hj
    have hlt : j < ops.size := (Array.getElem?_eq_some_iff.1 ho).1
    have := hall j hlt
    have hlt' : j < listed.size := by omega
    rw [Array.getD_eq_getD_getElem?, Array.getElem?_eq_getElem hlt'] at h0 this
    rw [Option.getD_some] at h0 this
    rw [h0] at this; cases this
  | succ fuel ih =>
    intro listed ι a w hsz hf h
    refine ⟨fun hr => done listed ι a w hsz (least_ready hc hk hsz hr) h, fun k hkr => ?_⟩
    rw [mem_ready] at hkr
    obtain ⟨h0, o, ho, he⟩ := hkr
    have hklt : k < ops.size := (Array.getElem?_eq_some_iff.1 ho).1
    have hklt' : k < listed.size := by omega
    have hn : ¬ listed.getD k false = true := by
      rw [Array.getD_eq_getD_getElem?, Array.getElem?_eq_getElem hklt'] at h0 ⊢
      rw [Option.getD_some] at h0 ⊢
      simp [h0]
    have hsz' : (listed.setIfInBounds k true).size = ops.size := by simp [hsz]
    have hL : (fun j => (listed.setIfInBounds k true).getD j false = true) = (fun j => listed.getD j false = true ∨ j = k) := by
      funext j
      apply propext
      by_cases e : j = k
      · subst e; simp [hklt']
      · simp [e, Array.getElem?_setIfInBounds_ne (Ne.symm e)]
    have hf' : ((List.range ops.size).filter fun j => !(listed.setIfInBounds k true).getD j false).length ≤ fuel := by
      have e1 : ((List.range ops.size).filter fun j => !(listed.setIfInBounds k true).getD j false) = ((List.range ops.size).filter fun j => !listed.getD j false).filter fun j => j != k := by
        rw [List.filter_filter]
        apply List.filter_congr
        intro j _
        by_cases e : j = k
        · subst e; simp [hklt']
        · simp [e, Array.getElem?_setIfInBounds_ne (Ne.symm e)]
      rw [e1]
      have : (((List.range ops.size).filter fun j => !listed.getD j false).filter fun j => j != k).length < ((List.range ops.size).filter fun j => !listed.getD j false).length := by
        rw [List.length_filter_lt_length_iff_exists]
        exact ⟨k, by simp [hklt]; simpa using hn, by simp⟩
      omega
    obtain ⟨s, hs, hst, hp1, hp2⟩ := stp_at hc hk ho
    have next : ∀ (ι' : Io) (w' : World) (val : Value), Inv N ops base S pf ι0 w0 (fun j => listed.getD j false = true ∨ j = k) ι' (a.put o.dst val) w' →
        wpAny P .any ops Q fuel (listed.setIfInBounds k true) (a.put o.dst val) w' := by
      intro ι' w' val h'
      refine ih _ ι' _ w' hsz' hf' ?_
      rw [hL]; exact h'
    have hw := hst.2.2.2.2.2.2 a ι w (fun x hx => by
      have := h.tmps k (by omega) x (tmp_upto hc hk h.closed ho hn he (List.mem_append_right _ hx))
      rw [hp1] at this; exact this)
    unfold wpOp
    simp only [ho]
    rw [hw]
    cases hran : s.ran with
    | true =>
      rw [if_pos rfl]
      refine .inl (hst.2.2.2.2.1 hran ι a w (Inv.rel hc hk hnt h ho hn he hs hran) ?_ _ _ fun val w' ι' h1 h2 h3 => next ι' w' val ?_)
      · show ι s.r.n = none
        rw [hst.2.1]; exact h.newk k hklt hn
      · refine Inv.step hc hk hnt h ho hn he hs h1 ⟨h3.os, h3.tape, h3.output, h3.size, h3.blk, h3.no, h3.ext, h3.old, h3.new⟩ hst.2.1 h2.dom h2.inj fun t ht => ⟨hran, fun ob hob => ?_⟩
        refine h2.objs t ob ?_
        rw [← hob]
        cases he : s.e with
        | no => rw [he] at ht; simp [Eff.wr] at ht
        | new ob' => rw [he] at ht; simp [Eff.wr] at ht; subst ht; simp [St.eff, St.min]
        | set s' ob' => rw [he] at ht; simp [Eff.wr] at ht; subst ht; simp [St.eff, St.min]
    | false =>
      rw [if_neg (by decide)]
      obtain ⟨hv, hee⟩ := hst.2.2.2.2.2.1 hran
      refine next ι w undef (Inv.step hc hk hnt h ho hn he hs (by rw [hv]; rfl) (by rw [hee]; exact .refl _ ι w) hst.2.1 h.dom h.inj fun t ht => ?_)
      rw [hee] at ht; simp [Eff.wr] at ht
end region
theorem dopsD_ok (hm : P.follows .mixedOrders = true) {T : Tbl} (hT : TblOK P T) {id : Nat} {ops : Array Oper} {K : St → TR R} {st : St}
    (h : (dopsD P T ops st.n (fun s log => if orderedAll ops st.nt ops.toList log (masks ops.toList 0 []) [] [] = true then K (s.at (st.n + ops.size)) else .fail) ops.toList 0 st []).run = some r)
    (ι : Io) (a : Act) (w : World) (hr : Rel N ι st a w) (hn : NewOK st ι) (Q : Exit → Act → World → Prop)
    (hq : ∀ st' ι' a' w', (K st').run = some r → Rel N ι' st' a' w' → NewOK st' ι' → Fr ι w ι' w' → Q .normal a' w') : (Code.region id ops true).wp P Q a w := by
  obtain ⟨S, pf, hc, hK⟩ := dopsD_chain hT (N := N) _ _ _ _ h
  split at hK
  · rename_i hch
    simp only [List.nil_append] at hch
    obtain ⟨k1, k2, k3⟩ := orderedAll_spec ops.toList _ _ [] [] rfl hch
    have hk : RChk ops N ops.toList (List.zipWith (fun o s => Stp.fp s o) ops.toList S) (masks ops.toList 0 []) :=
      ⟨fun i k x y f g m h1 h2 h3 h4 h5 h6 h7 => k1 i k x y f g m (by simpa using h1) (by simpa using h2) h3 (by simpa using h4) h5 h6 h7,
       fun k y d h1 h2 => by rw [← hr.nt]; exact k2 k y d h1 h2, fun k y e h1 h2 h3 => by simpa using k3 k y e h1 h2 h3⟩
    have hz := hc.zero
    have hrep : ∀ j, ¬ (Array.replicate ops.size false).getD j false = true := by
      intro j; rw [Array.getD_eq_getD_getElem?, Array.getElem?_replicate]; split <;> simp
    have hfr0 : Fr ι w ι { w with drawn := w.drawn + 1 } := ⟨rfl, rfl, rfl, Nat.le_refl _, fun _ _ _ => rfl, rfl, fun _ _ h => h, fun _ _ _ h => .inl h⟩
    refine wp_region_any hm (wpAny_all hc hk hr.nt (ι0 := ι) (w0 := w) (fun ι' a' w' hi => ?_) ops.size _ ι a _ (by simp) ?_ ?_)
    · refine hq _ ι' a' w' hK ⟨hi.defers, hi.size, ?_, fun x => ?_, fun s ob hob => ?_, hi.dom, hi.ndom, hi.inj⟩ ?_ hi.fr
      · have := pst_nt hc hk hr.nt ops.size (Nat.le_refl _)
        have e : pst S pf ops.size = pf := by
          have := hc.len; simp at this; simp [pst, this]
        rw [e] at this; exact this
      · have := hi.tmps ops.size (Nat.le_refl _) x (fun j o ho _ => ⟨fun _ => (Array.getElem?_eq_some_iff.1 ho).1, fun h => h⟩)
        have e : pst S pf ops.size = pf := by
          have := hc.len; simp at this; simp [pst, this]
        rw [e] at this; exact this
      · refine hi.objs ops.size (Nat.le_refl _) s (fun j hw => ⟨fun h => h, fun h => h⟩) ob ?_
        have e : pst S pf ops.size = pf := by
          have := hc.len; simp at this; simp [pst, this]
        rw [e]; exact hob
      · exact fun s hs => hi.newn s hs
    · refine Nat.le_trans (List.length_filter_le _ _) (by simp)
    · refine ⟨hr.defers, hr.size, fun i hi x hx => ?_, fun i hi s hs ob hob => ?_, hr.dom, hr.ndom, hr.inj, fun j _ _ => hn _ (by omega), fun s hs => hn s (by omega), hfr0, fun k o _ hL => (hrep k hL).elim⟩
      · refine RV.fr hfr0 (fwd_t hc hk (k := 0) i (by omega) hi (fun j o _ h2 ho hd => hrep j ((hx j o ho hd).2 h2)) ?_)
        rw [hz]; exact hr.tmps x
      · rw [fwd_o hc hk (s := s) (k := 0) i (by omega) hi (fun j _ h2 hw => hrep j ((hs j hw).2 h2)), hz] at hob
        obtain ⟨b, m, hb, hro⟩ := hr.objs s ob hob
        exact ⟨b, m, hb, hro.fr hfr0 rfl⟩
  · exact (fail_run hK).elim
end Go.Proofs.Ythcgeekibomhiaa.Den
namespace Go.Proofs.Ythcgeekibomhiaa.Den
set_option linter.unusedVariables false
set_option linter.unusedSimpArgs false
set_option linter.unusedSectionVars false
open Go Go.RowKit
variable {R : Type} {r : R} {P : Program} {N : Nat}
def Ex.to : Ex → Exit
  | .normal => .normal
  | .exit i => .exit i
  | .ret => .ret
def Follows (N : Nat) (ι : Io) (w : World) (K : Ex → St → TR R) (r : R) (Q : Exit → Act → World → Prop) : Prop :=
  ∀ e st' ι' a' w', (K e st').run = some r → Rel N ι' st' a' w' → NewOK st' ι' → Fr ι w ι' w' → Q e.to a' w'
theorem Follows.fr {ι ι' : Io} {w w' : World} {K : Ex → St → TR R} {Q : Exit → Act → World → Prop} (h : Follows N ι w K r Q) (hf : Fr ι w ι' w') : Follows N ι' w' K r Q :=
  fun e st' ι'' a' w'' k1 k2 k3 k4 => h e st' ι'' a' w'' k1 k2 k3 (hf.trans k4)
theorem wp_loop_n {c : Code} {Q : Exit → Act → World → Prop} (G : Nat → Act → World → Prop) (h0 : ∀ a w, ¬ G 0 a w)
    (round : ∀ n a w, G (n + 1) a w → c.wp P (Exit.then (fun a' w' => G n a' w') Q) a w) {n : Nat} {a : Act} {w : World} (hG : G n a w) : (Code.loop c).wp P Q a w := by
  intro b k cs
  have key : ∀ n a w, G n a w → ∃ e a' w', Q e a' w' ∧ Arrives P (lone (b.at a (.code c :: .inLoop c :: k)) cs w) b k cs e a' w' := by
    intro n
    induction n with
    | zero => intro a w h; exact (h0 a w h).elim
    | succ n ih =>
      intro a w hI
      obtain ⟨e, a₁, w₁, hq, harr⟩ := round n a w hI b (.inLoop c :: k) cs
      cases e with
      | normal =>
        obtain ⟨e₂, a₂, w₂, hq₂, harr₂⟩ := ih a₁ w₁ hq
        exact ⟨e₂, a₂, w₂, hq₂, .of_steps (Steps.trans harr (.one step_inLoop)) harr₂⟩
      | exit id => exact ⟨_, a₁, w₁, hq, .pass (x := .inLoop c) rfl (fun _ _ => .inl (by simp)) harr⟩
      | goto l => exact ⟨_, a₁, w₁, hq, .pass (x := .inLoop c) rfl (fun _ _ => .inl (by simp)) harr⟩
      | ret => exact ⟨_, a₁, w₁, hq, .pass (x := .inLoop c) rfl (fun _ _ => .inl (by simp)) harr⟩
      | panic ch => exact ⟨_, a₁, w₁, hq, .pass (x := .inLoop c) rfl (fun _ _ => .inl (by simp)) harr⟩
      | outgrown => exact ⟨_, a₁, w₁, hq, .pass (x := .inLoop c) rfl (fun _ _ => .inl (by simp)) harr⟩
  obtain ⟨e, a', w', hq, harr⟩ := key n a w hG
  exact ⟨e, a', w', hq, .of_steps (.one step_loop) harr⟩
def CutOK (P : Program) (N : Nat) (C : Cuts) (id : Nat) (a : Code) : Prop :=
  ∀ (R : Type) (st : St) (K : Ex → St → TR R) (t : TR R) (r : R), C R id st K = some t → t.run = some r →
    ∀ (ι : Io) (act : Act) (w : World), Rel N ι st act w → NewOK st ι → ∀ Q, Follows N ι w K r Q → (Code.loop a).wp P Q act w
def CutsOK (P : Program) (N : Nat) (C : Cuts) (c : Code) : Prop := ∀ id, ∀ a ∈ loopsAt id c, CutOK P N C id a
theorem den_ok (hm : P.follows .mixedOrders = true) {T : Tbl} (hT : TblOK P T) {C : Cuts} : ∀ (c : Code), CutsOK P N C c → ∀ (R : Type) (r : R) (st : St) (K : Ex → St → TR R), (den P T C c R st K).run = some r →
    ∀ (ι : Io) (a : Act) (w : World), Rel N ι st a w → NewOK st ι → ∀ Q, Follows N ι w K r Q → c.wp P Q a w
  | .skip, _, R, r, st, K, h, ι, a, w, hr, hn, Q, hq => wp_skip (hq .normal st ι a w h hr hn (.refl ι w))
  | .exit i, _, R, r, st, K, h, ι, a, w, hr, hn, Q, hq => wp_exit (hq (.exit i) st ι a w h hr hn (.refl ι w))
  | .ret, _, R, r, st, K, h, ι, a, w, hr, hn, Q, hq => wp_ret (hq .ret st ι a w h hr hn (.refl ι w))
  | .region id ops draw, _, R, r, st, K, h, ι, a, w, hr, hn, Q, hq => by
    simp only [den] at h
    cases draw with
    | true =>
      simp only [if_true] at h
      exact dopsD_ok hm hT (K := K .normal) h ι a w hr hn Q fun st' ι' a' w' k1 k2 k3 k4 => hq .normal st' ι' a' w' k1 k2 k3 k4
    | false =>
      simp only [Bool.false_eq_true, if_false] at h
      exact wp_region_list (dops_ok hT _ _ h ι a w hr hn Q fun st' ι' a' w' k1 k2 k3 k4 => hq .normal st' ι' a' w' k1 k2 k3 k4)
  | .seq x y, hC, R, r, st, K, h, ι, a, w, hr, hn, Q, hq => by
    simp only [den] at h
    refine wp_seq (den_ok hm hT x (fun id a ha => hC id a (by simp [loopsAt, ha])) R r st _ h ι a w hr hn _ ?_)
    intro e st' ι' a' w' k1 k2 k3 k4
    cases e with
    | normal => exact den_ok hm hT y (fun id a ha => hC id a (by simp [loopsAt, ha])) R r st' K k1 ι' a' w' k2 k3 Q (hq.fr k4)
    | exit i => exact hq (.exit i) st' ι' a' w' k1 k2 k3 k4
    | ret => exact hq .ret st' ι' a' w' k1 k2 k3 k4
  | .cond c x y, hC, R, r, st, K, h, ι, a, w, hr, hn, Q, hq => by
    have hx : CutsOK P N C x := fun id a ha => hC id a (by simp [loopsAt, ha])
    have hy : CutsOK P N C y := fun id a ha => hC id a (by simp [loopsAt, ha])
    have hrf : ∀ b, toB (ev st c) = some b → Rel N ι (st.refine c b) a w ∧ NewOK (st.refine c b) ι := by
      intro b hb
      cases c with
      | tmp d => exact ⟨hr.refine hb, hn⟩
      | const v => exact ⟨hr, hn⟩
      | global g => exact ⟨hr, hn⟩
      | func f => exact ⟨hr, hn⟩
    simp only [den] at h
    obtain ⟨b, hb, ⟨e, h⟩ | ⟨e, h⟩⟩ := brB_run h
    · subst e
      exact wp_cond_true (toB_rv hb (hr.ev c)) (den_ok hm hT x hx R r _ K h ι a w (hrf true hb).1 (hrf true hb).2 Q hq)
    · subst e
      exact wp_cond_false (toB_rv hb (hr.ev c)) (den_ok hm hT y hy R r _ K h ι a w (hrf false hb).1 (hrf false hb).2 Q hq)
  | .block id x, hC, R, r, st, K, h, ι, a, w, hr, hn, Q, hq => by
    simp only [den] at h
    refine wp_block (den_ok hm hT x (fun i a ha => hC i a (by simp [loopsAt, ha])) R r st _ h ι a w hr hn _ ?_)
    intro e st' ι' a' w' k1 k2 k3 k4
    cases e with
    | normal => exact hq .normal st' ι' a' w' k1 k2 k3 k4
    | exit i =>
      show (if i = id then Q .normal a' w' else Q (.exit i) a' w')
      by_cases c : i = id
      · simp only [c, if_true] at k1 ⊢; exact hq .normal st' ι' a' w' k1 k2 k3 k4
      · simp only [c, if_false] at k1 ⊢; exact hq (.exit i) st' ι' a' w' k1 k2 k3 k4
    | ret => exact hq .ret st' ι' a' w' k1 k2 k3 k4
  | .loop x, hC, R, r, st, K, h, ι, a, w, hr, hn, Q, hq => by
    simp only [den] at h
    split at h
    · rename_i t ht
      exact hC (firstId x) x (by simp [loopsAt]) R st K t r ht h ι a w hr hn Q hq
    · have hx : CutsOK P N C x := fun id a ha => hC id a (by simp only [loopsAt]; split <;> simp [ha])
      refine wp_loop_n (fun n a w => ∃ st ι', (dloop (den P T C x) n st K).run = some r ∧ Rel N ι' st a w ∧ NewOK st ι' ∧ Follows N ι' w K r Q) ?_ ?_ (n := 20) ⟨st, ι, h, hr, hn, hq⟩
      · rintro a w ⟨st, ι', h, _⟩; exact fail_run h
      · rintro n a w ⟨st, ι', h, hr, hn, hq⟩
        refine den_ok hm hT x hx R r st _ h ι' a w hr hn _ ?_
        intro e st' ι'' a' w' k1 k2 k3 k4
        cases e with
        | normal => exact ⟨st', ι'', k1, k2, k3, hq.fr k4⟩
        | exit i => exact hq (.exit i) st' ι'' a' w' k1 k2 k3 k4
        | ret => exact hq .ret st' ι'' a' w' k1 k2 k3 k4
  | .rangeFunc .., _, _, _, _, _, h, _, _, _, _, _, _, _ => (fail_run h).elim
  | .scope .., _, _, _, _, _, h, _, _, _, _, _, _, _ => (fail_run h).elim
  | .label .., _, _, _, _, _, h, _, _, _, _, _, _, _ => (fail_run h).elim
  | .goto .., _, _, _, _, _, h, _, _, _, _, _, _, _ => (fail_run h).elim
  | .refuse .., _, _, _, _, _, h, _, _, _, _, _, _, _ => (fail_run h).elim
end Go.Proofs.Ythcgeekibomhiaa.Den
namespace Go.Proofs.Ythcgeekibomhiaa.Den
set_option linter.unusedVariables false
set_option linter.unusedSimpArgs false
set_option linter.unusedSectionVars false
open Go Go.RowKit
variable {R : Type} {r : R} {P : Program} {N : Nat}
def resV (tmps : Array Value) : ResultVar → Sem Value
  | .tmp t => pure (tmps.getD t undef)
  | .cell c t => do loadVar t (← asAddr (tmps.getD c undef))
theorem results_eq (fn : Func) (tmps : Array Value) : results fn tmps = (do let vs ← fn.results.mapM (resV tmps); pure (if h : vs.size = 1 then vs[0] else .tuple vs)) := rfl
theorem dres1_ok {st : St} {v : ResultVar} {x : SV} (h : dres1 P st v = some x) {ι : Io} {a : Act} {w : World} (hr : Rel N ι st a w) :
    ∃ u, (resV a.tmps v).run P w = .ok u w ∧ RV ι w x u := by
  unfold dres1 at h
  split at h
  · simp only [Option.some.injEq] at h; subst h
    exact ⟨_, rfl, hr.tmps _⟩
  · rename_i t ty
    split at h
    · rename_i s off hst
      split at h
      · rename_i cs ho
        have hx := hr.tmps t
        rw [hst] at hx
        obtain ⟨b, n, hs, hx'⟩ := hx
        have h' : (dload P st ty (.ptr s off) (fun v => TR.ret v)).run = some x := by simp [dload, ho, h, TR.run]
        obtain ⟨v, hv, hl⟩ := dload_ok (N := N) h'
        simp [TR.run] at hv; subst hv
        obtain ⟨val, h1, h2⟩ := hl ι a w _ hr ⟨b, n, hs, rfl⟩
        refine ⟨val, ?_, h2⟩
        simp only [resV, Sem.run_bind, hx', asAddr, Sem.run_pure, Result.andThen_ok]
        simpa [Instr.loadAt, Instr.sureAddr] using h1
      · cases h
    · cases h
theorem dresL_ok {st : St} {ι : Io} {a : Act} {w : World} (hr : Rel N ι st a w) : ∀ (l : List ResultVar) {xs : List SV}, dresL P st l = some xs →
    ∃ us : List Value, (l.mapM (m := Sem) (resV a.tmps)).run P w = .ok us w ∧ RVL ι w xs us
  | [], xs, h => by simp [dresL] at h; subst h; exact ⟨[], rfl, trivial⟩
  | v :: l, xs, h => by
    simp only [dresL] at h
    split at h
    · rename_i x hx
      split at h
      · rename_i ys hy
        simp only [Option.some.injEq] at h; subst h
        obtain ⟨u, h1, h2⟩ := dres1_ok hx hr
        obtain ⟨us, h3, h4⟩ := dresL_ok hr l hy
        refine ⟨u :: us, ?_, h2, h4⟩
        simp only [List.mapM_cons, Sem.run_bind, h1, Result.andThen_ok, h3, Sem.run_pure]
      · cases h
    · cases h
theorem fin1_rv {st : St} {ι ι' : Io} {a : Act} {w' : World} (hr : Rel N ι' st a w') (ho : ∀ b, own ι b → ι'.no b) (hf : ∀ s b n, ι' s = some (b, n) → ¬ own ι b) {x : SV} {u : Value} (hu : RV ι' w' x u) : RV ι w' (fin1 st x) u := by
  unfold fin1
  split
  · rename_i s
    split
    · rename_i l hob
      obtain ⟨b, n, c, hs, rfl, hnc, hnm⟩ := hu
      obtain ⟨b', n', hs', hn, cc, e, hh, hl⟩ := hr.objs _ _ hob
      rw [hs] at hs'; simp only [Option.some.injEq, Prod.mk.injEq] at hs'; obtain ⟨rfl, rfl⟩ := hs'
      subst hn
      exact ⟨_, c, rfl, hnc, hnm, fun _ => ⟨b, 0, rfl, hr.dom _ _ _ hs, hf s b _ hs, fun j v hj => by rw [heap_cell hh, Nat.zero_add]; exact hl j v hj⟩⟩
    · trivial
  · split
    · rename_i hc
      exact c1_rv hc (fun b k => .inr (ho b k)) hu
    · trivial
theorem fin1_rvl {st : St} {ι ι' : Io} {a : Act} {w' : World} (hr : Rel N ι' st a w') (ho : ∀ b, own ι b → ι'.no b) (hf : ∀ s b n, ι' s = some (b, n) → ¬ own ι b) : ∀ {xs : List SV} {us : List Value}, RVL ι' w' xs us → RVL ι w' (xs.map (fin1 st)) us
  | [], [], _ => trivial
  | _ :: _, _ :: _, ⟨h1, h2⟩ => ⟨fin1_rv hr ho hf h1, fin1_rvl hr ho hf h2⟩
  | [], _ :: _, h => h.elim
  | _ :: _, [], h => h.elim
theorem fin2_rv {st : St} {ι ι' : Io} {a : Act} {w' : World} (hr : Rel N ι' st a w') (ho : ∀ b, own ι b → ι'.no b) (hf : ∀ s b n, ι' s = some (b, n) → ¬ own ι b) {x : SV} {u : Value} (hu : RV ι' w' x u) : RV ι w' (fin2 st x) u := by
  unfold fin2
  split
  · obtain ⟨vs, rfl, hl⟩ := hu; exact ⟨vs, rfl, fin1_rvl hr ho hf hl⟩
  · exact fin1_rv hr ho hf hu
theorem fin2_rvl {st : St} {ι ι' : Io} {a : Act} {w' : World} (hr : Rel N ι' st a w') (ho : ∀ b, own ι b → ι'.no b) (hf : ∀ s b n, ι' s = some (b, n) → ¬ own ι b) : ∀ {xs : List SV} {us : List Value}, RVL ι' w' xs us → RVL ι w' (xs.map (fin2 st)) us
  | [], [], _ => trivial
  | _ :: _, _ :: _, ⟨h1, h2⟩ => ⟨fin2_rv hr ho hf h1, fin2_rvl hr ho hf h2⟩
  | [], _ :: _, h => h.elim
  | _ :: _, [], h => h.elim
theorem results_ok {fn : Func} {st : St} {ι ι' : Io} {a : Act} {w : World} (hr : Rel N ι' st a w) (ho : ∀ b, own ι b → ι'.no b) (hf : ∀ s b n, ι' s = some (b, n) → ¬ own ι b) {xs : List SV} (h : dresL P st fn.results.toList = some xs) :
    ∃ v, (results fn a.tmps).run P w = .ok v w ∧ RV ι w (tup1 (xs.map (fin2 st))) v := by
  obtain ⟨us, h1, h2⟩ := dresL_ok hr _ h
  replace h2 := fin2_rvl hr ho hf h2
  generalize xs.map (fin2 st) = ys at *
  have e : (fn.results.mapM (m := Sem) (resV a.tmps)).run P w = .ok us.toArray w := by
    rw [Array.mapM_eq_mapM_toList]
    simp only [Sem.run_map, h1, Result.andThen_ok]
  have hl := h2.length
  refine ⟨if hh : us.toArray.size = 1 then us.toArray[0] else .tuple us.toArray, ?_, ?_⟩
  · rw [results_eq, Sem.run_bind, e]
    rfl
  · match ys, us, h2, hl with
    | [x], [u], h2, _ => simpa [tup1] using h2.1
    | [], [], h2, _ => exact ⟨[], rfl, trivial⟩
    | x :: y :: xs, u :: v :: us, h2, _ => exact ⟨u :: v :: us, rfl, h2⟩
theorem fn_ok (hm : P.follows .mixedOrders = true) {T : Tbl} (hT : TblOK P T) {C : Cuts} {f : FuncId} {fn : Func} (hf : P.funcs[f]? = some fn) {c : Code} (hb : fn.body = some c) (hC : CutsOK P fn.ntmps C c)
    (hname : (fn.name == "runtime.NumGoroutine") = false) {dec : SV → Option R} {args : List SV} (hlen : args.length ≤ fn.ntmps)
    {y : R} (h : (dfn P T C fn dec args).run = some y) {out : SV} (hout : ∀ v, dec v = some y → ∀ (ι : Io) (w : World) u, RV ι w v u → RV ι w out u) : CallOK P f args out := by
  intro vals w ι hι hno hrv
  refine .inl ⟨?_, ?_⟩
  · have hname' : ¬ fn.name = "runtime.NumGoroutine" := by simpa using hname
    simp [callFunc, hf, hname', hb]
  · simp only [dfn, hb] at h
    have hvl := hrv.length
    refine calls_of_wp hf hb (den_ok hm hT c hC R y _ _ h ι _ w ⟨rfl, ?_, rfl, fun t => ?_, fun s ob ho => ?_, fun s b n hs => ?_, hno, fun s s' b n n' hs => ?_⟩ (fun s _ => hι s) _ ?_)
    · simp; omega
    · show RV ι w (args.getD t .junk) _
      rw [List.getD_eq_getElem?_getD]
      cases ha : args[t]? with
      | none => exact trivial
      | some x =>
        obtain ⟨u, hu, hx⟩ := hrv.get ha
        have hlt : t < vals.length := (List.getElem?_eq_some_iff.1 hu).1
        have : (vals.toArray ++ Array.replicate (fn.ntmps - vals.toArray.size) undef).getD t undef = u := by
          rw [Array.getD_eq_getD_getElem?, Array.getElem?_append_left (by simpa using hlt)]
          simp [hu]
        rw [this]; exact hx
    · cases ho
    · rw [hι s] at hs; cases hs
    · rw [hι s] at hs; cases hs
    · intro e st' ι' a' w' k1 k2 k3 k4
      have fin : ∀ l, dresL P st' fn.results.toList = some l → ∀ y', dec (tup1 (l.map (fin2 st'))) = some y' → y' = y → ∃ v, (results fn a'.tmps).run P w' = .ok v w' ∧ ∃ u, Ending.returned v = .returned u ∧ RV ι w' out u ∧ Below w.heap.size w w' := by
        intro l hl y' hd hy
        subst hy
        have hi : ∀ b, ¬ ownI ι b := by rintro b ⟨s, n, hs⟩; rw [hι s] at hs; cases hs
        obtain ⟨v, h1, h2⟩ := results_ok (ι := ι) k2 (fun b k => by rw [k4.no]; exact k.elim (fun k => (hi b k).elim) id) (fun s b n hs k => by
          have h1 : w.heap.size ≤ b := by
            rcases k4.fresh s b n hs with h | h
            · rw [hι s] at h; cases h
            · exact h
          rcases k with k | k
          · exact hi b k
          · have := hno b k; omega) hl
        exact ⟨v, h1, v, rfl, hout _ hd ι w' v h2, ⟨k4.os, k4.tape, k4.output, k4.size, fun b hb => k4.blk b hb (by rintro ⟨s, n, hs⟩; rw [hι s] at hs; cases hs)⟩⟩
      cases e with
      | exit i => exact (fail_run k1).elim
      | normal =>
        simp only [fnK] at k1
        split at k1
        · rename_i l hl
          split at k1
          · rename_i y' hd
            simp only [TR.run, Option.some.injEq] at k1
            exact ⟨k2.defers, fin l hl y' hd k1⟩
          · exact (fail_run k1).elim
        · exact (fail_run k1).elim
      | ret =>
        simp only [fnK] at k1
        split at k1
        · rename_i l hl
          split at k1
          · rename_i y' hd
            simp only [TR.run, Option.some.injEq] at k1
            exact ⟨k2.defers, fin l hl y' hd k1⟩
          · exact (fail_run k1).elim
        · exact (fail_run k1).elim
end Go.Proofs.Ythcgeekibomhiaa.Den
namespace Go.Proofs.Ythcgeekibomhiaa.Den
set_option linter.unusedVariables false
set_option linter.unusedSimpArgs false
set_option linter.unusedSectionVars false
open Go Go.RowKit
inductive Bt where
  | int (k : IntKind)
  | bool
  | str
  | err (t : Nat) (k : IntKind)
  | ro (k : IntKind)
  | ro2 (k : IntKind)
  | ro3 (k : IntKind)
  | fn (f : Nat)
inductive Vt where
  | b (t : Bt)
  | agg (l : List Bt)
inductive Ty where
  | one (t : Vt)
  | tup (l : List Vt)
abbrev vu : Vt := .b (.int .u64)
abbrev vi : Vt := .b (.int .i64)
abbrev v8 : Vt := .b (.int .u8)
abbrev vb : Vt := .b .bool
abbrev vL : Vt := .b (.ro .u32)
abbrev vW : Vt := .agg [.int .u64, .int .u64, .int .u64, .int .u64]
abbrev vN : Vt := .agg [.bool, .int .i64, .int .u64, .int .u64, .int .u64, .int .u64, .bool]
abbrev vP : Vt := .agg [.int .u64, .int .u64]
abbrev vR : Vt := .agg [.bool, .int .i64, .ro .u32]
def Bt.T : Bt → Type
  | .int _ => Int
  | .bool => Bool
  | .str => ByteArray
  | .err _ _ => Option Int
  | .ro _ => List Int
  | .ro2 _ => Int × Int
  | .ro3 _ => Int × Int × Int
  | .fn _ => Unit
def HL {σ : Type} (T : σ → Type) : List σ → Type
  | [] => Unit
  | t :: r => match r with
    | [] => T t
    | _ :: _ => T t × HL T r
def Vt.T : Vt → Type
  | .b t => t.T
  | .agg l => HL Bt.T l
def Ty.T : Ty → Type
  | .one t => t.T
  | .tup l => HL Vt.T l
section lists
variable {σ : Type} {T : σ → Type}
noncomputable def encs (enc : (t : σ) → T t → SV) : (l : List σ) → HL T l → List SV
  | [] => fun _ => []
  | t :: r => match r with
    | [] => fun x => [enc t x]
    | u :: s => fun x => enc t x.1 :: encs enc (u :: s) x.2
noncomputable def decs (dec : (t : σ) → SV → Option (T t)) : (l : List σ) → List SV → Option (HL T l)
  | [] => fun v => match v with
    | [] => some ()
    | _ :: _ => none
  | t :: r => match r with
    | [] => fun v => match v with
      | [] => none
      | x :: s => match s with
        | [] => dec t x
        | _ :: _ => none
    | u :: s => fun v => match v with
      | [] => none
      | x :: v => match dec t x with
        | some y => match decs dec (u :: s) v with
          | some z => some (y, z)
          | none => none
        | none => none
theorem decs_one (dec : (t : σ) → SV → Option (T t)) (t : σ) (v : List SV) : decs dec [t] v = (match v with | [x] => dec t x | _ => none : Option (T t)) := by
  match v with
  | [] => rfl
  | [_] => rfl
  | _ :: _ :: _ => rfl
theorem decs_two (dec : (t : σ) → SV → Option (T t)) (t u : σ) (l : List σ) (x : SV) (v : List SV) :
    decs dec (t :: u :: l) (x :: v) = (match dec t x with | some y => (match decs dec (u :: l) v with | some z => some (y, z) | none => none) | none => none : Option (T t × HL T (u :: l))) := rfl
theorem decs_ok {enc : (t : σ) → T t → SV} {dec : (t : σ) → SV → Option (T t)} {ι : Io} {w : World} (H : ∀ (t : σ) (v : SV) (x : T t) (y : Value), dec t v = some x → RV ι w v y → RV ι w (enc t x) y) :
    ∀ (l : List σ) {v : List SV} {x : HL T l} {y : List Value}, decs dec l v = some x → RVL ι w v y → RVL ι w (encs enc l x) y
  | [], v, x, y, h, hr => by
    match v, h with
    | [], _ => exact hr
  | [t], v, x, y, h, hr => by
    rw [decs_one] at h
    change RVL ι w [enc t x] y
    match v, y, h, hr with
    | [v], [y], h, hr => exact ⟨H t v x y h hr.1, trivial⟩
    | [_], [], _, hr => exact hr.elim
    | [_], _ :: _ :: _, _, hr => exact hr.2.elim
  | t :: u :: l, v, x, y, h, hr => by
    match v, y, h, hr with
    | v :: r, y :: ys, h, hr =>
      rw [decs_two] at h
      change RVL ι w (enc t (x : T t × HL T (u :: l)).1 :: encs enc (u :: l) (x : T t × HL T (u :: l)).2) (y :: ys)
      cases ha : dec t v with
      | none => rw [ha] at h; cases h
      | some a =>
        cases hb : decs dec (u :: l) r with
        | none => rw [ha, hb] at h; cases h
        | some b =>
          rw [ha, hb] at h
          have e : (a, b) = x := Option.some.inj h
          subst e
          exact ⟨H t v a y ha hr.1, decs_ok H (u :: l) hb hr.2⟩
    | _ :: _, [], _, hr => exact hr.elim
theorem encs_length (enc : (t : σ) → T t → SV) : ∀ (l : List σ) (x : HL T l), (encs enc l x).length = l.length
  | [], _ => rfl
  | [_], _ => rfl
  | t :: u :: l, x => by
    change (enc t (x : T t × HL T (u :: l)).1 :: encs enc (u :: l) (x : T t × HL T (u :: l)).2).length = _
    rw [List.length_cons, encs_length enc (u :: l)]; rfl
theorem encs_all {enc : (t : σ) → T t → SV} {p : SV → Bool} {q : σ → Bool} (H : ∀ t x, q t = true → p (enc t x) = true) : ∀ (l : List σ) (x : HL T l), l.all q = true → (encs enc l x).all p = true
  | [], _, _ => rfl
  | [t], x, h => by
    change [enc t x].all p = true
    simp only [List.all_cons, List.all_nil, Bool.and_true] at h ⊢; exact H t x h
  | t :: u :: l, x, h => by
    change (enc t (x : T t × HL T (u :: l)).1 :: encs enc (u :: l) (x : T t × HL T (u :: l)).2).all p = true
    rw [List.all_cons, Bool.and_eq_true]
    rw [List.all_cons, Bool.and_eq_true] at h
    exact ⟨H t _ h.1, encs_all H (u :: l) _ h.2⟩
end lists
noncomputable def Bt.enc : (t : Bt) → t.T → SV
  | .int k, x => .v (.int k x)
  | .bool, x => .v (.bool x)
  | .str, x => .v (.string x)
  | .err t k, x => .err t k x
  | .ro k, x => .ro (.ints k x)
  | .ro2 k, x => .ro (.ints k [x.1, x.2])
  | .ro3 k, x => .ro (.ints k [x.1, x.2.1, x.2.2])
  | .fn f, _ => .v (.func (.func f) #[] #[])
noncomputable def decI (k : IntKind) : SV → Option Int
  | .v (.int k' x) => if k' = k then some x else none
  | _ => none
noncomputable def decS : SV → Option ByteArray
  | .v (.string s) => some s
  | _ => none
noncomputable def decE (t : Nat) (k : IntKind) : SV → Option (Option Int)
  | .err t' k' z => if t' = t ∧ k' = k then some z else none
  | .v .nilIface => some none
  | _ => none
noncomputable def decR (k : IntKind) : SV → Option (List Int)
  | .ro (.ints k' xs) => if k' = k then some xs else none
  | .v (.slice none 0 0) => some []
  | _ => none
noncomputable def decR2 (k : IntKind) (v : SV) : Option (Int × Int) := match decR k v with
  | some [a, b] => some (a, b)
  | _ => none
noncomputable def decR3 (k : IntKind) (v : SV) : Option (Int × Int × Int) := match decR k v with
  | some [a, b, c] => some (a, b, c)
  | _ => none
noncomputable def decF (f : Nat) : SV → Option Unit
  | .v (.func (.func g) fi ca) => if g = f ∧ fi.size = 0 ∧ ca.size = 0 then some () else none
  | _ => none
noncomputable def Bt.dec : (t : Bt) → SV → Option t.T
  | .int k => decI k
  | .bool => toB
  | .str => decS
  | .err t k => decE t k
  | .ro k => decR k
  | .ro2 k => decR2 k
  | .ro3 k => decR3 k
  | .fn f => decF f
section
variable {ι : Io} {w : World} {v : SV} {y : Value} (hr : RV ι w v y)
include hr
theorem decI_ok {k : IntKind} {x : Int} (h : decI k v = some x) : RV ι w (.v (.int k x)) y := by
  unfold decI at h
  split at h
  · split at h
    · rename_i hk; subst hk; have e := Option.some.inj h; subst e; exact hr
    · cases h
  · cases h
theorem decS_ok {x : ByteArray} (h : decS v = some x) : RV ι w (.v (.string x)) y := by
  unfold decS at h
  split at h
  · have e := Option.some.inj h; subst e; exact hr
  · cases h
theorem decE_ok {t : Nat} {k : IntKind} {x : Option Int} (h : decE t k v = some x) : RV ι w (.err t k x) y := by
  unfold decE at h
  split at h
  · split at h
    · rename_i hk; obtain ⟨rfl, rfl⟩ := hk; have e := Option.some.inj h; subst e; exact hr
    · cases h
  · have e := Option.some.inj h; subst e; exact hr
  · cases h
theorem decR_ok {k : IntKind} {x : List Int} (h : decR k v = some x) : RV ι w (.ro (.ints k x)) y := by
  unfold decR at h
  split at h
  · split at h
    · rename_i hk; subst hk; have e := Option.some.inj h; subst e; exact hr
    · cases h
  · have e := Option.some.inj h; subst e
    have e : y = .slice none 0 0 := hr
    subst e
    exact ⟨none, 0, rfl, Nat.le_refl _, by simp [LV.len], fun h => by simp [LV.len] at h⟩
  · cases h
theorem decR2_ok {k : IntKind} {x : Int × Int} (h : decR2 k v = some x) : RV ι w (.ro (.ints k [x.1, x.2])) y := by
  unfold decR2 at h
  split at h
  · rename_i a b hd; have e := Option.some.inj h; subst e; exact decR_ok hr hd
  · cases h
theorem decR3_ok {k : IntKind} {x : Int × Int × Int} (h : decR3 k v = some x) : RV ι w (.ro (.ints k [x.1, x.2.1, x.2.2])) y := by
  unfold decR3 at h
  split at h
  · rename_i a b c hd; have e := Option.some.inj h; subst e; exact decR_ok hr hd
  · cases h
theorem decF_ok {f : Nat} {x : Unit} (h : decF f v = some x) : RV ι w (.v (.func (.func f) #[] #[])) y := by
  unfold decF at h
  split at h
  · split at h
    · rename_i g fi ca hk
      obtain ⟨rfl, h1, h2⟩ := hk
      have h1 : fi = #[] := Array.eq_empty_of_size_eq_zero h1
      have h2 : ca = #[] := Array.eq_empty_of_size_eq_zero h2
      subst h1; subst h2; exact hr
    · cases h
  · cases h
end
theorem Bt.dec_ok {ι : Io} {w : World} (t : Bt) (v : SV) (x : t.T) (y : Value) (h : t.dec v = some x) (hr : RV ι w v y) : RV ι w (t.enc x) y := by
  cases t with
  | int k => exact decI_ok hr h
  | bool => exact toB_rv h hr
  | str => exact decS_ok hr h
  | err t k => exact decE_ok hr h
  | ro k => exact decR_ok hr h
  | ro2 k => exact decR2_ok hr h
  | ro3 k => exact decR3_ok hr h
  | fn f => exact decF_ok hr h
noncomputable def Vt.enc : (t : Vt) → t.T → SV
  | .b t, x => t.enc x
  | .agg l, x => .agg (encs Bt.enc l x)
noncomputable def aggOf : SV → Option (List SV)
  | .agg cs => some cs
  | _ => none
noncomputable def tupOf : SV → Option (List SV)
  | .tup cs => some cs
  | _ => none
theorem aggOf_eq {v : SV} {cs : List SV} (h : aggOf v = some cs) : v = .agg cs := by cases v <;> simp [aggOf] at h; subst h; rfl
theorem tupOf_eq {v : SV} {cs : List SV} (h : tupOf v = some cs) : v = .tup cs := by cases v <;> simp [tupOf] at h; subst h; rfl
noncomputable def Vt.dec : (t : Vt) → SV → Option t.T
  | .b t => t.dec
  | .agg l => fun v => (aggOf v).bind (decs Bt.dec l)
theorem Vt.dec_ok {ι : Io} {w : World} (t : Vt) (v : SV) (x : t.T) (y : Value) (h : t.dec v = some x) (hr : RV ι w v y) : RV ι w (t.enc x) y := by
  cases t with
  | b t => exact t.dec_ok v x y h hr
  | agg l =>
    have h' : (aggOf v).bind (decs Bt.dec l) = some x := h
    obtain ⟨cs, hc, hd⟩ := Option.bind_eq_some_iff.1 h'
    have e := aggOf_eq hc
    subst e
    obtain ⟨vs, rfl, hl⟩ := hr
    exact ⟨vs, rfl, decs_ok Bt.dec_ok l hd hl⟩
noncomputable def Ty.enc : (t : Ty) → t.T → SV
  | .one t, x => t.enc x
  | .tup l, x => .tup (encs Vt.enc l x)
noncomputable def Ty.dec : (t : Ty) → SV → Option t.T
  | .one t => t.dec
  | .tup l => fun v => (tupOf v).bind (decs Vt.dec l)
theorem Ty.dec_ok {ι : Io} {w : World} (t : Ty) (v : SV) (x : t.T) (y : Value) (h : t.dec v = some x) (hr : RV ι w v y) : RV ι w (t.enc x) y := by
  cases t with
  | one t => exact t.dec_ok v x y h hr
  | tup l =>
    have h' : (tupOf v).bind (decs Vt.dec l) = some x := h
    obtain ⟨cs, hc, hd⟩ := Option.bind_eq_some_iff.1 h'
    have e := tupOf_eq hc
    subst e
    obtain ⟨vs, rfl, hl⟩ := hr
    exact ⟨vs, rfl, decs_ok Vt.dec_ok l hd hl⟩
def Bt.plain : Bt → Bool
  | .ro _ | .ro2 _ | .ro3 _ => false
  | _ => true
def Vt.plain : Vt → Bool
  | .b t => t.plain
  | .agg l => l.all Bt.plain
def Ty.plain : Ty → Bool
  | .one t => t.plain
  | .tup l => l.all Vt.plain
theorem Bt.plain_enc (t : Bt) (x : t.T) (h : t.plain = true) : (t.enc x).p1 = true := by
  cases t <;> first | rfl | cases h
theorem Vt.plain_enc (t : Vt) (x : t.T) (h : t.plain = true) : (t.enc x).p2 = true := by
  cases t with
  | b t => have := t.plain_enc x h; cases t <;> first | rfl | cases h
  | agg l => exact encs_all Bt.plain_enc l x h
theorem Ty.plain_enc (t : Ty) (x : t.T) (h : t.plain = true) : (t.enc x).plain = true := by
  cases t with
  | one t =>
    have := t.plain_enc x h
    cases t with
    | b t => cases t <;> first | rfl | cases h
    | agg l => exact this
  | tup l => exact encs_all Vt.plain_enc l x h
abbrev Args (A : List Vt) : Type := HL Vt.T A
noncomputable abbrev encA (A : List Vt) (x : Args A) : List SV := encs Vt.enc A x
noncomputable abbrev decA (A : List Vt) (v : List SV) : Option (Args A) := decs Vt.dec A v
structure Codec (β : Type) where
  enc : β → SV
  dec : SV → Option β
  ok : ∀ v x (ι : Io) (w : World) u, dec v = some x → RV ι w v u → RV ι w (enc x) u
noncomputable def Ty.codec (t : Ty) : Codec t.T := ⟨t.enc, t.dec, fun v x _ _ u hd hr => t.dec_ok v x u hd hr⟩
noncomputable def Codec.map {β γ : Type} (c : Codec β) (g : β → γ) (h : γ → β) (e : ∀ y, h (g y) = y) : Codec γ where
  enc z := c.enc (h z)
  dec v := match c.dec v with
    | some y => some (g y)
    | none => none
  ok v x ι w u hd hr := by
    split at hd
    · rename_i y hy
      have e' := Option.some.inj hd
      subst e'
      rw [e]; exact c.ok v y ι w u hy hr
    · cases hd
def Good (P : Program) (f : Nat) (A : List Vt) {β : Type} (enc : β → SV) (F : Args A → Option β) : Prop := ∀ x y, F x = some y → CallOK P f (encA A x) (enc y)
def Entry : Type 1 := ∀ R : Type, List SV → (SV → TR R) → Option (TR R)
noncomputable def entry (A : List Vt) {β : Type} (enc : β → SV) (F : Args A → Option β) : Entry := fun _ args K =>
  match decA A args with
  | some x => some (.call _ (F x) fun y => K (enc y))
  | none => none
noncomputable def entryB (A : List Vt) (F : Args A → Option Bool) : Entry := fun _ args K =>
  match decA A args with
  | some x => some (.call _ (F x) fun y => br (y = true) (K (.v (.bool true))) (K (.v (.bool false))))
  | none => none
noncomputable def tbl : List (Nat × Entry) → Tbl
  | [], _, _, _, _ => .fail
  | (g, e) :: l, R, f, args, K => if f = g then (match e R args K with | some t => t | none => tbl l R f args K) else tbl l R f args K
def EntryOK (P : Program) (f : Nat) (e : Entry) : Prop := ∀ R args (K : SV → TR R) t r, e R args K = some t → t.run = some r → ∃ out, (K out).run = some r ∧ CallOK P f args out
theorem CallOK.args {P : Program} {f : Nat} {A : List Vt} {args : List SV} {x : Args A} (hd : decA A args = some x) {out : SV} (h : CallOK P f (encA A x) out) : CallOK P f args out :=
  fun vals w ι hι hn hr => h vals w ι hι hn (decs_ok Vt.dec_ok A hd hr)
theorem call_run {R β : Type} {x : Option β} {k : β → TR R} {r : R} (h : (TR.call β x k).run = some r) : ∃ y, x = some y ∧ (k y).run = some r := by
  simpa only [TR.run, Option.bind_eq_some_iff] using h
theorem Good.entry {P : Program} {f : Nat} {A : List Vt} {β : Type} {enc : β → SV} {F : Args A → Option β} (h : Good P f A enc F) : EntryOK P f (entry A enc F) := by
  intro R args K t r ht hr
  simp only [Den.entry] at ht
  split at ht
  · rename_i x hx
    have e := Option.some.inj ht
    subst e
    obtain ⟨y, hy, hK⟩ := call_run hr
    exact ⟨_, hK, (h x y hy).args hx⟩
  · cases ht
noncomputable def encB (b : Bool) : SV := .v (.bool b)
theorem Good.entryB {P : Program} {f : Nat} {A : List Vt} {F : Args A → Option Bool} (h : Good P f A encB F) : EntryOK P f (entryB A F) := by
  intro R args K t r ht hr
  simp only [Den.entryB] at ht
  split at ht
  · rename_i x hx
    have e := Option.some.inj ht
    subst e
    obtain ⟨y, hy, hK⟩ := call_run hr
    have hc := (h x y hy).args hx
    rcases br_run hK with ⟨e, hK⟩ | ⟨e, hK⟩
    · subst e; exact ⟨_, hK, hc⟩
    · have : y = false := by cases y; rfl; exact (e rfl).elim
      subst this; exact ⟨_, hK, hc⟩
  · cases ht
theorem TblOK.nil {P : Program} : TblOK P (tbl []) := fun _ _ _ _ _ h => (fail_run h).elim
theorem TblOK.cons {P : Program} {f : Nat} {e : Entry} {l : List (Nat × Entry)} (h : EntryOK P f e) (t : TblOK P (tbl l)) : TblOK P (tbl ((f, e) :: l)) := by
  intro R g args K r hr
  simp only [tbl] at hr
  split at hr
  · rename_i hg; subst hg
    split at hr
    · rename_i u hu; exact h R args K u r hu hr
    · exact t R _ args K r hr
  · exact t R g args K r hr
noncomputable def noCuts : Cuts := fun _ _ _ _ => none
theorem noCuts_ok {P : Program} {N : Nat} (c : Code) : CutsOK P N noCuts c := fun _ _ _ _ _ _ _ _ h => by simp [noCuts] at h
noncomputable def fnFits (fn : Func) (n : Nat) : Bool := fn.body.isSome && !(fn.name == "runtime.NumGoroutine") && decide (n ≤ fn.ntmps)
theorem good {P : Program} (hm : P.follows .mixedOrders = true) {l : List (Nat × Entry)} (hT : TblOK P (tbl l)) {f : Nat} {fn : Func} (hf : P.funcs[f]? = some fn) {A : List Vt} (hs : fnFits fn A.length = true)
    {β : Type} (c : Codec β) {F : Args A → Option β} (h : ∀ x, (dfn P (tbl l) noCuts fn c.dec (encA A x)).run = F x) : Good P f A c.enc F := by
  intro x y hy
  simp only [fnFits, Bool.and_eq_true, Bool.not_eq_true', decide_eq_true_eq] at hs
  obtain ⟨⟨h1, h2⟩, h3⟩ := hs
  obtain ⟨b, hb⟩ := Option.isSome_iff_exists.1 h1
  refine fn_ok hm hT hf hb (noCuts_ok b) h2 (by rw [encs_length]; exact h3) (y := y) (by rw [h x]; exact hy) (fun v hv ι w u hu => c.ok v y ι w u hv hu)
mutual
noncomputable def val1 : SV → Value
  | .v x => x
  | .pr p d => .bool (@decide p d)
  | .err t k z => encErr t k z
  | .agg cs => .agg (valL cs).toArray
  | .tup cs => .tuple (valL cs).toArray
  | _ => undef
noncomputable def valL : List SV → List Value
  | [] => []
  | v :: r => val1 v :: valL r
end
theorem p1_val {v : SV} (h : v.p1 = true) {ι : Io} {w : World} {u : Value} : RV ι w v u ↔ u = val1 v := by
  cases v <;> first | exact Iff.rfl | (simp [SV.p1] at h)
theorem p1_valL {ι : Io} {w : World} : ∀ {l : List SV} {us : List Value}, l.all SV.p1 = true → (RVL ι w l us ↔ us = valL l)
  | [], [], _ => by simp [RVL, valL]
  | [], _ :: _, _ => by simp [RVL, valL]
  | _ :: _, [], _ => by simp [RVL, valL]
  | v :: l, u :: us, h => by
    simp only [List.all_cons, Bool.and_eq_true] at h
    simp only [RVL, valL, p1_val h.1, p1_valL h.2, List.cons.injEq]
theorem p2_val {v : SV} (h : v.p2 = true) {ι : Io} {w : World} {u : Value} : RV ι w v u ↔ u = val1 v := by
  cases v <;> try (refine p1_val ?_; exact h)
  case agg cs =>
    constructor
    · rintro ⟨vs, rfl, hl⟩; rw [(p1_valL h).1 hl]; rfl
    · rintro rfl; exact ⟨_, rfl, (p1_valL h).2 rfl⟩
theorem p2_valL {ι : Io} {w : World} : ∀ {l : List SV} {us : List Value}, l.all SV.p2 = true → (RVL ι w l us ↔ us = valL l)
  | [], [], _ => by simp [RVL, valL]
  | [], _ :: _, _ => by simp [RVL, valL]
  | _ :: _, [], _ => by simp [RVL, valL]
  | v :: l, u :: us, h => by
    simp only [List.all_cons, Bool.and_eq_true] at h
    simp only [RVL, valL, p2_val h.1, p2_valL h.2, List.cons.injEq]
theorem plain_val {v : SV} (h : v.plain = true) {ι : Io} {w : World} {u : Value} : RV ι w v u ↔ u = val1 v := by
  cases v <;> try (refine p2_val ?_; exact h)
  case tup cs =>
    constructor
    · rintro ⟨vs, rfl, hl⟩; rw [(p2_valL h).1 hl]; rfl
    · rintro rfl; exact ⟨_, rfl, (p2_valL h).2 rfl⟩
theorem of_calls {P : Program} {f : Nat} {fn : Func} (hf : P.funcs[f]? = some fn) {A : List Vt} (hs : fnFits fn A.length = true) (hA : A.all Vt.plain = true) {β : Type} {enc : β → SV} (hp : ∀ y, (enc y).plain = true) {F : Args A → Option β}
    (h : ∀ x y w, F x = some y → Calls P f (valL (encA A x)).toArray w fun e w' => e = .returned (val1 (enc y)) ∧ Below w.heap.size w w') : Good P f A enc F := by
  intro x y hy vals w ι hι hn hr
  simp only [fnFits, Bool.and_eq_true, Bool.not_eq_true', decide_eq_true_eq] at hs
  obtain ⟨⟨h1, h2⟩, h3⟩ := hs
  obtain ⟨b, hb⟩ := Option.isSome_iff_exists.1 h1
  have hv : vals = valL (encA A x) := (p2_valL (encs_all Vt.plain_enc A x hA)).1 hr
  subst hv
  have hname' : ¬ fn.name = "runtime.NumGoroutine" := by simpa using h2
  refine .inl ⟨by simp [callFunc, hf, hname', hb], (h x y w hy).mono ?_⟩
  rintro e w' ⟨rfl, hbl⟩
  exact ⟨_, rfl, (plain_val (hp y)).2 rfl, hbl⟩
theorem of_wide {P : Program} {f : Nat} {fn : Func} (hf : P.funcs[f]? = some fn) {A : List Vt} (hs : fnFits fn A.length = true) {β : Type} {enc : β → SV} {F : Args A → Option β}
    (h : ∀ x y w ι vals, F x = some y → (∀ b, own ι b → b < w.heap.size) → RVL ι w (encA A x) vals → Calls P f vals.toArray w fun e w' => ∃ u, e = .returned u ∧ RV ι w' (enc y) u ∧ Below w.heap.size w w') : Good P f A enc F := by
  intro x y hy vals w ι hι hn hr
  simp only [fnFits, Bool.and_eq_true, Bool.not_eq_true', decide_eq_true_eq] at hs
  obtain ⟨⟨h1, h2⟩, h3⟩ := hs
  obtain ⟨b, hb⟩ := Option.isSome_iff_exists.1 h1
  have hname' : ¬ fn.name = "runtime.NumGoroutine" := by simpa using h2
  exact .inl ⟨by simp [callFunc, hf, hname', hb], h x y w ι vals hy (fun b k => k.elim (fun ⟨s, n, k⟩ => by rw [hι s] at k; cases k) (hn b)) hr⟩
theorem Good.calls {P : Program} {f : Nat} {fn : Func} (hf : P.funcs[f]? = some fn) {A : List Vt} (hA : A.all Vt.plain = true) {β : Type} {enc : β → SV} (hp : ∀ y, (enc y).plain = true) {F : Args A → Option β} (h : Good P f A enc F)
    (hs : fnFits fn A.length = true) (x : Args A) (y : β) (w : World) (hy : F x = some y) : Calls P f (valL (encA A x)).toArray w fun e w' => e = .returned (val1 (enc y)) ∧ Below w.heap.size w w' := by
  simp only [fnFits, Bool.and_eq_true, Bool.not_eq_true', decide_eq_true_eq] at hs
  obtain ⟨⟨h1, h2⟩, h3⟩ := hs
  obtain ⟨b, hb⟩ := Option.isSome_iff_exists.1 h1
  have hname' : ¬ fn.name = "runtime.NumGoroutine" := by simpa using h2
  rcases h x y hy _ w (noIo fun _ => False) (fun _ => rfl) (fun _ k => k.elim) ((p2_valL (encs_all Vt.plain_enc A x hA)).2 rfl) with ⟨_, h⟩ | ⟨y', h, _⟩
  · refine h.mono ?_
    rintro e w' ⟨u, rfl, hr, hbl⟩
    rw [(plain_val (hp y)).1 hr]; exact ⟨rfl, hbl⟩
  · simp [callFunc, hf, hname', hb] at h
end Go.Proofs.Ythcgeekibomhiaa.Den
