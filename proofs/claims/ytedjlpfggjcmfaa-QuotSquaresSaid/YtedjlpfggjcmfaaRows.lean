/-
  No cell of these rows narrows 'for every input' (looked for: loops, veiled, ifaces, maps, wideKeys, modest, calm, conditions, laid).
  DERIVED. THE GIVEN ROWS OF THIS SEAT. 5 by the template 'for every input the law returns true; each argument reads behind the call as it read before'; 0 by the template 'total and deterministic' (their statements: YtedjlpfggjcmfaaTotals.lean).
  GIVEN WITH THE SEED: the statements are not yours to turn. If you find one false, say at which input.
  Laid BY PROGRAM, IN A SANDBOX (cutbox-rows.mjs): the forced cells as the released guide's own fill.sh prints them over the translation b7cddef89c9a586f… (all of the seat's roots in one cut). By AI agents, Wed Nov 11 2026. No macro, syntax, notation, axiom, sorry.
-/
import Derived.Test.YtedjlpfggjcmfaaChecked
import GoSem.Claim
import GoSem.ClaimJoined
import GoSem.ClaimMapViews
import Derived.JoinedTies
import Derived.KernelRfl
namespace Go.Proofs.Ytedjlpfggjcmfaa
/- THE CELL 'sum', in the pinned program and in every row, IS THE sha256 OF THE DUMP (.gsa) THAT YtedjlpfggjcmfaaProg.lean LOADS. Nothing in Lean hashes anything: it is a label: what it is worth is what the hold of that sum in a sandbox is worth. -/
noncomputable def Try.pinned : Pinned := { name := "ytedjlpfggjcmfaa", sum := "b7cddef89c9a586f330acc12aeb8323c0219f37308eb856bbee778a2f413900d", checked := Try.checked }
namespace Rows
def none {H : Type} : Left H := { results := [], args := [] }

/-- 'tillerlaw07.QuotDivs': WHATEVER THE INPUT: true; the input reads as it did. -/
def quotDivsSpec : ChangeSpec := { name := "quotDivs", fn := fun _ => fun
  | [d1, d2, d3] => { results := [.lit (.bool true)], args := [d1, d2, d3] }
  | _ => none }
def quotDivsRow : OpenClaim := { program := "ytedjlpfggjcmfaa", sum := "b7cddef89c9a586f330acc12aeb8323c0219f37308eb856bbee778a2f413900d", func := "tiller/tillerlaw07.QuotDivs", spec := "quotDivs", inPlace := ["math/bits.Sub64", "math/bits.Add64"], apart := false }
def QuotDivsSaid : Prop := quotDivsRow.holds Try.pinned (OpenSpec.ofChange quotDivsSpec)

/-- ITS FALSE NEIGHBOUR: 'it returns false'. Refute it at one input. -/
def quotDivsWrong : ChangeSpec := { name := "quotDivs", fn := fun _ => fun
  | [d1, d2, d3] => { results := [.lit (.bool false)], args := [d1, d2, d3] }
  | _ => none }
def QuotDivsWrongFalsely : Prop := quotDivsRow.holds Try.pinned (OpenSpec.ofChange quotDivsWrong)

/-- 'tillerlaw07.QuotRoots': WHATEVER THE INPUT: true; the input reads as it did. -/
def quotRootsSpec : ChangeSpec := { name := "quotRoots", fn := fun _ => fun
  | [d1, d2] => { results := [.lit (.bool true)], args := [d1, d2] }
  | _ => none }
def quotRootsRow : OpenClaim := { program := "ytedjlpfggjcmfaa", sum := "b7cddef89c9a586f330acc12aeb8323c0219f37308eb856bbee778a2f413900d", func := "tiller/tillerlaw07.QuotRoots", spec := "quotRoots", inPlace := ["math/bits.Add64", "math/bits.Sub64"], apart := false }
def QuotRootsSaid : Prop := quotRootsRow.holds Try.pinned (OpenSpec.ofChange quotRootsSpec)

/-- ITS FALSE NEIGHBOUR: 'it returns false'. Refute it at one input. -/
def quotRootsWrong : ChangeSpec := { name := "quotRoots", fn := fun _ => fun
  | [d1, d2] => { results := [.lit (.bool false)], args := [d1, d2] }
  | _ => none }
def QuotRootsWrongFalsely : Prop := quotRootsRow.holds Try.pinned (OpenSpec.ofChange quotRootsWrong)

/-- 'tillerlaw07.QuotBack': WHATEVER THE INPUT: true; the input reads as it did. -/
def quotBackSpec : ChangeSpec := { name := "quotBack", fn := fun _ => fun
  | [d1, d2, d3] => { results := [.lit (.bool true)], args := [d1, d2, d3] }
  | _ => none }
def quotBackRow : OpenClaim := { program := "ytedjlpfggjcmfaa", sum := "b7cddef89c9a586f330acc12aeb8323c0219f37308eb856bbee778a2f413900d", func := "tiller/tillerlaw07.QuotBack", spec := "quotBack", inPlace := ["math/bits.Sub64", "math/bits.Add64"], apart := false }
def QuotBackSaid : Prop := quotBackRow.holds Try.pinned (OpenSpec.ofChange quotBackSpec)

/-- ITS FALSE NEIGHBOUR: 'it returns false'. Refute it at one input. -/
def quotBackWrong : ChangeSpec := { name := "quotBack", fn := fun _ => fun
  | [d1, d2, d3] => { results := [.lit (.bool false)], args := [d1, d2, d3] }
  | _ => none }
def QuotBackWrongFalsely : Prop := quotBackRow.holds Try.pinned (OpenSpec.ofChange quotBackWrong)

/-- 'tillerlaw07.QuotSides': WHATEVER THE INPUT: true; the input reads as it did. -/
def quotSidesSpec : ChangeSpec := { name := "quotSides", fn := fun _ => fun
  | [d1, d2, d3] => { results := [.lit (.bool true)], args := [d1, d2, d3] }
  | _ => none }
def quotSidesRow : OpenClaim := { program := "ytedjlpfggjcmfaa", sum := "b7cddef89c9a586f330acc12aeb8323c0219f37308eb856bbee778a2f413900d", func := "tiller/tillerlaw07.QuotSides", spec := "quotSides", inPlace := ["math/bits.Sub64", "math/bits.Add64"], apart := false }
def QuotSidesSaid : Prop := quotSidesRow.holds Try.pinned (OpenSpec.ofChange quotSidesSpec)

/-- ITS FALSE NEIGHBOUR: 'it returns false'. Refute it at one input. -/
def quotSidesWrong : ChangeSpec := { name := "quotSides", fn := fun _ => fun
  | [d1, d2, d3] => { results := [.lit (.bool false)], args := [d1, d2, d3] }
  | _ => none }
def QuotSidesWrongFalsely : Prop := quotSidesRow.holds Try.pinned (OpenSpec.ofChange quotSidesWrong)

/-- 'tillerlaw07.QuotSquares': WHATEVER THE INPUT: true; the input reads as it did. -/
def quotSquaresSpec : ChangeSpec := { name := "quotSquares", fn := fun _ => fun
  | [d1, d2] => { results := [.lit (.bool true)], args := [d1, d2] }
  | _ => none }
def quotSquaresRow : OpenClaim := { program := "ytedjlpfggjcmfaa", sum := "b7cddef89c9a586f330acc12aeb8323c0219f37308eb856bbee778a2f413900d", func := "tiller/tillerlaw07.QuotSquares", spec := "quotSquares", inPlace := ["math/bits.Add64", "math/bits.Sub64"], apart := false }
def QuotSquaresSaid : Prop := quotSquaresRow.holds Try.pinned (OpenSpec.ofChange quotSquaresSpec)

/-- ITS FALSE NEIGHBOUR: 'it returns false'. Refute it at one input. -/
def quotSquaresWrong : ChangeSpec := { name := "quotSquares", fn := fun _ => fun
  | [d1, d2] => { results := [.lit (.bool false)], args := [d1, d2] }
  | _ => none }
def QuotSquaresWrongFalsely : Prop := quotSquaresRow.holds Try.pinned (OpenSpec.ofChange quotSquaresWrong)

/- THE SECOND FORM. 'bulk': how many values and letters a reading holds, each counted each time it is reached (what is shared counts as often as it is met; a slice's spare places count too). A statement '..UptoSaid' is the law's where the arguments, and the package variables that the reading takes, are together of bulk at most 1048576: NARROWER than '..Said'. Prove '..Said' where nothing that the law and all that it calls make is longer than what came in: it says more and counts as full. Else prove '..UptoSaid'. A law counts once. -/
mutual
def uptoBulk {H : Type} : DataW H → Nat
  | .lit (.string bytes) => bytes.length + 1
  | .lit _ => 1
  | .nil => 1
  | .ptr d => uptoBulk d + 1
  | .slice elems spare => uptoBulkAll elems + uptoBulkAll spare + 1
  | .agg parts => uptoBulkAll parts + 1
  | .iface _ d => uptoBulk d + 1
  | .map entries => uptoBulkEntries entries + 1
  | .held _ => 1
def uptoBulkAll {H : Type} : List (DataW H) → Nat
  | [] => 0
  | d :: r => uptoBulk d + uptoBulkAll r
def uptoBulkEntries {H : Type} : List (Lit × DataW H) → Nat
  | [] => 0
  | x :: r => uptoBulkEntry x + uptoBulkEntries r
def uptoBulkEntry {H : Type} : Lit × DataW H → Nat
  | (.string bytes, d) => bytes.length + uptoBulk d + 1
  | (_, d) => uptoBulk d + 1
 end
def uptoSmall : (H : Type) → List (DataW H) → Bool := fun _ ds => decide (uptoBulkAll ds ≤ 1048576)
def OpenSpec.upto (s : _root_.Go.ChangeSpec) : _root_.Go.OpenSpec := { _root_.Go.OpenSpec.ofChange s with cond := some uptoSmall }

/-- 'tillerlaw07.QuotDivs', WHERE WHAT IT READS IS OF BULK AT MOST 1048576: true; the input reads as it did. -/
def quotDivsUptoRow : OpenClaim := { program := "ytedjlpfggjcmfaa", sum := "b7cddef89c9a586f330acc12aeb8323c0219f37308eb856bbee778a2f413900d", func := "tiller/tillerlaw07.QuotDivs", spec := "quotDivs", inPlace := ["math/bits.Sub64", "math/bits.Add64"], apart := false, narrowed := true }
def QuotDivsUptoSaid : Prop := quotDivsUptoRow.holds Try.pinned (OpenSpec.upto quotDivsSpec)

/-- 'tillerlaw07.QuotRoots', WHERE WHAT IT READS IS OF BULK AT MOST 1048576: true; the input reads as it did. -/
def quotRootsUptoRow : OpenClaim := { program := "ytedjlpfggjcmfaa", sum := "b7cddef89c9a586f330acc12aeb8323c0219f37308eb856bbee778a2f413900d", func := "tiller/tillerlaw07.QuotRoots", spec := "quotRoots", inPlace := ["math/bits.Add64", "math/bits.Sub64"], apart := false, narrowed := true }
def QuotRootsUptoSaid : Prop := quotRootsUptoRow.holds Try.pinned (OpenSpec.upto quotRootsSpec)

/-- 'tillerlaw07.QuotBack', WHERE WHAT IT READS IS OF BULK AT MOST 1048576: true; the input reads as it did. -/
def quotBackUptoRow : OpenClaim := { program := "ytedjlpfggjcmfaa", sum := "b7cddef89c9a586f330acc12aeb8323c0219f37308eb856bbee778a2f413900d", func := "tiller/tillerlaw07.QuotBack", spec := "quotBack", inPlace := ["math/bits.Sub64", "math/bits.Add64"], apart := false, narrowed := true }
def QuotBackUptoSaid : Prop := quotBackUptoRow.holds Try.pinned (OpenSpec.upto quotBackSpec)

/-- 'tillerlaw07.QuotSides', WHERE WHAT IT READS IS OF BULK AT MOST 1048576: true; the input reads as it did. -/
def quotSidesUptoRow : OpenClaim := { program := "ytedjlpfggjcmfaa", sum := "b7cddef89c9a586f330acc12aeb8323c0219f37308eb856bbee778a2f413900d", func := "tiller/tillerlaw07.QuotSides", spec := "quotSides", inPlace := ["math/bits.Sub64", "math/bits.Add64"], apart := false, narrowed := true }
def QuotSidesUptoSaid : Prop := quotSidesUptoRow.holds Try.pinned (OpenSpec.upto quotSidesSpec)

/-- 'tillerlaw07.QuotSquares', WHERE WHAT IT READS IS OF BULK AT MOST 1048576: true; the input reads as it did. -/
def quotSquaresUptoRow : OpenClaim := { program := "ytedjlpfggjcmfaa", sum := "b7cddef89c9a586f330acc12aeb8323c0219f37308eb856bbee778a2f413900d", func := "tiller/tillerlaw07.QuotSquares", spec := "quotSquares", inPlace := ["math/bits.Add64", "math/bits.Sub64"], apart := false, narrowed := true }
def QuotSquaresUptoSaid : Prop := quotSquaresUptoRow.holds Try.pinned (OpenSpec.upto quotSquaresSpec)

end Rows
end Go.Proofs.Ytedjlpfggjcmfaa
