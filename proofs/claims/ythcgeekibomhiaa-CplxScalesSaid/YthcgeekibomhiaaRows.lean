/-
  No cell of these rows narrows 'for every input' (looked for: loops, veiled, ifaces, maps, wideKeys, modest, calm, conditions, laid).
  DERIVED. THE GIVEN ROWS OF THIS SEAT. 5 by the template 'for every input the law returns true; each argument reads behind the call as it read before'; 0 by the template 'total and deterministic' (their statements: YthcgeekibomhiaaTotals.lean).
  GIVEN WITH THE SEED: the statements are not yours to turn. If you find one false, say at which input.
  Laid BY PROGRAM, IN A SANDBOX (cutbox-rows.mjs): the forced cells as the released guide's own fill.sh prints them over the translation 3511f3687015772b… (all of the seat's roots in one cut). By AI agents, Wed Nov 11 2026. No macro, syntax, notation, axiom, sorry.
-/
import Derived.Test.YthcgeekibomhiaaChecked
import GoSem.Claim
import GoSem.ClaimJoined
import GoSem.ClaimMapViews
import Derived.JoinedTies
import Derived.KernelRfl
namespace Go.Proofs.Ythcgeekibomhiaa
/- THE CELL 'sum', in the pinned program and in every row, IS THE sha256 OF THE DUMP (.gsa) THAT YthcgeekibomhiaaProg.lean LOADS. Nothing in Lean hashes anything: it is a label: what it is worth is what the hold of that sum in a sandbox is worth. -/
noncomputable def Try.pinned : Pinned := { name := "ythcgeekibomhiaa", sum := "3511f3687015772b97f4bce7376dd481c9187bcaf747c5948c51d89a9dda9adf", checked := Try.checked }
namespace Rows
def none {H : Type} : Left H := { results := [], args := [] }

/-- 'tillerlaw17.CplxMuls': WHATEVER THE INPUT: true; the input reads as it did. -/
def cplxMulsSpec : ChangeSpec := { name := "cplxMuls", fn := fun _ => fun
  | [d1, d2] => { results := [.lit (.bool true)], args := [d1, d2] }
  | _ => none }
def cplxMulsRow : OpenClaim := { program := "ythcgeekibomhiaa", sum := "3511f3687015772b97f4bce7376dd481c9187bcaf747c5948c51d89a9dda9adf", func := "tiller/tillerlaw17.CplxMuls", spec := "cplxMuls", inPlace := ["math/bits.Add64", "math/bits.Sub64"], apart := false }
def CplxMulsSaid : Prop := cplxMulsRow.holds Try.pinned (OpenSpec.ofChange cplxMulsSpec)

/-- ITS FALSE NEIGHBOUR: 'it returns false'. Refute it at one input. -/
def cplxMulsWrong : ChangeSpec := { name := "cplxMuls", fn := fun _ => fun
  | [d1, d2] => { results := [.lit (.bool false)], args := [d1, d2] }
  | _ => none }
def CplxMulsWrongFalsely : Prop := cplxMulsRow.holds Try.pinned (OpenSpec.ofChange cplxMulsWrong)

/-- 'tillerlaw17.CplxTurns': WHATEVER THE INPUT: true; the input reads as it did. -/
def cplxTurnsSpec : ChangeSpec := { name := "cplxTurns", fn := fun _ => fun
  | [d1, d2] => { results := [.lit (.bool true)], args := [d1, d2] }
  | _ => none }
def cplxTurnsRow : OpenClaim := { program := "ythcgeekibomhiaa", sum := "3511f3687015772b97f4bce7376dd481c9187bcaf747c5948c51d89a9dda9adf", func := "tiller/tillerlaw17.CplxTurns", spec := "cplxTurns", inPlace := ["math/bits.Add64", "math/bits.Sub64"], apart := false }
def CplxTurnsSaid : Prop := cplxTurnsRow.holds Try.pinned (OpenSpec.ofChange cplxTurnsSpec)

/-- ITS FALSE NEIGHBOUR: 'it returns false'. Refute it at one input. -/
def cplxTurnsWrong : ChangeSpec := { name := "cplxTurns", fn := fun _ => fun
  | [d1, d2] => { results := [.lit (.bool false)], args := [d1, d2] }
  | _ => none }
def CplxTurnsWrongFalsely : Prop := cplxTurnsRow.holds Try.pinned (OpenSpec.ofChange cplxTurnsWrong)

/-- 'tillerlaw17.CplxSums': WHATEVER THE INPUT: true; the input reads as it did. -/
def cplxSumsSpec : ChangeSpec := { name := "cplxSums", fn := fun _ => fun
  | [d1, d2] => { results := [.lit (.bool true)], args := [d1, d2] }
  | _ => none }
def cplxSumsRow : OpenClaim := { program := "ythcgeekibomhiaa", sum := "3511f3687015772b97f4bce7376dd481c9187bcaf747c5948c51d89a9dda9adf", func := "tiller/tillerlaw17.CplxSums", spec := "cplxSums", inPlace := ["math/bits.Add64", "math/bits.Sub64"], unfollowed := true, recurses := true, apart := false }
def CplxSumsSaid : Prop := cplxSumsRow.holds Try.pinned (OpenSpec.ofChange cplxSumsSpec)

/-- ITS FALSE NEIGHBOUR: 'it returns false'. Refute it at one input. -/
def cplxSumsWrong : ChangeSpec := { name := "cplxSums", fn := fun _ => fun
  | [d1, d2] => { results := [.lit (.bool false)], args := [d1, d2] }
  | _ => none }
def CplxSumsWrongFalsely : Prop := cplxSumsRow.holds Try.pinned (OpenSpec.ofChange cplxSumsWrong)

/-- 'tillerlaw17.CplxOnes': WHATEVER THE INPUT: true; the input reads as it did. -/
def cplxOnesSpec : ChangeSpec := { name := "cplxOnes", fn := fun _ => fun
  | [d] => { results := [.lit (.bool true)], args := [d] }
  | _ => none }
def cplxOnesRow : OpenClaim := { program := "ythcgeekibomhiaa", sum := "3511f3687015772b97f4bce7376dd481c9187bcaf747c5948c51d89a9dda9adf", func := "tiller/tillerlaw17.CplxOnes", spec := "cplxOnes", inPlace := ["math/bits.Add64", "math/bits.Sub64"], unfollowed := true, recurses := true, apart := false }
def CplxOnesSaid : Prop := cplxOnesRow.holds Try.pinned (OpenSpec.ofChange cplxOnesSpec)

/-- ITS FALSE NEIGHBOUR: 'it returns false'. Refute it at one input. -/
def cplxOnesWrong : ChangeSpec := { name := "cplxOnes", fn := fun _ => fun
  | [d] => { results := [.lit (.bool false)], args := [d] }
  | _ => none }
def CplxOnesWrongFalsely : Prop := cplxOnesRow.holds Try.pinned (OpenSpec.ofChange cplxOnesWrong)

/-- 'tillerlaw17.CplxScales': WHATEVER THE INPUT: true; the input reads as it did. -/
def cplxScalesSpec : ChangeSpec := { name := "cplxScales", fn := fun _ => fun
  | [d1, d2, d3] => { results := [.lit (.bool true)], args := [d1, d2, d3] }
  | _ => none }
def cplxScalesRow : OpenClaim := { program := "ythcgeekibomhiaa", sum := "3511f3687015772b97f4bce7376dd481c9187bcaf747c5948c51d89a9dda9adf", func := "tiller/tillerlaw17.CplxScales", spec := "cplxScales", inPlace := ["math/bits.Add64", "math/bits.Sub64"], unfollowed := true, recurses := true, apart := false }
def CplxScalesSaid : Prop := cplxScalesRow.holds Try.pinned (OpenSpec.ofChange cplxScalesSpec)

/-- ITS FALSE NEIGHBOUR: 'it returns false'. Refute it at one input. -/
def cplxScalesWrong : ChangeSpec := { name := "cplxScales", fn := fun _ => fun
  | [d1, d2, d3] => { results := [.lit (.bool false)], args := [d1, d2, d3] }
  | _ => none }
def CplxScalesWrongFalsely : Prop := cplxScalesRow.holds Try.pinned (OpenSpec.ofChange cplxScalesWrong)

/- THE SECOND FORM. 'bulk': how many values and letters a reading holds, each counted each time it is reached (what is shared counts as often as it is met; a slice's spare places count too). A statement '..UptoSaid' is the law's where the arguments, and the package variables that the reading takes, are together of bulk at most 1048576: NARROWER than '..Said'. Prove '..Said' where nothing that the law and all that it calls make is longer than what came in: it says more and counts as full. Else prove '..UptoSaid'. A law counts once. -/
mutual
def uptoBulk {H : Type} : DataW H → Nat
  | .lit (.string bytes) => bytes.length + 1
  | .lit _ => 1
  | .nil => 1
  | .ptr d => uptoBulk d + 1
  | .slice elems spare => uptoBulkAll elems + uptoBulkAll spare + 1
  | .agg parts => uptoBulkAll parts + 1
  | .iface _ d => uptoBulk d + 1
  | .map entries => uptoBulkEntries entries + 1
  | .held _ => 1
def uptoBulkAll {H : Type} : List (DataW H) → Nat
  | [] => 0
  | d :: r => uptoBulk d + uptoBulkAll r
def uptoBulkEntries {H : Type} : List (Lit × DataW H) → Nat
  | [] => 0
  | x :: r => uptoBulkEntry x + uptoBulkEntries r
def uptoBulkEntry {H : Type} : Lit × DataW H → Nat
  | (.string bytes, d) => bytes.length + uptoBulk d + 1
  | (_, d) => uptoBulk d + 1
 end
def uptoSmall : (H : Type) → List (DataW H) → Bool := fun _ ds => decide (uptoBulkAll ds ≤ 1048576)
def OpenSpec.upto (s : _root_.Go.ChangeSpec) : _root_.Go.OpenSpec := { _root_.Go.OpenSpec.ofChange s with cond := some uptoSmall }

/-- 'tillerlaw17.CplxMuls', WHERE WHAT IT READS IS OF BULK AT MOST 1048576: true; the input reads as it did. -/
def cplxMulsUptoRow : OpenClaim := { program := "ythcgeekibomhiaa", sum := "3511f3687015772b97f4bce7376dd481c9187bcaf747c5948c51d89a9dda9adf", func := "tiller/tillerlaw17.CplxMuls", spec := "cplxMuls", inPlace := ["math/bits.Add64", "math/bits.Sub64"], apart := false, narrowed := true }
def CplxMulsUptoSaid : Prop := cplxMulsUptoRow.holds Try.pinned (OpenSpec.upto cplxMulsSpec)

/-- 'tillerlaw17.CplxTurns', WHERE WHAT IT READS IS OF BULK AT MOST 1048576: true; the input reads as it did. -/
def cplxTurnsUptoRow : OpenClaim := { program := "ythcgeekibomhiaa", sum := "3511f3687015772b97f4bce7376dd481c9187bcaf747c5948c51d89a9dda9adf", func := "tiller/tillerlaw17.CplxTurns", spec := "cplxTurns", inPlace := ["math/bits.Add64", "math/bits.Sub64"], apart := false, narrowed := true }
def CplxTurnsUptoSaid : Prop := cplxTurnsUptoRow.holds Try.pinned (OpenSpec.upto cplxTurnsSpec)

/-- 'tillerlaw17.CplxSums', WHERE WHAT IT READS IS OF BULK AT MOST 1048576: true; the input reads as it did. -/
def cplxSumsUptoRow : OpenClaim := { program := "ythcgeekibomhiaa", sum := "3511f3687015772b97f4bce7376dd481c9187bcaf747c5948c51d89a9dda9adf", func := "tiller/tillerlaw17.CplxSums", spec := "cplxSums", inPlace := ["math/bits.Add64", "math/bits.Sub64"], unfollowed := true, recurses := true, apart := false, narrowed := true }
def CplxSumsUptoSaid : Prop := cplxSumsUptoRow.holds Try.pinned (OpenSpec.upto cplxSumsSpec)

/-- 'tillerlaw17.CplxOnes', WHERE WHAT IT READS IS OF BULK AT MOST 1048576: true; the input reads as it did. -/
def cplxOnesUptoRow : OpenClaim := { program := "ythcgeekibomhiaa", sum := "3511f3687015772b97f4bce7376dd481c9187bcaf747c5948c51d89a9dda9adf", func := "tiller/tillerlaw17.CplxOnes", spec := "cplxOnes", inPlace := ["math/bits.Add64", "math/bits.Sub64"], unfollowed := true, recurses := true, apart := false, narrowed := true }
def CplxOnesUptoSaid : Prop := cplxOnesUptoRow.holds Try.pinned (OpenSpec.upto cplxOnesSpec)

/-- 'tillerlaw17.CplxScales', WHERE WHAT IT READS IS OF BULK AT MOST 1048576: true; the input reads as it did. -/
def cplxScalesUptoRow : OpenClaim := { program := "ythcgeekibomhiaa", sum := "3511f3687015772b97f4bce7376dd481c9187bcaf747c5948c51d89a9dda9adf", func := "tiller/tillerlaw17.CplxScales", spec := "cplxScales", inPlace := ["math/bits.Add64", "math/bits.Sub64"], unfollowed := true, recurses := true, apart := false, narrowed := true }
def CplxScalesUptoSaid : Prop := cplxScalesUptoRow.holds Try.pinned (OpenSpec.upto cplxScalesSpec)

end Rows
end Go.Proofs.Ythcgeekibomhiaa
