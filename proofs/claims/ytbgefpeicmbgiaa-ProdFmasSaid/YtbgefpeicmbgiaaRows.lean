/-
  No cell of these rows narrows 'for every input' (looked for: loops, veiled, ifaces, maps, wideKeys, modest, calm, conditions, laid).
  DERIVED. THE GIVEN ROWS OF THIS SEAT. 10 by the template 'for every input the law returns true; each argument reads behind the call as it read before'; 0 by the template 'total and deterministic' (their statements: YtbgefpeicmbgiaaTotals.lean).
  GIVEN WITH THE SEED: the statements are not yours to turn. If you find one false, say at which input.
  Laid BY PROGRAM, IN A SANDBOX (cutbox-rows.mjs): the forced cells as the released guide's own fill.sh prints them over the translation 49a9afbfce2243e9… (all of the seat's roots in one cut). By AI agents, Wed Nov 11 2026. No macro, syntax, notation, axiom, sorry.
-/
import Derived.Test.YtbgefpeicmbgiaaChecked
import GoSem.Claim
import GoSem.ClaimJoined
import GoSem.ClaimMapViews
import Derived.JoinedTies
import Derived.KernelRfl
namespace Go.Proofs.Ytbgefpeicmbgiaa
/- THE CELL 'sum', in the pinned program and in every row, IS THE sha256 OF THE DUMP (.gsa) THAT YtbgefpeicmbgiaaProg.lean LOADS. Nothing in Lean hashes anything: it is a label: what it is worth is what the hold of that sum in a sandbox is worth. -/
noncomputable def Try.pinned : Pinned := { name := "ytbgefpeicmbgiaa", sum := "49a9afbfce2243e9c7eed420f5bbfab8563970e45063b801f31714107595a2e8", checked := Try.checked }
namespace Rows
def none {H : Type} : Left H := { results := [], args := [] }

/-- 'tillerlaw11.IntsOf': WHATEVER THE INPUT: true; the input reads as it did. -/
def intsOfSpec : ChangeSpec := { name := "intsOf", fn := fun _ => fun
  | [d1, d2, d3] => { results := [.lit (.bool true)], args := [d1, d2, d3] }
  | _ => none }
def intsOfRow : OpenClaim := { program := "ytbgefpeicmbgiaa", sum := "49a9afbfce2243e9c7eed420f5bbfab8563970e45063b801f31714107595a2e8", func := "tiller/tillerlaw11.IntsOf", spec := "intsOf", inPlace := ["math/bits.Add64", "math/bits.Sub64"], apart := false }
def IntsOfSaid : Prop := intsOfRow.holds Try.pinned (OpenSpec.ofChange intsOfSpec)

/-- ITS FALSE NEIGHBOUR: 'it returns false'. Refute it at one input. -/
def intsOfWrong : ChangeSpec := { name := "intsOf", fn := fun _ => fun
  | [d1, d2, d3] => { results := [.lit (.bool false)], args := [d1, d2, d3] }
  | _ => none }
def IntsOfWrongFalsely : Prop := intsOfRow.holds Try.pinned (OpenSpec.ofChange intsOfWrong)

/-- 'tillerlaw11.IntsTo': WHATEVER THE INPUT: true; the input reads as it did. -/
def intsToSpec : ChangeSpec := { name := "intsTo", fn := fun _ => fun
  | [d1, d2, d3] => { results := [.lit (.bool true)], args := [d1, d2, d3] }
  | _ => none }
def intsToRow : OpenClaim := { program := "ytbgefpeicmbgiaa", sum := "49a9afbfce2243e9c7eed420f5bbfab8563970e45063b801f31714107595a2e8", func := "tiller/tillerlaw11.IntsTo", spec := "intsTo", inPlace := ["math/bits.Add64", "math/bits.Sub64"], apart := false }
def IntsToSaid : Prop := intsToRow.holds Try.pinned (OpenSpec.ofChange intsToSpec)

/-- ITS FALSE NEIGHBOUR: 'it returns false'. Refute it at one input. -/
def intsToWrong : ChangeSpec := { name := "intsTo", fn := fun _ => fun
  | [d1, d2, d3] => { results := [.lit (.bool false)], args := [d1, d2, d3] }
  | _ => none }
def IntsToWrongFalsely : Prop := intsToRow.holds Try.pinned (OpenSpec.ofChange intsToWrong)

/-- 'tillerlaw11.IntsHalves': WHATEVER THE INPUT: true; the input reads as it did. -/
def intsHalvesSpec : ChangeSpec := { name := "intsHalves", fn := fun _ => fun
  | [d1, d2, d3] => { results := [.lit (.bool true)], args := [d1, d2, d3] }
  | _ => none }
def intsHalvesRow : OpenClaim := { program := "ytbgefpeicmbgiaa", sum := "49a9afbfce2243e9c7eed420f5bbfab8563970e45063b801f31714107595a2e8", func := "tiller/tillerlaw11.IntsHalves", spec := "intsHalves", inPlace := ["math/bits.Add64", "math/bits.Sub64"], apart := false }
def IntsHalvesSaid : Prop := intsHalvesRow.holds Try.pinned (OpenSpec.ofChange intsHalvesSpec)

/-- ITS FALSE NEIGHBOUR: 'it returns false'. Refute it at one input. -/
def intsHalvesWrong : ChangeSpec := { name := "intsHalves", fn := fun _ => fun
  | [d1, d2, d3] => { results := [.lit (.bool false)], args := [d1, d2, d3] }
  | _ => none }
def IntsHalvesWrongFalsely : Prop := intsHalvesRow.holds Try.pinned (OpenSpec.ofChange intsHalvesWrong)

/-- 'tillerlaw11.IntsBack': WHATEVER THE INPUT: true; the input reads as it did. -/
def intsBackSpec : ChangeSpec := { name := "intsBack", fn := fun _ => fun
  | [d1, d2] => { results := [.lit (.bool true)], args := [d1, d2] }
  | _ => none }
def intsBackRow : OpenClaim := { program := "ytbgefpeicmbgiaa", sum := "49a9afbfce2243e9c7eed420f5bbfab8563970e45063b801f31714107595a2e8", func := "tiller/tillerlaw11.IntsBack", spec := "intsBack", inPlace := ["math/bits.Add64", "math/bits.Sub64"], apart := false }
def IntsBackSaid : Prop := intsBackRow.holds Try.pinned (OpenSpec.ofChange intsBackSpec)

/-- ITS FALSE NEIGHBOUR: 'it returns false'. Refute it at one input. -/
def intsBackWrong : ChangeSpec := { name := "intsBack", fn := fun _ => fun
  | [d1, d2] => { results := [.lit (.bool false)], args := [d1, d2] }
  | _ => none }
def IntsBackWrongFalsely : Prop := intsBackRow.holds Try.pinned (OpenSpec.ofChange intsBackWrong)

/-- 'tillerlaw11.IntsHalfBack': WHATEVER THE INPUT: true; the input reads as it did. -/
def intsHalfBackSpec : ChangeSpec := { name := "intsHalfBack", fn := fun _ => fun
  | [d1, d2] => { results := [.lit (.bool true)], args := [d1, d2] }
  | _ => none }
def intsHalfBackRow : OpenClaim := { program := "ytbgefpeicmbgiaa", sum := "49a9afbfce2243e9c7eed420f5bbfab8563970e45063b801f31714107595a2e8", func := "tiller/tillerlaw11.IntsHalfBack", spec := "intsHalfBack", inPlace := ["math/bits.Add64", "math/bits.Sub64"], apart := false }
def IntsHalfBackSaid : Prop := intsHalfBackRow.holds Try.pinned (OpenSpec.ofChange intsHalfBackSpec)

/-- ITS FALSE NEIGHBOUR: 'it returns false'. Refute it at one input. -/
def intsHalfBackWrong : ChangeSpec := { name := "intsHalfBack", fn := fun _ => fun
  | [d1, d2] => { results := [.lit (.bool false)], args := [d1, d2] }
  | _ => none }
def IntsHalfBackWrongFalsely : Prop := intsHalfBackRow.holds Try.pinned (OpenSpec.ofChange intsHalfBackWrong)

/-- 'tillerlaw06.ProdFmas': WHATEVER THE INPUT: true; the input reads as it did. -/
def prodFmasSpec : ChangeSpec := { name := "prodFmas", fn := fun _ => fun
  | [d1, d2] => { results := [.lit (.bool true)], args := [d1, d2] }
  | _ => none }
def prodFmasRow : OpenClaim := { program := "ytbgefpeicmbgiaa", sum := "49a9afbfce2243e9c7eed420f5bbfab8563970e45063b801f31714107595a2e8", func := "tiller/tillerlaw06.ProdFmas", spec := "prodFmas", inPlace := ["math/bits.Add64", "math/bits.Sub64"], apart := false }
def ProdFmasSaid : Prop := prodFmasRow.holds Try.pinned (OpenSpec.ofChange prodFmasSpec)

/-- ITS FALSE NEIGHBOUR: 'it returns false'. Refute it at one input. -/
def prodFmasWrong : ChangeSpec := { name := "prodFmas", fn := fun _ => fun
  | [d1, d2] => { results := [.lit (.bool false)], args := [d1, d2] }
  | _ => none }
def ProdFmasWrongFalsely : Prop := prodFmasRow.holds Try.pinned (OpenSpec.ofChange prodFmasWrong)

/-- 'tillerlaw06.ProdMuls': WHATEVER THE INPUT: true; the input reads as it did. -/
def prodMulsSpec : ChangeSpec := { name := "prodMuls", fn := fun _ => fun
  | [d1, d2, d3] => { results := [.lit (.bool true)], args := [d1, d2, d3] }
  | _ => none }
def prodMulsRow : OpenClaim := { program := "ytbgefpeicmbgiaa", sum := "49a9afbfce2243e9c7eed420f5bbfab8563970e45063b801f31714107595a2e8", func := "tiller/tillerlaw06.ProdMuls", spec := "prodMuls", inPlace := ["math/bits.Add64", "math/bits.Sub64"], apart := false }
def ProdMulsSaid : Prop := prodMulsRow.holds Try.pinned (OpenSpec.ofChange prodMulsSpec)

/-- ITS FALSE NEIGHBOUR: 'it returns false'. Refute it at one input. -/
def prodMulsWrong : ChangeSpec := { name := "prodMuls", fn := fun _ => fun
  | [d1, d2, d3] => { results := [.lit (.bool false)], args := [d1, d2, d3] }
  | _ => none }
def ProdMulsWrongFalsely : Prop := prodMulsRow.holds Try.pinned (OpenSpec.ofChange prodMulsWrong)

/-- 'tillerlaw06.ProdBack': WHATEVER THE INPUT: true; the input reads as it did. -/
def prodBackSpec : ChangeSpec := { name := "prodBack", fn := fun _ => fun
  | [d1, d2, d3] => { results := [.lit (.bool true)], args := [d1, d2, d3] }
  | _ => none }
def prodBackRow : OpenClaim := { program := "ytbgefpeicmbgiaa", sum := "49a9afbfce2243e9c7eed420f5bbfab8563970e45063b801f31714107595a2e8", func := "tiller/tillerlaw06.ProdBack", spec := "prodBack", inPlace := ["math/bits.Add64", "math/bits.Sub64"], apart := false }
def ProdBackSaid : Prop := prodBackRow.holds Try.pinned (OpenSpec.ofChange prodBackSpec)

/-- ITS FALSE NEIGHBOUR: 'it returns false'. Refute it at one input. -/
def prodBackWrong : ChangeSpec := { name := "prodBack", fn := fun _ => fun
  | [d1, d2, d3] => { results := [.lit (.bool false)], args := [d1, d2, d3] }
  | _ => none }
def ProdBackWrongFalsely : Prop := prodBackRow.holds Try.pinned (OpenSpec.ofChange prodBackWrong)

/-- 'tillerlaw06.ProdRest': WHATEVER THE INPUT: true; the input reads as it did. -/
def prodRestSpec : ChangeSpec := { name := "prodRest", fn := fun _ => fun
  | [d1, d2] => { results := [.lit (.bool true)], args := [d1, d2] }
  | _ => none }
def prodRestRow : OpenClaim := { program := "ytbgefpeicmbgiaa", sum := "49a9afbfce2243e9c7eed420f5bbfab8563970e45063b801f31714107595a2e8", func := "tiller/tillerlaw06.ProdRest", spec := "prodRest", inPlace := ["math/bits.Add64", "math/bits.Sub64"], apart := false }
def ProdRestSaid : Prop := prodRestRow.holds Try.pinned (OpenSpec.ofChange prodRestSpec)

/-- ITS FALSE NEIGHBOUR: 'it returns false'. Refute it at one input. -/
def prodRestWrong : ChangeSpec := { name := "prodRest", fn := fun _ => fun
  | [d1, d2] => { results := [.lit (.bool false)], args := [d1, d2] }
  | _ => none }
def ProdRestWrongFalsely : Prop := prodRestRow.holds Try.pinned (OpenSpec.ofChange prodRestWrong)

/-- 'tillerlaw06.ProdSigns': WHATEVER THE INPUT: true; the input reads as it did. -/
def prodSignsSpec : ChangeSpec := { name := "prodSigns", fn := fun _ => fun
  | [d1, d2, d3] => { results := [.lit (.bool true)], args := [d1, d2, d3] }
  | _ => none }
def prodSignsRow : OpenClaim := { program := "ytbgefpeicmbgiaa", sum := "49a9afbfce2243e9c7eed420f5bbfab8563970e45063b801f31714107595a2e8", func := "tiller/tillerlaw06.ProdSigns", spec := "prodSigns", inPlace := ["math/bits.Add64", "math/bits.Sub64"], apart := false }
def ProdSignsSaid : Prop := prodSignsRow.holds Try.pinned (OpenSpec.ofChange prodSignsSpec)

/-- ITS FALSE NEIGHBOUR: 'it returns false'. Refute it at one input. -/
def prodSignsWrong : ChangeSpec := { name := "prodSigns", fn := fun _ => fun
  | [d1, d2, d3] => { results := [.lit (.bool false)], args := [d1, d2, d3] }
  | _ => none }
def ProdSignsWrongFalsely : Prop := prodSignsRow.holds Try.pinned (OpenSpec.ofChange prodSignsWrong)

/- THE SECOND FORM. 'bulk': how many values and letters a reading holds, each counted each time it is reached (what is shared counts as often as it is met; a slice's spare places count too). A statement '..UptoSaid' is the law's where the arguments, and the package variables that the reading takes, are together of bulk at most 1048576: NARROWER than '..Said'. Prove '..Said' where nothing that the law and all that it calls make is longer than what came in: it says more and counts as full. Else prove '..UptoSaid'. A law counts once. -/
mutual
def uptoBulk {H : Type} : DataW H → Nat
  | .lit (.string bytes) => bytes.length + 1
  | .lit _ => 1
  | .nil => 1
  | .ptr d => uptoBulk d + 1
  | .slice elems spare => uptoBulkAll elems + uptoBulkAll spare + 1
  | .agg parts => uptoBulkAll parts + 1
  | .iface _ d => uptoBulk d + 1
  | .map entries => uptoBulkEntries entries + 1
  | .held _ => 1
def uptoBulkAll {H : Type} : List (DataW H) → Nat
  | [] => 0
  | d :: r => uptoBulk d + uptoBulkAll r
def uptoBulkEntries {H : Type} : List (Lit × DataW H) → Nat
  | [] => 0
  | x :: r => uptoBulkEntry x + uptoBulkEntries r
def uptoBulkEntry {H : Type} : Lit × DataW H → Nat
  | (.string bytes, d) => bytes.length + uptoBulk d + 1
  | (_, d) => uptoBulk d + 1
 end
def uptoSmall : (H : Type) → List (DataW H) → Bool := fun _ ds => decide (uptoBulkAll ds ≤ 1048576)
def OpenSpec.upto (s : _root_.Go.ChangeSpec) : _root_.Go.OpenSpec := { _root_.Go.OpenSpec.ofChange s with cond := some uptoSmall }

/-- 'tillerlaw11.IntsOf', WHERE WHAT IT READS IS OF BULK AT MOST 1048576: true; the input reads as it did. -/
def intsOfUptoRow : OpenClaim := { program := "ytbgefpeicmbgiaa", sum := "49a9afbfce2243e9c7eed420f5bbfab8563970e45063b801f31714107595a2e8", func := "tiller/tillerlaw11.IntsOf", spec := "intsOf", inPlace := ["math/bits.Add64", "math/bits.Sub64"], apart := false, narrowed := true }
def IntsOfUptoSaid : Prop := intsOfUptoRow.holds Try.pinned (OpenSpec.upto intsOfSpec)

/-- 'tillerlaw11.IntsTo', WHERE WHAT IT READS IS OF BULK AT MOST 1048576: true; the input reads as it did. -/
def intsToUptoRow : OpenClaim := { program := "ytbgefpeicmbgiaa", sum := "49a9afbfce2243e9c7eed420f5bbfab8563970e45063b801f31714107595a2e8", func := "tiller/tillerlaw11.IntsTo", spec := "intsTo", inPlace := ["math/bits.Add64", "math/bits.Sub64"], apart := false, narrowed := true }
def IntsToUptoSaid : Prop := intsToUptoRow.holds Try.pinned (OpenSpec.upto intsToSpec)

/-- 'tillerlaw11.IntsHalves', WHERE WHAT IT READS IS OF BULK AT MOST 1048576: true; the input reads as it did. -/
def intsHalvesUptoRow : OpenClaim := { program := "ytbgefpeicmbgiaa", sum := "49a9afbfce2243e9c7eed420f5bbfab8563970e45063b801f31714107595a2e8", func := "tiller/tillerlaw11.IntsHalves", spec := "intsHalves", inPlace := ["math/bits.Add64", "math/bits.Sub64"], apart := false, narrowed := true }
def IntsHalvesUptoSaid : Prop := intsHalvesUptoRow.holds Try.pinned (OpenSpec.upto intsHalvesSpec)

/-- 'tillerlaw11.IntsBack', WHERE WHAT IT READS IS OF BULK AT MOST 1048576: true; the input reads as it did. -/
def intsBackUptoRow : OpenClaim := { program := "ytbgefpeicmbgiaa", sum := "49a9afbfce2243e9c7eed420f5bbfab8563970e45063b801f31714107595a2e8", func := "tiller/tillerlaw11.IntsBack", spec := "intsBack", inPlace := ["math/bits.Add64", "math/bits.Sub64"], apart := false, narrowed := true }
def IntsBackUptoSaid : Prop := intsBackUptoRow.holds Try.pinned (OpenSpec.upto intsBackSpec)

/-- 'tillerlaw11.IntsHalfBack', WHERE WHAT IT READS IS OF BULK AT MOST 1048576: true; the input reads as it did. -/
def intsHalfBackUptoRow : OpenClaim := { program := "ytbgefpeicmbgiaa", sum := "49a9afbfce2243e9c7eed420f5bbfab8563970e45063b801f31714107595a2e8", func := "tiller/tillerlaw11.IntsHalfBack", spec := "intsHalfBack", inPlace := ["math/bits.Add64", "math/bits.Sub64"], apart := false, narrowed := true }
def IntsHalfBackUptoSaid : Prop := intsHalfBackUptoRow.holds Try.pinned (OpenSpec.upto intsHalfBackSpec)

/-- 'tillerlaw06.ProdFmas', WHERE WHAT IT READS IS OF BULK AT MOST 1048576: true; the input reads as it did. -/
def prodFmasUptoRow : OpenClaim := { program := "ytbgefpeicmbgiaa", sum := "49a9afbfce2243e9c7eed420f5bbfab8563970e45063b801f31714107595a2e8", func := "tiller/tillerlaw06.ProdFmas", spec := "prodFmas", inPlace := ["math/bits.Add64", "math/bits.Sub64"], apart := false, narrowed := true }
def ProdFmasUptoSaid : Prop := prodFmasUptoRow.holds Try.pinned (OpenSpec.upto prodFmasSpec)

/-- 'tillerlaw06.ProdMuls', WHERE WHAT IT READS IS OF BULK AT MOST 1048576: true; the input reads as it did. -/
def prodMulsUptoRow : OpenClaim := { program := "ytbgefpeicmbgiaa", sum := "49a9afbfce2243e9c7eed420f5bbfab8563970e45063b801f31714107595a2e8", func := "tiller/tillerlaw06.ProdMuls", spec := "prodMuls", inPlace := ["math/bits.Add64", "math/bits.Sub64"], apart := false, narrowed := true }
def ProdMulsUptoSaid : Prop := prodMulsUptoRow.holds Try.pinned (OpenSpec.upto prodMulsSpec)

/-- 'tillerlaw06.ProdBack', WHERE WHAT IT READS IS OF BULK AT MOST 1048576: true; the input reads as it did. -/
def prodBackUptoRow : OpenClaim := { program := "ytbgefpeicmbgiaa", sum := "49a9afbfce2243e9c7eed420f5bbfab8563970e45063b801f31714107595a2e8", func := "tiller/tillerlaw06.ProdBack", spec := "prodBack", inPlace := ["math/bits.Add64", "math/bits.Sub64"], apart := false, narrowed := true }
def ProdBackUptoSaid : Prop := prodBackUptoRow.holds Try.pinned (OpenSpec.upto prodBackSpec)

/-- 'tillerlaw06.ProdRest', WHERE WHAT IT READS IS OF BULK AT MOST 1048576: true; the input reads as it did. -/
def prodRestUptoRow : OpenClaim := { program := "ytbgefpeicmbgiaa", sum := "49a9afbfce2243e9c7eed420f5bbfab8563970e45063b801f31714107595a2e8", func := "tiller/tillerlaw06.ProdRest", spec := "prodRest", inPlace := ["math/bits.Add64", "math/bits.Sub64"], apart := false, narrowed := true }
def ProdRestUptoSaid : Prop := prodRestUptoRow.holds Try.pinned (OpenSpec.upto prodRestSpec)

/-- 'tillerlaw06.ProdSigns', WHERE WHAT IT READS IS OF BULK AT MOST 1048576: true; the input reads as it did. -/
def prodSignsUptoRow : OpenClaim := { program := "ytbgefpeicmbgiaa", sum := "49a9afbfce2243e9c7eed420f5bbfab8563970e45063b801f31714107595a2e8", func := "tiller/tillerlaw06.ProdSigns", spec := "prodSigns", inPlace := ["math/bits.Add64", "math/bits.Sub64"], apart := false, narrowed := true }
def ProdSignsUptoSaid : Prop := prodSignsUptoRow.holds Try.pinned (OpenSpec.upto prodSignsSpec)

end Rows
end Go.Proofs.Ytbgefpeicmbgiaa
