/-
  No cell of these rows narrows 'for every input' (looked for: loops, veiled, ifaces, maps, wideKeys, modest, calm, conditions, laid).
  DERIVED. THE GIVEN ROWS OF THIS SEAT. 9 by the template 'for every input the law returns true; each argument reads behind the call as it read before'; 0 by the template 'total and deterministic' (their statements: YtfnkmedajchbgaaTotals.lean).
  GIVEN WITH THE SEED: the statements are not yours to turn. If you find one false, say at which input.
  Laid BY PROGRAM, IN A SANDBOX (cutbox-rows.mjs): the forced cells as the released guide's own fill.sh prints them over the translation b7123782a0db9d9b… (all of the seat's roots in one cut). By AI agents, Wed Nov 11 2026. No macro, syntax, notation, axiom, sorry.
-/
import Derived.Test.YtfnkmedajchbgaaChecked
import GoSem.Claim
import GoSem.ClaimJoined
import GoSem.ClaimMapViews
import Derived.JoinedTies
import Derived.KernelRfl
namespace Go.Proofs.Ytfnkmedajchbgaa
/- THE CELL 'sum', in the pinned program and in every row, IS THE sha256 OF THE DUMP (.gsa) THAT YtfnkmedajchbgaaProg.lean LOADS. Nothing in Lean hashes anything: it is a label: what it is worth is what the hold of that sum in a sandbox is worth. -/
noncomputable def Try.pinned : Pinned := { name := "ytfnkmedajchbgaa", sum := "b7123782a0db9d9b88004b35b747ad96e92385e0610497dfcf086b764ada334f", checked := Try.checked }
namespace Rows
def none {H : Type} : Left H := { results := [], args := [] }

/-- 'tillerlaw12.NarrowTo': WHATEVER THE INPUT: true; the input reads as it did. -/
def narrowToSpec : ChangeSpec := { name := "narrowTo", fn := fun _ => fun
  | [d1, d2] => { results := [.lit (.bool true)], args := [d1, d2] }
  | _ => none }
def narrowToRow : OpenClaim := { program := "ytfnkmedajchbgaa", sum := "b7123782a0db9d9b88004b35b747ad96e92385e0610497dfcf086b764ada334f", func := "tiller/tillerlaw12.NarrowTo", spec := "narrowTo", inPlace := ["math/bits.Add64", "math/bits.Sub64"], apart := false }
def NarrowToSaid : Prop := narrowToRow.holds Try.pinned (OpenSpec.ofChange narrowToSpec)

/-- ITS FALSE NEIGHBOUR: 'it returns false'. Refute it at one input. -/
def narrowToWrong : ChangeSpec := { name := "narrowTo", fn := fun _ => fun
  | [d1, d2] => { results := [.lit (.bool false)], args := [d1, d2] }
  | _ => none }
def NarrowToWrongFalsely : Prop := narrowToRow.holds Try.pinned (OpenSpec.ofChange narrowToWrong)

/-- 'tillerlaw12.NarrowFrom': WHATEVER THE INPUT: true; the input reads as it did. -/
def narrowFromSpec : ChangeSpec := { name := "narrowFrom", fn := fun _ => fun
  | [d] => { results := [.lit (.bool true)], args := [d] }
  | _ => none }
def narrowFromRow : OpenClaim := { program := "ytfnkmedajchbgaa", sum := "b7123782a0db9d9b88004b35b747ad96e92385e0610497dfcf086b764ada334f", func := "tiller/tillerlaw12.NarrowFrom", spec := "narrowFrom", inPlace := ["math/bits.Add64", "math/bits.Sub64"], apart := false }
def NarrowFromSaid : Prop := narrowFromRow.holds Try.pinned (OpenSpec.ofChange narrowFromSpec)

/-- ITS FALSE NEIGHBOUR: 'it returns false'. Refute it at one input. -/
def narrowFromWrong : ChangeSpec := { name := "narrowFrom", fn := fun _ => fun
  | [d] => { results := [.lit (.bool false)], args := [d] }
  | _ => none }
def NarrowFromWrongFalsely : Prop := narrowFromRow.holds Try.pinned (OpenSpec.ofChange narrowFromWrong)

/-- 'tillerlaw12.NarrowBack': WHATEVER THE INPUT: true; the input reads as it did. -/
def narrowBackSpec : ChangeSpec := { name := "narrowBack", fn := fun _ => fun
  | [d1, d2, d3] => { results := [.lit (.bool true)], args := [d1, d2, d3] }
  | _ => none }
def narrowBackRow : OpenClaim := { program := "ytfnkmedajchbgaa", sum := "b7123782a0db9d9b88004b35b747ad96e92385e0610497dfcf086b764ada334f", func := "tiller/tillerlaw12.NarrowBack", spec := "narrowBack", inPlace := ["math/bits.Add64", "math/bits.Sub64"], apart := false }
def NarrowBackSaid : Prop := narrowBackRow.holds Try.pinned (OpenSpec.ofChange narrowBackSpec)

/-- ITS FALSE NEIGHBOUR: 'it returns false'. Refute it at one input. -/
def narrowBackWrong : ChangeSpec := { name := "narrowBack", fn := fun _ => fun
  | [d1, d2, d3] => { results := [.lit (.bool false)], args := [d1, d2, d3] }
  | _ => none }
def NarrowBackWrongFalsely : Prop := narrowBackRow.holds Try.pinned (OpenSpec.ofChange narrowBackWrong)

/-- 'tillerlaw12.NarrowOrder': WHATEVER THE INPUT: true; the input reads as it did. -/
def narrowOrderSpec : ChangeSpec := { name := "narrowOrder", fn := fun _ => fun
  | [d1, d2, d3] => { results := [.lit (.bool true)], args := [d1, d2, d3] }
  | _ => none }
def narrowOrderRow : OpenClaim := { program := "ytfnkmedajchbgaa", sum := "b7123782a0db9d9b88004b35b747ad96e92385e0610497dfcf086b764ada334f", func := "tiller/tillerlaw12.NarrowOrder", spec := "narrowOrder", inPlace := ["math/bits.Add64", "math/bits.Sub64"], apart := false }
def NarrowOrderSaid : Prop := narrowOrderRow.holds Try.pinned (OpenSpec.ofChange narrowOrderSpec)

/-- ITS FALSE NEIGHBOUR: 'it returns false'. Refute it at one input. -/
def narrowOrderWrong : ChangeSpec := { name := "narrowOrder", fn := fun _ => fun
  | [d1, d2, d3] => { results := [.lit (.bool false)], args := [d1, d2, d3] }
  | _ => none }
def NarrowOrderWrongFalsely : Prop := narrowOrderRow.holds Try.pinned (OpenSpec.ofChange narrowOrderWrong)

/-- 'tillerlaw08.WholeRests': WHATEVER THE INPUT: true; the input reads as it did. -/
def wholeRestsSpec : ChangeSpec := { name := "wholeRests", fn := fun _ => fun
  | [d1, d2] => { results := [.lit (.bool true)], args := [d1, d2] }
  | _ => none }
def wholeRestsRow : OpenClaim := { program := "ytfnkmedajchbgaa", sum := "b7123782a0db9d9b88004b35b747ad96e92385e0610497dfcf086b764ada334f", func := "tiller/tillerlaw08.WholeRests", spec := "wholeRests", inPlace := ["math/bits.Sub64", "math/bits.Add64"], apart := false }
def WholeRestsSaid : Prop := wholeRestsRow.holds Try.pinned (OpenSpec.ofChange wholeRestsSpec)

/-- ITS FALSE NEIGHBOUR: 'it returns false'. Refute it at one input. -/
def wholeRestsWrong : ChangeSpec := { name := "wholeRests", fn := fun _ => fun
  | [d1, d2] => { results := [.lit (.bool false)], args := [d1, d2] }
  | _ => none }
def WholeRestsWrongFalsely : Prop := wholeRestsRow.holds Try.pinned (OpenSpec.ofChange wholeRestsWrong)

/-- 'tillerlaw08.WholeRounds': WHATEVER THE INPUT: true; the input reads as it did. -/
def wholeRoundsSpec : ChangeSpec := { name := "wholeRounds", fn := fun _ => fun
  | [d1, d2, d3] => { results := [.lit (.bool true)], args := [d1, d2, d3] }
  | _ => none }
def wholeRoundsRow : OpenClaim := { program := "ytfnkmedajchbgaa", sum := "b7123782a0db9d9b88004b35b747ad96e92385e0610497dfcf086b764ada334f", func := "tiller/tillerlaw08.WholeRounds", spec := "wholeRounds", inPlace := ["math/bits.Add64", "math/bits.Sub64"], apart := false }
def WholeRoundsSaid : Prop := wholeRoundsRow.holds Try.pinned (OpenSpec.ofChange wholeRoundsSpec)

/-- ITS FALSE NEIGHBOUR: 'it returns false'. Refute it at one input. -/
def wholeRoundsWrong : ChangeSpec := { name := "wholeRounds", fn := fun _ => fun
  | [d1, d2, d3] => { results := [.lit (.bool false)], args := [d1, d2, d3] }
  | _ => none }
def WholeRoundsWrongFalsely : Prop := wholeRoundsRow.holds Try.pinned (OpenSpec.ofChange wholeRoundsWrong)

/-- 'tillerlaw08.WholeLess': WHATEVER THE INPUT: true; the input reads as it did. -/
def wholeLessSpec : ChangeSpec := { name := "wholeLess", fn := fun _ => fun
  | [d1, d2] => { results := [.lit (.bool true)], args := [d1, d2] }
  | _ => none }
def wholeLessRow : OpenClaim := { program := "ytfnkmedajchbgaa", sum := "b7123782a0db9d9b88004b35b747ad96e92385e0610497dfcf086b764ada334f", func := "tiller/tillerlaw08.WholeLess", spec := "wholeLess", inPlace := ["math/bits.Sub64", "math/bits.Add64"], apart := false }
def WholeLessSaid : Prop := wholeLessRow.holds Try.pinned (OpenSpec.ofChange wholeLessSpec)

/-- ITS FALSE NEIGHBOUR: 'it returns false'. Refute it at one input. -/
def wholeLessWrong : ChangeSpec := { name := "wholeLess", fn := fun _ => fun
  | [d1, d2] => { results := [.lit (.bool false)], args := [d1, d2] }
  | _ => none }
def WholeLessWrongFalsely : Prop := wholeLessRow.holds Try.pinned (OpenSpec.ofChange wholeLessWrong)

/-- 'tillerlaw08.WholeSteps': WHATEVER THE INPUT: true; the input reads as it did. -/
def wholeStepsSpec : ChangeSpec := { name := "wholeSteps", fn := fun _ => fun
  | [d1, d2] => { results := [.lit (.bool true)], args := [d1, d2] }
  | _ => none }
def wholeStepsRow : OpenClaim := { program := "ytfnkmedajchbgaa", sum := "b7123782a0db9d9b88004b35b747ad96e92385e0610497dfcf086b764ada334f", func := "tiller/tillerlaw08.WholeSteps", spec := "wholeSteps", inPlace := ["math/bits.Sub64", "math/bits.Add64"], apart := false }
def WholeStepsSaid : Prop := wholeStepsRow.holds Try.pinned (OpenSpec.ofChange wholeStepsSpec)

/-- ITS FALSE NEIGHBOUR: 'it returns false'. Refute it at one input. -/
def wholeStepsWrong : ChangeSpec := { name := "wholeSteps", fn := fun _ => fun
  | [d1, d2] => { results := [.lit (.bool false)], args := [d1, d2] }
  | _ => none }
def WholeStepsWrongFalsely : Prop := wholeStepsRow.holds Try.pinned (OpenSpec.ofChange wholeStepsWrong)

/-- 'tillerlaw08.WholeSigns': WHATEVER THE INPUT: true; the input reads as it did. -/
def wholeSignsSpec : ChangeSpec := { name := "wholeSigns", fn := fun _ => fun
  | [d1, d2] => { results := [.lit (.bool true)], args := [d1, d2] }
  | _ => none }
def wholeSignsRow : OpenClaim := { program := "ytfnkmedajchbgaa", sum := "b7123782a0db9d9b88004b35b747ad96e92385e0610497dfcf086b764ada334f", func := "tiller/tillerlaw08.WholeSigns", spec := "wholeSigns", inPlace := ["math/bits.Sub64", "math/bits.Add64"], apart := false }
def WholeSignsSaid : Prop := wholeSignsRow.holds Try.pinned (OpenSpec.ofChange wholeSignsSpec)

/-- ITS FALSE NEIGHBOUR: 'it returns false'. Refute it at one input. -/
def wholeSignsWrong : ChangeSpec := { name := "wholeSigns", fn := fun _ => fun
  | [d1, d2] => { results := [.lit (.bool false)], args := [d1, d2] }
  | _ => none }
def WholeSignsWrongFalsely : Prop := wholeSignsRow.holds Try.pinned (OpenSpec.ofChange wholeSignsWrong)

/- THE SECOND FORM. 'bulk': how many values and letters a reading holds, each counted each time it is reached (what is shared counts as often as it is met; a slice's spare places count too). A statement '..UptoSaid' is the law's where the arguments, and the package variables that the reading takes, are together of bulk at most 1048576: NARROWER than '..Said'. Prove '..Said' where nothing that the law and all that it calls make is longer than what came in: it says more and counts as full. Else prove '..UptoSaid'. A law counts once. -/
mutual
def uptoBulk {H : Type} : DataW H → Nat
  | .lit (.string bytes) => bytes.length + 1
  | .lit _ => 1
  | .nil => 1
  | .ptr d => uptoBulk d + 1
  | .slice elems spare => uptoBulkAll elems + uptoBulkAll spare + 1
  | .agg parts => uptoBulkAll parts + 1
  | .iface _ d => uptoBulk d + 1
  | .map entries => uptoBulkEntries entries + 1
  | .held _ => 1
def uptoBulkAll {H : Type} : List (DataW H) → Nat
  | [] => 0
  | d :: r => uptoBulk d + uptoBulkAll r
def uptoBulkEntries {H : Type} : List (Lit × DataW H) → Nat
  | [] => 0
  | x :: r => uptoBulkEntry x + uptoBulkEntries r
def uptoBulkEntry {H : Type} : Lit × DataW H → Nat
  | (.string bytes, d) => bytes.length + uptoBulk d + 1
  | (_, d) => uptoBulk d + 1
 end
def uptoSmall : (H : Type) → List (DataW H) → Bool := fun _ ds => decide (uptoBulkAll ds ≤ 1048576)
def OpenSpec.upto (s : _root_.Go.ChangeSpec) : _root_.Go.OpenSpec := { _root_.Go.OpenSpec.ofChange s with cond := some uptoSmall }

/-- 'tillerlaw12.NarrowTo', WHERE WHAT IT READS IS OF BULK AT MOST 1048576: true; the input reads as it did. -/
def narrowToUptoRow : OpenClaim := { program := "ytfnkmedajchbgaa", sum := "b7123782a0db9d9b88004b35b747ad96e92385e0610497dfcf086b764ada334f", func := "tiller/tillerlaw12.NarrowTo", spec := "narrowTo", inPlace := ["math/bits.Add64", "math/bits.Sub64"], apart := false, narrowed := true }
def NarrowToUptoSaid : Prop := narrowToUptoRow.holds Try.pinned (OpenSpec.upto narrowToSpec)

/-- 'tillerlaw12.NarrowFrom', WHERE WHAT IT READS IS OF BULK AT MOST 1048576: true; the input reads as it did. -/
def narrowFromUptoRow : OpenClaim := { program := "ytfnkmedajchbgaa", sum := "b7123782a0db9d9b88004b35b747ad96e92385e0610497dfcf086b764ada334f", func := "tiller/tillerlaw12.NarrowFrom", spec := "narrowFrom", inPlace := ["math/bits.Add64", "math/bits.Sub64"], apart := false, narrowed := true }
def NarrowFromUptoSaid : Prop := narrowFromUptoRow.holds Try.pinned (OpenSpec.upto narrowFromSpec)

/-- 'tillerlaw12.NarrowBack', WHERE WHAT IT READS IS OF BULK AT MOST 1048576: true; the input reads as it did. -/
def narrowBackUptoRow : OpenClaim := { program := "ytfnkmedajchbgaa", sum := "b7123782a0db9d9b88004b35b747ad96e92385e0610497dfcf086b764ada334f", func := "tiller/tillerlaw12.NarrowBack", spec := "narrowBack", inPlace := ["math/bits.Add64", "math/bits.Sub64"], apart := false, narrowed := true }
def NarrowBackUptoSaid : Prop := narrowBackUptoRow.holds Try.pinned (OpenSpec.upto narrowBackSpec)

/-- 'tillerlaw12.NarrowOrder', WHERE WHAT IT READS IS OF BULK AT MOST 1048576: true; the input reads as it did. -/
def narrowOrderUptoRow : OpenClaim := { program := "ytfnkmedajchbgaa", sum := "b7123782a0db9d9b88004b35b747ad96e92385e0610497dfcf086b764ada334f", func := "tiller/tillerlaw12.NarrowOrder", spec := "narrowOrder", inPlace := ["math/bits.Add64", "math/bits.Sub64"], apart := false, narrowed := true }
def NarrowOrderUptoSaid : Prop := narrowOrderUptoRow.holds Try.pinned (OpenSpec.upto narrowOrderSpec)

/-- 'tillerlaw08.WholeRests', WHERE WHAT IT READS IS OF BULK AT MOST 1048576: true; the input reads as it did. -/
def wholeRestsUptoRow : OpenClaim := { program := "ytfnkmedajchbgaa", sum := "b7123782a0db9d9b88004b35b747ad96e92385e0610497dfcf086b764ada334f", func := "tiller/tillerlaw08.WholeRests", spec := "wholeRests", inPlace := ["math/bits.Sub64", "math/bits.Add64"], apart := false, narrowed := true }
def WholeRestsUptoSaid : Prop := wholeRestsUptoRow.holds Try.pinned (OpenSpec.upto wholeRestsSpec)

/-- 'tillerlaw08.WholeRounds', WHERE WHAT IT READS IS OF BULK AT MOST 1048576: true; the input reads as it did. -/
def wholeRoundsUptoRow : OpenClaim := { program := "ytfnkmedajchbgaa", sum := "b7123782a0db9d9b88004b35b747ad96e92385e0610497dfcf086b764ada334f", func := "tiller/tillerlaw08.WholeRounds", spec := "wholeRounds", inPlace := ["math/bits.Add64", "math/bits.Sub64"], apart := false, narrowed := true }
def WholeRoundsUptoSaid : Prop := wholeRoundsUptoRow.holds Try.pinned (OpenSpec.upto wholeRoundsSpec)

/-- 'tillerlaw08.WholeLess', WHERE WHAT IT READS IS OF BULK AT MOST 1048576: true; the input reads as it did. -/
def wholeLessUptoRow : OpenClaim := { program := "ytfnkmedajchbgaa", sum := "b7123782a0db9d9b88004b35b747ad96e92385e0610497dfcf086b764ada334f", func := "tiller/tillerlaw08.WholeLess", spec := "wholeLess", inPlace := ["math/bits.Sub64", "math/bits.Add64"], apart := false, narrowed := true }
def WholeLessUptoSaid : Prop := wholeLessUptoRow.holds Try.pinned (OpenSpec.upto wholeLessSpec)

/-- 'tillerlaw08.WholeSteps', WHERE WHAT IT READS IS OF BULK AT MOST 1048576: true; the input reads as it did. -/
def wholeStepsUptoRow : OpenClaim := { program := "ytfnkmedajchbgaa", sum := "b7123782a0db9d9b88004b35b747ad96e92385e0610497dfcf086b764ada334f", func := "tiller/tillerlaw08.WholeSteps", spec := "wholeSteps", inPlace := ["math/bits.Sub64", "math/bits.Add64"], apart := false, narrowed := true }
def WholeStepsUptoSaid : Prop := wholeStepsUptoRow.holds Try.pinned (OpenSpec.upto wholeStepsSpec)

/-- 'tillerlaw08.WholeSigns', WHERE WHAT IT READS IS OF BULK AT MOST 1048576: true; the input reads as it did. -/
def wholeSignsUptoRow : OpenClaim := { program := "ytfnkmedajchbgaa", sum := "b7123782a0db9d9b88004b35b747ad96e92385e0610497dfcf086b764ada334f", func := "tiller/tillerlaw08.WholeSigns", spec := "wholeSigns", inPlace := ["math/bits.Sub64", "math/bits.Add64"], apart := false, narrowed := true }
def WholeSignsUptoSaid : Prop := wholeSignsUptoRow.holds Try.pinned (OpenSpec.upto wholeSignsSpec)

end Rows
end Go.Proofs.Ytfnkmedajchbgaa
