-- printed by a turned print of this work's own (wip/mp.sh): Lean checks it
import Derived.Test.YtedjlpfggjcmfaaProg
import Derived.Below
import Derived.Deep.Draws
import Derived.Deep.AppendLies
import Derived.Maps.AppendAt
import Derived.OwnWalk
import Derived.Laws.BytesArg
import Derived.Laws.MakeOwn
import Derived.Laws.OwnMore
import Derived.Deep.OwnRows
import Derived.Tactics
import Derived.Lib.ConvBytes
import Derived.Laws.Slices
import Derived.WalkKit
import Derived.KernelRfl
import Derived.RowKit3
import Derived.Deep.LoopGhost
import Derived.Deep.QuietTactic
import Derived.BigQuiet
import Derived.WideLaws
import Derived.Deep.DeepCutAuto
import Derived.Deep.CutBlock
import Derived.Deep.RegionHeld3
import Derived.Laws.Rows
import Derived.Lib.AppendStr
import Derived.ArgAppend
import Derived.Laws.IdiomCopy
import Derived.OrdersHeld
import Derived.Laws.BitsLemmas
import Derived.RowKit
import Derived.Test.YtedjlpfggjcmfaaBaseC
import Derived.Test.YtedjlpfggjcmfaaWWords
import Derived.Test.YtedjlpfggjcmfaaWLast
import Derived.Test.YtedjlpfggjcmfaaWTab
import Derived.Test.YtedjlpfggjcmfaaWFour
import Derived.Test.YtedjlpfggjcmfaaWQPut
import Derived.Test.YtedjlpfggjcmfaaWApart
import Derived.Test.YtedjlpfggjcmfaaWArr
import Derived.Test.YtedjlpfggjcmfaaWZeros
import Derived.Test.YtedjlpfggjcmfaaWFoot
import Derived.Test.YtedjlpfggjcmfaaWKept
import Derived.Test.YtedjlpfggjcmfaaWShare
import Derived.Test.YtedjlpfggjcmfaaWN
import Derived.Test.YtedjlpfggjcmfaaWFootNe
import Derived.Test.YtedjlpfggjcmfaaWAt
import Derived.Test.YtedjlpfggjcmfaaWEqStruct
import Derived.Test.YtedjlpfggjcmfaaWRepsOne
import Derived.Test.YtedjlpfggjcmfaaWInv
import Derived.Test.YtedjlpfggjcmfaaWInvWords
import Derived.Test.YtedjlpfggjcmfaaWGuard
import Derived.Test.YtedjlpfggjcmfaaWNEv
import Derived.Test.YtedjlpfggjcmfaaWMore
import Derived.Test.YtedjlpfggjcmfaaPW
namespace Go.Proofs.Ytedjlpfggjcmfaa.X
open Go.RowKit Go.Proofs.YtedjlpfggjcmfaaW.PrintWords Go.Proofs.YtedjlpfggjcmfaaW.PrintLast Go.Proofs.YtedjlpfggjcmfaaW.PrintMore
attribute [local go_sem] max2_int min2_int max_two min_two max_three min_three max_four min_four   -- for this text's walks alone
set_option linter.unusedVariables false
set_option linter.unusedSimpArgs false



def errW : Option Int → Value
 | none => .nilIface
 | some c => .iface 0 (.int .i64 c)
theorem errW_none : errW none = .nilIface := rfl
theorem errW_some (c : Int) : errW (some c) = .iface 0 (.int .i64 c) := rfl

theorem fieldA51_1 : ∀ (x0 : Bool) (x1 : Int) (x2 : Int) (x3 : Int) (W : World), (Instr.field 51 (.agg #[.bool x0, .int .i64 x1, .int .i64 x2, .int .u64 x3]) 1).run Try.prog W = .ok (.int .i64 x1) W := by
 intros
 kernel_rfl
theorem info22 : (Try.prog.info? 22).map (fun i => (i.zero, i.size, i.bytes)) = some (some (.int .u64 0), 1, 8) := by kernel_rfl
theorem info86 : (Try.prog.info? 86).map (fun i => (i.zero, i.size, i.bytes)) = some (some (.int .u32 0), 1, 4) := by kernel_rfl
-- the values' own types

end Go.Proofs.Ytedjlpfggjcmfaa.X
