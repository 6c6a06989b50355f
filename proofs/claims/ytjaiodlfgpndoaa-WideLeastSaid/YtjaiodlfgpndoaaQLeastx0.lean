-- Written by a program of this session (wip/tools/eprint.py), which runs the printer of the kit under rules of its own. Nothing in it is trusted: Lean checks it.
import Derived.Test.YtjaiodlfgpndoaaProg
import Derived.Below
import Derived.Deep.Draws
import Derived.Deep.AppendLies
import Derived.Maps.AppendAt
import Derived.OwnWalk
import Derived.Laws.BytesArg
import Derived.Laws.MakeOwn
import Derived.Laws.OwnMore
import Derived.Deep.OwnRows
import Derived.Tactics
import Derived.Lib.ConvBytes
import Derived.Laws.Slices
import Derived.WalkKit
import Derived.KernelRfl
import Derived.RowKit3
import Derived.Deep.LoopGhost
import Derived.Deep.QuietTactic
import Derived.BigQuiet
import Derived.WideLaws
import Derived.Deep.DeepCutAuto
import Derived.Deep.CutBlock
import Derived.Deep.RegionHeld3
import Derived.Laws.Rows
import Derived.Lib.AppendStr
import Derived.ArgAppend
import Derived.Laws.IdiomCopy
import Derived.OrdersHeld
import Derived.Laws.BitsLemmas
import Derived.RowKit
import Derived.Test.YtjaiodlfgpndoaaWWords
import Derived.Test.YtjaiodlfgpndoaaWLast
import Derived.Test.YtjaiodlfgpndoaaWTab
import Derived.Test.YtjaiodlfgpndoaaWFour
import Derived.Test.YtjaiodlfgpndoaaWQPut
import Derived.Test.YtjaiodlfgpndoaaWApart
import Derived.Test.YtjaiodlfgpndoaaWArr
import Derived.Test.YtjaiodlfgpndoaaWZeros
import Derived.Test.YtjaiodlfgpndoaaWFoot
import Derived.Test.YtjaiodlfgpndoaaWKept
import Derived.Test.YtjaiodlfgpndoaaWShare
import Derived.Test.YtjaiodlfgpndoaaWN
import Derived.Test.YtjaiodlfgpndoaaWFootNe
import Derived.Test.YtjaiodlfgpndoaaWAt
import Derived.Test.YtjaiodlfgpndoaaWEqStruct
import Derived.Test.YtjaiodlfgpndoaaWRepsOne
import Derived.Test.YtjaiodlfgpndoaaWInv
import Derived.Test.YtjaiodlfgpndoaaWInvWords
import Derived.Test.YtjaiodlfgpndoaaWGuard
import Derived.Test.YtjaiodlfgpndoaaWNEv
import Derived.Test.YtjaiodlfgpndoaaWMore
namespace Go.Proofs.Ytjaiodlfgpndoaa.QLeast
open Go.RowKit Go.Proofs.YtjaiodlfgpndoaaW.PrintWords Go.Proofs.YtjaiodlfgpndoaaW.PrintLast Go.Proofs.YtjaiodlfgpndoaaW.PrintMore
attribute [local go_sem] max2_int min2_int max_two min_two max_three min_three max_four min_four   -- for this text's walks alone
set_option linter.unusedVariables false
set_option linter.unusedSimpArgs false



def errW : Option Int → Value
  | none => .nilIface
  | some c => .iface 0 (.int .i64 c)
theorem errW_none : errW none = .nilIface := rfl
theorem errW_some (c : Int) : errW (some c) = .iface 0 (.int .i64 c) := rfl

theorem info22 : (Try.prog.info? 22).map (fun i => (i.zero, i.size, i.bytes)) = some (some (.int .u64 0), 1, 8) := by kernel_rfl
theorem info23 : (Try.prog.info? 23).map (fun i => (i.zero, i.size, i.bytes)) = some (some (.int .u32 0), 1, 4) := by kernel_rfl
-- the values' own types

end Go.Proofs.Ytjaiodlfgpndoaa.QLeast
