-- Written by a program of this session (wip/tools/eprint.py), which runs the printer of the kit under rules of its own. Nothing in it is trusted: Lean checks it.
import Derived.Test.YtkakgmpcenfjlaaDoorProg
import Derived.Below
import Derived.Deep.Draws
import Derived.Deep.AppendLies
import Derived.Maps.AppendAt
import Derived.OwnWalk
import Derived.Laws.BytesArg
import Derived.Laws.MakeOwn
import Derived.Laws.OwnMore
import Derived.Deep.OwnRows
import Derived.Tactics
import Derived.Lib.ConvBytes
import Derived.Laws.Slices
import Derived.WalkKit
import Derived.KernelRfl
import Derived.RowKit3
import Derived.Deep.LoopGhost
import Derived.Deep.QuietTactic
import Derived.BigQuiet
import Derived.WideLaws
import Derived.Deep.DeepCutAuto
import Derived.Deep.CutBlock
import Derived.Deep.RegionHeld3
import Derived.Laws.Rows
import Derived.Lib.AppendStr
import Derived.ArgAppend
import Derived.Laws.IdiomCopy
import Derived.OrdersHeld
import Derived.Laws.BitsLemmas
import Derived.RowKit
import Derived.Test.YtkakgmpcenfjlaaDoorWWords
import Derived.Test.YtkakgmpcenfjlaaDoorWLast
import Derived.Test.YtkakgmpcenfjlaaDoorWTab
import Derived.Test.YtkakgmpcenfjlaaDoorWFour
import Derived.Test.YtkakgmpcenfjlaaDoorWQPut
import Derived.Test.YtkakgmpcenfjlaaDoorWApart
import Derived.Test.YtkakgmpcenfjlaaDoorWArr
import Derived.Test.YtkakgmpcenfjlaaDoorWZeros
import Derived.Test.YtkakgmpcenfjlaaDoorWFoot
import Derived.Test.YtkakgmpcenfjlaaDoorWKept
import Derived.Test.YtkakgmpcenfjlaaDoorWShare
import Derived.Test.YtkakgmpcenfjlaaDoorWN
import Derived.Test.YtkakgmpcenfjlaaDoorWFootNe
import Derived.Test.YtkakgmpcenfjlaaDoorWAt
import Derived.Test.YtkakgmpcenfjlaaDoorWEqStruct
import Derived.Test.YtkakgmpcenfjlaaDoorWRepsOne
import Derived.Test.YtkakgmpcenfjlaaDoorWInv
import Derived.Test.YtkakgmpcenfjlaaDoorWInvWords
import Derived.Test.YtkakgmpcenfjlaaDoorWGuard
import Derived.Test.YtkakgmpcenfjlaaDoorWNEv
import Derived.Test.YtkakgmpcenfjlaaDoorWMore
namespace Go.Proofs.YtkakgmpcenfjlaaDoor.QGp
open Go.RowKit Go.Proofs.YtkakgmpcenfjlaaDoorW.PrintWords Go.Proofs.YtkakgmpcenfjlaaDoorW.PrintLast Go.Proofs.YtkakgmpcenfjlaaDoorW.PrintMore
attribute [local go_sem] max2_int min2_int max_two min_two max_three min_three max_four min_four   -- for this text's walks alone
set_option linter.unusedVariables false
set_option linter.unusedSimpArgs false



def errW : Option Int → Value
  | none => .nilIface
  | some c => .iface 0 (.int .i64 c)
theorem errW_none : errW none = .nilIface := rfl
theorem errW_some (c : Int) : errW (some c) = .iface 0 (.int .i64 c) := rfl

-- the values' own types

end Go.Proofs.YtkakgmpcenfjlaaDoor.QGp
