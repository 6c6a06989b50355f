-- Written by a program of this session (wip/tools/eprint.py), which runs the printer of the kit under rules of its own. Nothing in it is trusted: Lean checks it.
import Derived.Test.YtkakgmpcenfjlaaProg
import Derived.Below
import Derived.Deep.Draws
import Derived.Deep.AppendLies
import Derived.Maps.AppendAt
import Derived.OwnWalk
import Derived.Laws.BytesArg
import Derived.Laws.MakeOwn
import Derived.Laws.OwnMore
import Derived.Deep.OwnRows
import Derived.Tactics
import Derived.Lib.ConvBytes
import Derived.Laws.Slices
import Derived.WalkKit
import Derived.KernelRfl
import Derived.RowKit3
import Derived.Deep.LoopGhost
import Derived.Deep.QuietTactic
import Derived.BigQuiet
import Derived.WideLaws
import Derived.Deep.DeepCutAuto
import Derived.Deep.CutBlock
import Derived.Deep.RegionHeld3
import Derived.Laws.Rows
import Derived.Lib.AppendStr
import Derived.ArgAppend
import Derived.Laws.IdiomCopy
import Derived.OrdersHeld
import Derived.Laws.BitsLemmas
import Derived.RowKit
import Derived.Test.YtkakgmpcenfjlaaWWords
import Derived.Test.YtkakgmpcenfjlaaWLast
import Derived.Test.YtkakgmpcenfjlaaWTab
import Derived.Test.YtkakgmpcenfjlaaWFour
import Derived.Test.YtkakgmpcenfjlaaWQPut
import Derived.Test.YtkakgmpcenfjlaaWApart
import Derived.Test.YtkakgmpcenfjlaaWArr
import Derived.Test.YtkakgmpcenfjlaaWZeros
import Derived.Test.YtkakgmpcenfjlaaWFoot
import Derived.Test.YtkakgmpcenfjlaaWKept
import Derived.Test.YtkakgmpcenfjlaaWShare
import Derived.Test.YtkakgmpcenfjlaaWN
import Derived.Test.YtkakgmpcenfjlaaWFootNe
import Derived.Test.YtkakgmpcenfjlaaWAt
import Derived.Test.YtkakgmpcenfjlaaWEqStruct
import Derived.Test.YtkakgmpcenfjlaaWRepsOne
import Derived.Test.YtkakgmpcenfjlaaWInv
import Derived.Test.YtkakgmpcenfjlaaWInvWords
import Derived.Test.YtkakgmpcenfjlaaWGuard
import Derived.Test.YtkakgmpcenfjlaaWNEv
import Derived.Test.YtkakgmpcenfjlaaWMore
namespace Go.Proofs.Ytkakgmpcenfjlaa.QGm
open Go.RowKit Go.Proofs.YtkakgmpcenfjlaaW.PrintWords Go.Proofs.YtkakgmpcenfjlaaW.PrintLast Go.Proofs.YtkakgmpcenfjlaaW.PrintMore
attribute [local go_sem] max2_int min2_int max_two min_two max_three min_three max_four min_four   -- for this text's walks alone
set_option linter.unusedVariables false
set_option linter.unusedSimpArgs false



def errW : Option Int → Value
  | none => .nilIface
  | some c => .iface 0 (.int .i64 c)
theorem errW_none : errW none = .nilIface := rfl
theorem errW_some (c : Int) : errW (some c) = .iface 0 (.int .i64 c) := rfl

-- the values' own types

end Go.Proofs.Ytkakgmpcenfjlaa.QGm
