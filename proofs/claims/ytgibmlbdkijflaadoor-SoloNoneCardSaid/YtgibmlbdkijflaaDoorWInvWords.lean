-- PRINTED BY print.sh 35421559b90ae4d0a3588c463048766b98c2df88dd9212a6774a882060cdf62d: not written by this session
-- (what this claim does not use has been struck)
import Derived.Test.YtgibmlbdkijflaaDoorWInv
import Derived.Test.YtgibmlbdkijflaaDoorWFootNe
namespace Go.Proofs.YtgibmlbdkijflaaDoorW.PrintWords
open Go.RowKit
end Go.Proofs.YtgibmlbdkijflaaDoorW.PrintWords
namespace Go.Proofs.YtgibmlbdkijflaaDoorW.PrintLast
section
variable {ops : Array Oper} {a : Act} {o og : Oper} {g : Nat} {t : Tmp} {u : Bool}
end
end Go.Proofs.YtgibmlbdkijflaaDoorW.PrintLast
