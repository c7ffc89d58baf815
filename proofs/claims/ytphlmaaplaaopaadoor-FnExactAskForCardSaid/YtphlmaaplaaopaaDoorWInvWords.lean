import Derived.Test.YtphlmaaplaaopaaDoorWInv
import Derived.Test.YtphlmaaplaaopaaDoorWFootNe
namespace Go.Proofs.YtphlmaaplaaopaaDoorW.PrintWords
open Go.RowKit
end Go.Proofs.YtphlmaaplaaopaaDoorW.PrintWords
namespace Go.Proofs.YtphlmaaplaaopaaDoorW.PrintLast
section
variable {ops : Array Oper} {a : Act} {o og : Oper} {g : Nat} {t : Tmp} {u : Bool}
end
end Go.Proofs.YtphlmaaplaaopaaDoorW.PrintLast
