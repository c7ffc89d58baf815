import Derived.Test.YtphlmaaplaaopaaWInv
import Derived.Test.YtphlmaaplaaopaaWFootNe
namespace Go.Proofs.YtphlmaaplaaopaaW.PrintWords
open Go.RowKit
end Go.Proofs.YtphlmaaplaaopaaW.PrintWords
namespace Go.Proofs.YtphlmaaplaaopaaW.PrintLast
section
variable {ops : Array Oper} {a : Act} {o og : Oper} {g : Nat} {t : Tmp} {u : Bool}
end
end Go.Proofs.YtphlmaaplaaopaaW.PrintLast
