import Derived.Test.YtphlmaaplaaopaaDoorWWords
import Derived.Deep.Slices
import Derived.SizedLaws
namespace Go.Proofs.YtphlmaaplaaopaaDoorW.XOpen
open Go.RowKit Go.ChangeShapes Go.WideShapes Go.Proofs.YtphlmaaplaaopaaDoorW.PrintWords
section
variable {P : Program} {t : TypeId}
end
end Go.Proofs.YtphlmaaplaaopaaDoorW.XOpen
