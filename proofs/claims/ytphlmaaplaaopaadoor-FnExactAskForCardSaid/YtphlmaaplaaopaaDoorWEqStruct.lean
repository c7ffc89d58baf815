import Derived.Test.YtphlmaaplaaopaaDoorWWords
import Derived.Laws.StructEq
namespace Go.Proofs.YtphlmaaplaaopaaDoorW.PrintWords
open Go.RowKit
section
variable {P : Program} {d : Nat} {xs ys : Array Value} {f : Field} {fs : List Field} {a b : Value} {r s : Bool} {w : World}
end
end Go.Proofs.YtphlmaaplaaopaaDoorW.PrintWords
