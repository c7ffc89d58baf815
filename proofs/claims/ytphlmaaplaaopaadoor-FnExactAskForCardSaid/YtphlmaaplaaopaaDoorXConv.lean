import Derived.Test.YtphlmaaplaaopaaDoorWMore
import Derived.Test.YtphlmaaplaaopaaDoorWLast
import Derived.Laws.Bits128
namespace Go.Proofs.YtphlmaaplaaopaaDoorW.PrintWords
open Go.RowKit
theorem u32_w (n : Int) : IntKind.u32.wrap n = n % 4294967296 := IntKind.wrap_u32 n
theorem u64_w (n : Int) : IntKind.u64.wrap n = n % 18446744073709551616 := IntKind.wrap_u64 n
namespace Kd
section
variable {P : Program} {ops : Array Oper} {o : Oper} {rest : List Oper} {a : Act} {Q : Exit → Act → World → Prop}
end
end Kd
end Go.Proofs.YtphlmaaplaaopaaDoorW.PrintWords
