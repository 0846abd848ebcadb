import Derived.Test.YtadmodbdkmmplaaWInv
import Derived.Test.YtadmodbdkmmplaaWFootNe
namespace Go.Proofs.YtadmodbdkmmplaaW.PrintWords
open Go.RowKit
end Go.Proofs.YtadmodbdkmmplaaW.PrintWords
namespace Go.Proofs.YtadmodbdkmmplaaW.PrintLast
section
variable {ops : Array Oper} {a : Act} {o og : Oper} {g : Nat} {t : Tmp} {u : Bool}
end
end Go.Proofs.YtadmodbdkmmplaaW.PrintLast
