/- Lean functions that answer as the Go functions do, and proofs that the calls come to these answers. Written for this claim by a program of this session, out of the kit's print; conditions: the premises of each theorem. -/
import Derived.Test.YtadmodbdkmmplaaQFnExactReadFreesx0
import Derived.Test.YtadmodbdkmmplaaQFnExactReadFreesx1
import Derived.Test.YtadmodbdkmmplaaQFnExactReadFreesx2
import Derived.Test.YtadmodbdkmmplaaQFnExactReadFreesx3
import Derived.Test.YtadmodbdkmmplaaQFnExactReadFreesx4
import Derived.Test.YtadmodbdkmmplaaQFnExactReadFreesx5
namespace Go.Proofs.Ytadmodbdkmmplaa.QFnExactReadFrees
open Go.RowKit Go.Proofs.YtadmodbdkmmplaaW.PrintWords Go.Proofs.YtadmodbdkmmplaaW.PrintLast Go.Proofs.YtadmodbdkmmplaaW.PrintMore
attribute [local go_sem] max2_int min2_int max_two min_two max_three min_three max_four min_four   -- for this text's walks alone
set_option linter.unusedVariables false
set_option linter.unusedSimpArgs false

end Go.Proofs.Ytadmodbdkmmplaa.QFnExactReadFrees
