/- Lean functions that answer as the Go functions do, and proofs that the calls come to these answers. Written for this claim by a program of this session, out of the kit's print; conditions: the premises of each theorem. -/
import Derived.Test.YtadmodbdkmmplaaQFnExactReadVolx0
import Derived.Test.YtadmodbdkmmplaaQFnExactReadVolx1
import Derived.Test.YtadmodbdkmmplaaQFnExactReadVolx2
import Derived.Test.YtadmodbdkmmplaaQFnExactReadVolx3
import Derived.Test.YtadmodbdkmmplaaQFnExactReadVolx4
import Derived.Test.YtadmodbdkmmplaaQFnExactReadVolx5
import Derived.Test.YtadmodbdkmmplaaQFnExactReadVolx6
import Derived.Test.YtadmodbdkmmplaaQFnExactReadVolx7
import Derived.Test.YtadmodbdkmmplaaQFnExactReadVolx8
import Derived.Test.YtadmodbdkmmplaaQFnExactReadVolx9
import Derived.Test.YtadmodbdkmmplaaQFnExactReadVolx10
import Derived.Test.YtadmodbdkmmplaaQFnExactReadVolx11
namespace Go.Proofs.Ytadmodbdkmmplaa.QFnExactReadVol
open Go.RowKit Go.Proofs.YtadmodbdkmmplaaW.PrintWords Go.Proofs.YtadmodbdkmmplaaW.PrintLast Go.Proofs.YtadmodbdkmmplaaW.PrintMore
attribute [local go_sem] max2_int min2_int max_two min_two max_three min_three max_four min_four   -- for this text's walks alone
set_option linter.unusedVariables false
set_option linter.unusedSimpArgs false

end Go.Proofs.Ytadmodbdkmmplaa.QFnExactReadVol
