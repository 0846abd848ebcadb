/- Lean functions that answer as the Go functions do, and proofs that the calls come to these answers. Written for this claim by a program of this session, out of the kit's print; conditions: the premises of each theorem. -/
import Derived.Test.YtccgoaljeeghcaaQFnExactShowFreesx0
import Derived.Test.YtccgoaljeeghcaaQFnExactShowFreesx1
import Derived.Test.YtccgoaljeeghcaaQFnExactShowFreesx2
import Derived.Test.YtccgoaljeeghcaaQFnExactShowFreesx3
namespace Go.Proofs.Ytccgoaljeeghcaa.QFnExactShowFrees
open Go.RowKit Go.Proofs.YtccgoaljeeghcaaW.PrintWords Go.Proofs.YtccgoaljeeghcaaW.PrintLast Go.Proofs.YtccgoaljeeghcaaW.PrintMore
attribute [local go_sem] max2_int min2_int max_two min_two max_three min_three max_four min_four   -- for this text's walks alone
set_option linter.unusedVariables false
set_option linter.unusedSimpArgs false

end Go.Proofs.Ytccgoaljeeghcaa.QFnExactShowFrees
