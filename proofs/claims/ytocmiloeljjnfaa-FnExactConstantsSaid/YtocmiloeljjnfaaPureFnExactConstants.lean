/- Proved: the pure statement behind FnExactConstants, without any condition: each exported constant of the program is the one that the document names. -/
import Derived.Test.YtocmiloeljjnfaaPFnExactConstantsx1
namespace Go.Proofs.Ytocmiloeljjnfaa.Pure
open Go.RowKit Go.Proofs.Ytocmiloeljjnfaa.PFnExactConstants Go.Proofs.YtocmiloeljjnfaaW.PrintWords Go.Proofs.YtocmiloeljjnfaaW.PrintLast

theorem FnExactConstants : laws_FnExactConstants.Pure := rfl

end Go.Proofs.Ytocmiloeljjnfaa.Pure
