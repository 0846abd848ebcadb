/- Proved: the pure statement behind FnExactNewWatch (no argument, no condition): the law's Lean function answers true. -/
import Derived.Test.YtocmiloeljjnfaaPFnExactNewWatchx3
namespace Go.Proofs.Ytocmiloeljjnfaa.Pure
open Go.RowKit Go.Proofs.Ytocmiloeljjnfaa.PFnExactNewWatch Go.Proofs.YtocmiloeljjnfaaW.PrintWords Go.Proofs.YtocmiloeljjnfaaW.PrintLast

set_option maxRecDepth 100000 in
theorem FnExactNewWatch : laws_FnExactNewWatch.Pure := ⟨8, by decide +kernel⟩

end Go.Proofs.Ytocmiloeljjnfaa.Pure
