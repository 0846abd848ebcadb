/- Lean functions that answer as the Go functions do, and proofs that the calls come to these answers. Written for this claim by a program of this session, out of the kit's print; conditions: the premises of each theorem. -/
import Derived.Test.YtocmiloeljjnfaaProg
import Derived.Below
import Derived.Deep.Draws
import Derived.Deep.AppendLies
import Derived.Maps.AppendAt
import Derived.OwnWalk
import Derived.Laws.BytesArg
import Derived.Laws.MakeOwn
import Derived.Laws.OwnMore
import Derived.Deep.OwnRows
import Derived.Tactics
import Derived.Lib.ConvBytes
import Derived.Laws.Slices
import Derived.WalkKit
import Derived.KernelRfl
import Derived.RowKit3
import Derived.Deep.LoopGhost
import Derived.Deep.QuietTactic
import Derived.BigQuiet
import Derived.WideLaws
import Derived.Deep.DeepCutAuto
import Derived.Deep.CutBlock
import Derived.Deep.RegionHeld3
import Derived.Laws.Rows
import Derived.Lib.AppendStr
import Derived.ArgAppend
import Derived.Laws.IdiomCopy
import Derived.OrdersHeld
import Derived.Laws.BitsLemmas
import Derived.RowKit
import Derived.Shelf.Abstract
import Derived.Lib.Bytealg
import Derived.Lib.Walk
import Derived.Test.YtocmiloeljjnfaaAny
import Derived.Test.YtocmiloeljjnfaaWWords
import Derived.Test.YtocmiloeljjnfaaWLast
import Derived.Test.YtocmiloeljjnfaaWTab
import Derived.Test.YtocmiloeljjnfaaWFour
import Derived.Test.YtocmiloeljjnfaaWQPut
import Derived.Test.YtocmiloeljjnfaaWApart
import Derived.Test.YtocmiloeljjnfaaWArr
import Derived.Test.YtocmiloeljjnfaaWZeros
import Derived.Test.YtocmiloeljjnfaaWFoot
import Derived.Test.YtocmiloeljjnfaaWKept
import Derived.Test.YtocmiloeljjnfaaWShare
import Derived.Test.YtocmiloeljjnfaaWN
import Derived.Test.YtocmiloeljjnfaaWFootNe
import Derived.Test.YtocmiloeljjnfaaWAt
import Derived.Test.YtocmiloeljjnfaaWEqStruct
import Derived.Test.YtocmiloeljjnfaaWRepsOne
import Derived.Test.YtocmiloeljjnfaaWInv
import Derived.Test.YtocmiloeljjnfaaWInvWords
import Derived.Test.YtocmiloeljjnfaaWGuard
import Derived.Test.YtocmiloeljjnfaaWNEv
import Derived.Test.YtocmiloeljjnfaaWMore
namespace Go.Proofs.Ytocmiloeljjnfaa.QFnExactOpOk
open Go.RowKit Go.Proofs.YtocmiloeljjnfaaW.PrintWords Go.Proofs.YtocmiloeljjnfaaW.PrintLast Go.Proofs.YtocmiloeljjnfaaW.PrintMore
attribute [local go_sem] max2_int min2_int max_two min_two max_three min_three max_four min_four   -- for this text's walks alone
set_option linter.unusedVariables false
set_option linter.unusedSimpArgs false



def errW : Option Int → Value
  | none => .nilIface
  | some c => .iface 0 (.int .i64 c)
theorem errW_none : errW none = .nilIface := rfl
theorem errW_some (c : Int) : errW (some c) = .iface 0 (.int .i64 c) := rfl

-- the values' own types

end Go.Proofs.Ytocmiloeljjnfaa.QFnExactOpOk
