/- How the arguments of FnExactOpOk are opened, and the one pure statement that is left of it. Conditions: none beyond each theorem's premises. -/
import Derived.Test.YtocmiloeljjnfaaQFnExactOpOkx6
import Derived.Test.YtocmiloeljjnfaaOpen
namespace Go.Proofs.Ytocmiloeljjnfaa.QFnExactOpOk
open Go.RowKit Go.Proofs.YtocmiloeljjnfaaW.PrintWords Go.Proofs.YtocmiloeljjnfaaW.PrintLast Go.Proofs.YtocmiloeljjnfaaW.PrintMore Go.Proofs.Ytocmiloeljjnfaa.Open
set_option linter.unusedVariables false

abbrev d0 : Kd (Int × Int × Int × Int × ByteArray) := (Kd.pair (Kd.int .i64) (Kd.pair (Kd.int .i64) (Kd.pair (Kd.int .i64) (Kd.pair (Kd.int .i64) Kd.string))))
theorem opp0 : Opens Try.prog (Kd.iso d0 id) (fun x => (Lit.int .i64 x.1).wf = true ∧ (Lit.int .i64 x.2.1).wf = true ∧ (Lit.int .i64 x.2.2.1).wf = true ∧ (Lit.int .i64 x.2.2.2.1).wf = true ∧ x.2.2.2.2.size ≤ maxLen) 44 :=
  opens_struct (d := d0) Try.underlying44 (opensAt_cons (opens_int Try.underlying3) (by kernel_rfl) (opensAt_cons (opens_int Try.underlying3) (by kernel_rfl) (opensAt_cons (opens_int Try.underlying3) (by kernel_rfl) (opensAt_cons (opens_int Try.underlying3) (by kernel_rfl) (opensAt_last (opens_string Try.underlying9) (by kernel_rfl)))))) (by kernel_rfl) id (fun _ => rfl)
/-- THE ONE PURE STATEMENT. -/
def laws_FnExactOpOk.Pure : Prop := ∀ (x0_0 : Int) (x0_1 : Int) (x0_2 : Int) (x0_3 : Int) (x0_4 : ByteArray), (Lit.int .i64 x0_0).wf = true → (Lit.int .i64 x0_1).wf = true → (Lit.int .i64 x0_2).wf = true → (Lit.int .i64 x0_3).wf = true → x0_4.size ≤ maxLen → ∃ k, laws_FnExactOpOk.f k x0_0 x0_1 x0_2 x0_3 x0_4 = some true

end Go.Proofs.Ytocmiloeljjnfaa.QFnExactOpOk
