/- How the arguments of FnExactDead are opened, and the one pure statement that is left of it. Conditions: none beyond each theorem's premises. -/
import Derived.Test.YtccgoaljeeghcaaQFnExactDeadx5
import Derived.Test.YtccgoaljeeghcaaOpen
namespace Go.Proofs.Ytccgoaljeeghcaa.QFnExactDead
open Go.RowKit Go.Proofs.YtccgoaljeeghcaaW.PrintWords Go.Proofs.YtccgoaljeeghcaaW.PrintLast Go.Proofs.YtccgoaljeeghcaaW.PrintMore Go.Proofs.Ytccgoaljeeghcaa.Open
set_option linter.unusedVariables false

abbrev d0 : Kd (Int × (List Int) × (List Int)) := (Kd.pair (Kd.int .i64) (Kd.pair (Kd.slice 3 (Kd.int .i64)) (Kd.slice 3 (Kd.int .i64))))
theorem opp0 : Opens Try.prog (Kd.iso d0 id) (fun x => (Lit.int .i64 x.1).wf = true ∧ (x.2.1.length ≤ maxLen ∧ ∀ a ∈ x.2.1, (Lit.int .i64 a).wf = true) ∧ (x.2.2.length ≤ maxLen ∧ ∀ a ∈ x.2.2, (Lit.int .i64 a).wf = true)) 24 :=
  opens_struct (d := d0) Try.underlying24 (opensAt_cons (opens_int Try.underlying3) (by kernel_rfl) (opensAt_cons (opens_slice Try.underlying22 (opens_int Try.underlying3) (by kernel_rfl)) (by kernel_rfl) (opensAt_last (opens_slice Try.underlying22 (opens_int Try.underlying3) (by kernel_rfl)) (by kernel_rfl)))) (by kernel_rfl) id (fun _ => rfl)
/-- THE ONE PURE STATEMENT. -/
def laws_FnExactDead.Pure : Prop := ∀ (x0_0 : Int) (x0_1 : List Int) (x0_2 : List Int) (x1 : Int) (x2 : Int), (Lit.int .i64 x0_0).wf = true → (x0_1.length ≤ maxLen ∧ ∀ a ∈ x0_1, (Lit.int .i64 a).wf = true) → (x0_2.length ≤ maxLen ∧ ∀ a ∈ x0_2, (Lit.int .i64 a).wf = true) → (Lit.int .i64 x1).wf = true → (Lit.int .i64 x2).wf = true → ∃ k, laws_FnExactDead.f k x0_0 x0_1 x0_2 x1 x2 = some true

end Go.Proofs.Ytccgoaljeeghcaa.QFnExactDead
