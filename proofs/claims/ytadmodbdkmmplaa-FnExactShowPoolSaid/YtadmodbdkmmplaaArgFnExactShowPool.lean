/- How the arguments of FnExactShowPool are opened, and the one pure statement that is left of it. Conditions: none beyond each theorem's premises. -/
import Derived.Test.YtadmodbdkmmplaaQFnExactShowPoolx6
import Derived.Test.YtadmodbdkmmplaaOpen
namespace Go.Proofs.Ytadmodbdkmmplaa.QFnExactShowPool
open Go.RowKit Go.Proofs.YtadmodbdkmmplaaW.PrintWords Go.Proofs.YtadmodbdkmmplaaW.PrintLast Go.Proofs.YtadmodbdkmmplaaW.PrintMore Go.Proofs.Ytadmodbdkmmplaa.Open
set_option linter.unusedVariables false

def q198 (b : S198) : Prop := True ∧ (b.f1.length ≤ maxLen ∧ ∀ a ∈ b.f1, True) ∧ (b.f2.length ≤ maxLen ∧ ∀ a ∈ b.f2, a.size ≤ maxLen)
theorem op198 : Opens Try.prog k198 q198 198 :=
  opens_struct (d := (Kd.pair Kd.bool (Kd.pair (Kd.slice 4 Kd.bool) (Kd.slice 9 Kd.string)))) Try.underlying198 (opensAt_cons (opens_bool Try.underlying4) (by kernel_rfl) (opensAt_cons (opens_slice Try.underlying149 (opens_bool Try.underlying4) (by kernel_rfl)) (by kernel_rfl) (opensAt_last (opens_slice Try.underlying22 (opens_string Try.underlying9) (by kernel_rfl)) (by kernel_rfl)))) (by kernel_rfl) (fun x => ⟨x.1, x.2.1, x.2.2⟩) (fun _ => rfl)
abbrev d0 : Kd ((List S198)) := (Kd.slice 198 k198)
theorem opp0 : Opens Try.prog (Kd.iso d0 id) (fun x => (x.length ≤ maxLen ∧ ∀ a ∈ x, q198 a)) 34 :=
  opens_struct (d := d0) Try.underlying34 (opensAt_last (opens_slice Try.underlying32 op198 (by kernel_rfl)) (by kernel_rfl)) (by kernel_rfl) id (fun _ => rfl)
/-- THE ONE PURE STATEMENT. -/
def laws_FnExactShowPool.Pure : Prop := ∀ (x0_0 : List S198), (x0_0.length ≤ maxLen ∧ ∀ a ∈ x0_0, q198 a) → ∃ k, laws_FnExactShowPool.f k x0_0 = some true

end Go.Proofs.Ytadmodbdkmmplaa.QFnExactShowPool
