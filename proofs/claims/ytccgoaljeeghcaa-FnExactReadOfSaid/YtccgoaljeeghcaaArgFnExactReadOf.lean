/- How the arguments of FnExactReadOf are opened, and the one pure statement that is left of it. Conditions: none beyond each theorem's premises. -/
import Derived.Test.YtccgoaljeeghcaaQFnExactReadOfx5
import Derived.Test.YtccgoaljeeghcaaOpen
namespace Go.Proofs.Ytccgoaljeeghcaa.QFnExactReadOf
open Go.RowKit Go.Proofs.YtccgoaljeeghcaaW.PrintWords Go.Proofs.YtccgoaljeeghcaaW.PrintLast Go.Proofs.YtccgoaljeeghcaaW.PrintMore Go.Proofs.Ytccgoaljeeghcaa.Open
set_option linter.unusedVariables false

def q161 (b : S161) : Prop := True ∧ (b.f1.length ≤ maxLen ∧ ∀ a ∈ b.f1, True) ∧ (b.f2.length ≤ maxLen ∧ ∀ a ∈ b.f2, a.size ≤ maxLen)
theorem op161 : Opens Try.prog k161 q161 161 :=
  opens_struct (d := (Kd.pair Kd.bool (Kd.pair (Kd.slice 4 Kd.bool) (Kd.slice 9 Kd.string)))) Try.underlying161 (opensAt_cons (opens_bool Try.underlying4) (by kernel_rfl) (opensAt_cons (opens_slice Try.underlying111 (opens_bool Try.underlying4) (by kernel_rfl)) (by kernel_rfl) (opensAt_last (opens_slice Try.underlying76 (opens_string Try.underlying9) (by kernel_rfl)) (by kernel_rfl)))) (by kernel_rfl) (fun x => ⟨x.1, x.2.1, x.2.2⟩) (fun _ => rfl)
abbrev d0 : Kd ((List S161)) := (Kd.slice 161 k161)
theorem opp0 : Opens Try.prog (Kd.iso d0 id) (fun x => (x.length ≤ maxLen ∧ ∀ a ∈ x, q161 a)) 54 :=
  opens_struct (d := d0) Try.underlying54 (opensAt_last (opens_slice Try.underlying52 op161 (by kernel_rfl)) (by kernel_rfl)) (by kernel_rfl) id (fun _ => rfl)
/-- THE ONE PURE STATEMENT. -/
def laws_FnExactReadOf.Pure : Prop := ∀ (x0_0 : List S161) (x1 : Int) (x2 : Int), (x0_0.length ≤ maxLen ∧ ∀ a ∈ x0_0, q161 a) → (Lit.int .i64 x1).wf = true → (Lit.int .i64 x2).wf = true → ∃ k, laws_FnExactReadOf.f k x0_0 x1 x2 = some true

end Go.Proofs.Ytccgoaljeeghcaa.QFnExactReadOf
