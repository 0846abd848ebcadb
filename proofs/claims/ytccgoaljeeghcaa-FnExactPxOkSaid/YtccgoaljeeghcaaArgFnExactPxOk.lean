/- How the arguments of FnExactPxOk are opened, and the one pure statement that is left of it. Conditions: none beyond each theorem's premises. -/
import Derived.Test.YtccgoaljeeghcaaQFnExactPxOkx6
import Derived.Test.YtccgoaljeeghcaaOpen
namespace Go.Proofs.Ytccgoaljeeghcaa.QFnExactPxOk
open Go.RowKit Go.Proofs.YtccgoaljeeghcaaW.PrintWords Go.Proofs.YtccgoaljeeghcaaW.PrintLast Go.Proofs.YtccgoaljeeghcaaW.PrintMore Go.Proofs.Ytccgoaljeeghcaa.Open
set_option linter.unusedVariables false

def q168 (b : S168) : Prop := (Lit.int .i64 b.f0).wf = true ∧ (Lit.int .i64 b.f1).wf = true ∧ (Lit.int .i64 b.f2).wf = true
theorem op168 : Opens Try.prog k168 q168 168 :=
  opens_struct (d := (Kd.pair (Kd.int .i64) (Kd.pair (Kd.int .i64) (Kd.int .i64)))) Try.underlying168 (opensAt_cons (opens_int Try.underlying3) (by kernel_rfl) (opensAt_cons (opens_int Try.underlying3) (by kernel_rfl) (opensAt_last (opens_int Try.underlying3) (by kernel_rfl)))) (by kernel_rfl) (fun x => ⟨x.1, x.2.1, x.2.2⟩) (fun _ => rfl)
def q170 (b : S170) : Prop := (Lit.int .i64 b.f0).wf = true ∧ (Lit.int .i64 b.f1).wf = true ∧ q168 b.f2 ∧ (b.f3.length ≤ maxLen ∧ ∀ a ∈ b.f3, True)
theorem op170 : Opens Try.prog k170 q170 170 :=
  opens_struct (d := (Kd.pair (Kd.int .i64) (Kd.pair (Kd.int .i64) (Kd.pair k168 (Kd.slice 4 Kd.bool))))) Try.underlying170 (opensAt_cons (opens_int Try.underlying3) (by kernel_rfl) (opensAt_cons (opens_int Try.underlying3) (by kernel_rfl) (opensAt_cons op168 (by kernel_rfl) (opensAt_last (opens_slice Try.underlying111 (opens_bool Try.underlying4) (by kernel_rfl)) (by kernel_rfl))))) (by kernel_rfl) (fun x => ⟨x.1, x.2.1, x.2.2.1, x.2.2.2⟩) (fun _ => rfl)
abbrev d0 : Kd ((List S168) × (List S170)) := (Kd.pair (Kd.slice 168 k168) (Kd.slice 170 k170))
theorem opp0 : Opens Try.prog (Kd.iso d0 id) (fun x => (x.1.length ≤ maxLen ∧ ∀ a ∈ x.1, q168 a) ∧ (x.2.length ≤ maxLen ∧ ∀ a ∈ x.2, q170 a)) 71 :=
  opens_struct (d := d0) Try.underlying71 (opensAt_cons (opens_slice Try.underlying68 op168 (by kernel_rfl)) (by kernel_rfl) (opensAt_last (opens_slice Try.underlying69 op170 (by kernel_rfl)) (by kernel_rfl))) (by kernel_rfl) id (fun _ => rfl)
/-- THE ONE PURE STATEMENT. -/
def laws_FnExactPxOk.Pure : Prop := ∀ (x0_0 : List S168) (x0_1 : List S170), (x0_0.length ≤ maxLen ∧ ∀ a ∈ x0_0, q168 a) → (x0_1.length ≤ maxLen ∧ ∀ a ∈ x0_1, q170 a) → ∃ k, laws_FnExactPxOk.f k x0_0 x0_1 = some true

end Go.Proofs.Ytccgoaljeeghcaa.QFnExactPxOk
