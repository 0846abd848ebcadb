/- How the arguments of FnExactShowGroup are opened, and the one pure statement that is left of it. Conditions: none beyond each theorem's premises. -/
import Derived.Test.YtccgoaljeeghcaaQFnExactShowGroupx6
import Derived.Test.YtccgoaljeeghcaaOpen
namespace Go.Proofs.Ytccgoaljeeghcaa.QFnExactShowGroup
open Go.RowKit Go.Proofs.YtccgoaljeeghcaaW.PrintWords Go.Proofs.YtccgoaljeeghcaaW.PrintLast Go.Proofs.YtccgoaljeeghcaaW.PrintMore Go.Proofs.Ytccgoaljeeghcaa.Open
set_option linter.unusedVariables false

structure S32 where
  f0 : Int
  f1 : Int
def k32 : Kd S32 := Kd.iso (Kd.pair (Kd.int .i64) (Kd.int .i64)) (fun x : S32 => (x.f0, x.f1))
def q32 (b : S32) : Prop := (Lit.int .i64 b.f0).wf = true ∧ (Lit.int .i64 b.f1).wf = true
theorem op32 : Opens Try.prog k32 q32 32 :=
  opens_struct (d := (Kd.pair (Kd.int .i64) (Kd.int .i64))) Try.underlying32 (opensAt_cons (opens_int Try.underlying3) (by kernel_rfl) (opensAt_last (opens_int Try.underlying3) (by kernel_rfl))) (by kernel_rfl) (fun x => ⟨x.1, x.2⟩) (fun _ => rfl)
abbrev d0 : Kd (S32 × (List Int)) := (Kd.pair k32 (Kd.slice 3 (Kd.int .i64)))
theorem opp0 : Opens Try.prog (Kd.iso d0 id) (fun x => q32 x.1 ∧ (x.2.length ≤ maxLen ∧ ∀ a ∈ x.2, (Lit.int .i64 a).wf = true)) 89 :=
  opens_struct (d := d0) Try.underlying89 (opensAt_cons op32 (by kernel_rfl) (opensAt_last (opens_slice Try.underlying22 (opens_int Try.underlying3) (by kernel_rfl)) (by kernel_rfl))) (by kernel_rfl) id (fun _ => rfl)
/-- THE ONE PURE STATEMENT. -/
def laws_FnExactShowGroup.Pure : Prop := ∀ (x0_0 : S32) (x0_1 : List Int), q32 x0_0 → (x0_1.length ≤ maxLen ∧ ∀ a ∈ x0_1, (Lit.int .i64 a).wf = true) → ∃ k, laws_FnExactShowGroup.f k x0_0.f0 x0_0.f1 x0_1 = some true

end Go.Proofs.Ytccgoaljeeghcaa.QFnExactShowGroup
