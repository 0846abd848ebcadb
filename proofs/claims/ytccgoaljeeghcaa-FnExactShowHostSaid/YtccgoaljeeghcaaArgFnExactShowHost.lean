/- How the arguments of FnExactShowHost are opened, and the one pure statement that is left of it. Conditions: none beyond each theorem's premises. -/
import Derived.Test.YtccgoaljeeghcaaQFnExactShowHostx5
import Derived.Test.YtccgoaljeeghcaaOpen
namespace Go.Proofs.Ytccgoaljeeghcaa.QFnExactShowHost
open Go.RowKit Go.Proofs.YtccgoaljeeghcaaW.PrintWords Go.Proofs.YtccgoaljeeghcaaW.PrintLast Go.Proofs.YtccgoaljeeghcaaW.PrintMore Go.Proofs.Ytccgoaljeeghcaa.Open
set_option linter.unusedVariables false

structure S32 where
  f0 : Int
  f1 : Int
def k32 : Kd S32 := Kd.iso (Kd.pair (Kd.int .i64) (Kd.int .i64)) (fun x : S32 => (x.f0, x.f1))
def q32 (b : S32) : Prop := (Lit.int .i64 b.f0).wf = true ∧ (Lit.int .i64 b.f1).wf = true
theorem op32 : Opens Try.prog k32 q32 32 :=
  opens_struct (d := (Kd.pair (Kd.int .i64) (Kd.int .i64))) Try.underlying32 (opensAt_cons (opens_int Try.underlying3) (by kernel_rfl) (opensAt_last (opens_int Try.underlying3) (by kernel_rfl))) (by kernel_rfl) (fun x => ⟨x.1, x.2⟩) (fun _ => rfl)
abbrev d0 : Kd (Int × S32) := (Kd.pair (Kd.int .i64) k32)
theorem opp0 : Opens Try.prog (Kd.iso d0 id) (fun x => (Lit.int .i64 x.1).wf = true ∧ q32 x.2) 34 :=
  opens_struct (d := d0) Try.underlying34 (opensAt_cons (opens_int Try.underlying3) (by kernel_rfl) (opensAt_last op32 (by kernel_rfl))) (by kernel_rfl) id (fun _ => rfl)
/-- THE ONE PURE STATEMENT. -/
def laws_FnExactShowHost.Pure : Prop := ∀ (x0_0 : Int) (x0_1 : S32), (Lit.int .i64 x0_0).wf = true → q32 x0_1 → ∃ k, laws_FnExactShowHost.f k x0_0 x0_1.f0 x0_1.f1 = some true

end Go.Proofs.Ytccgoaljeeghcaa.QFnExactShowHost
