/- How the arguments of FnExactShowVol are opened, and the one pure statement that is left of it. Conditions: none beyond each theorem's premises. -/
import Derived.Test.YtadmodbdkmmplaaQFnExactShowVolx7
import Derived.Test.YtadmodbdkmmplaaOpen
namespace Go.Proofs.Ytadmodbdkmmplaa.QFnExactShowVol
open Go.RowKit Go.Proofs.YtadmodbdkmmplaaW.PrintWords Go.Proofs.YtadmodbdkmmplaaW.PrintLast Go.Proofs.YtadmodbdkmmplaaW.PrintMore Go.Proofs.Ytadmodbdkmmplaa.Open
set_option linter.unusedVariables false

structure S43 where
  f0 : Int
  f1 : Int
def k43 : Kd S43 := Kd.iso (Kd.pair (Kd.int .i64) (Kd.int .i64)) (fun x : S43 => (x.f0, x.f1))
def q43 (b : S43) : Prop := (Lit.int .i64 b.f0).wf = true ∧ (Lit.int .i64 b.f1).wf = true
theorem op43 : Opens Try.prog k43 q43 43 :=
  opens_struct (d := (Kd.pair (Kd.int .i64) (Kd.int .i64))) Try.underlying43 (opensAt_cons (opens_int Try.underlying3) (by kernel_rfl) (opensAt_last (opens_int Try.underlying3) (by kernel_rfl))) (by kernel_rfl) (fun x => ⟨x.1, x.2⟩) (fun _ => rfl)
abbrev d0 : Kd (S43 × Bool × (List Int)) := (Kd.pair k43 (Kd.pair Kd.bool (Kd.slice 3 (Kd.int .i64))))
theorem opp0 : Opens Try.prog (Kd.iso d0 id) (fun x => q43 x.1 ∧ True ∧ (x.2.2.length ≤ maxLen ∧ ∀ a ∈ x.2.2, (Lit.int .i64 a).wf = true)) 45 :=
  opens_struct (d := d0) Try.underlying45 (opensAt_cons op43 (by kernel_rfl) (opensAt_cons (opens_bool Try.underlying4) (by kernel_rfl) (opensAt_last (opens_slice Try.underlying23 (opens_int Try.underlying3) (by kernel_rfl)) (by kernel_rfl)))) (by kernel_rfl) id (fun _ => rfl)
/-- THE ONE PURE STATEMENT. -/
def laws_FnExactShowVol.Pure : Prop := ∀ (x0_0 : S43) (x0_1 : Bool) (x0_2 : List Int), q43 x0_0 → True → (x0_2.length ≤ maxLen ∧ ∀ a ∈ x0_2, (Lit.int .i64 a).wf = true) → ∃ k, laws_FnExactShowVol.f k x0_0.f0 x0_0.f1 x0_1 x0_2 = some true

end Go.Proofs.Ytadmodbdkmmplaa.QFnExactShowVol
