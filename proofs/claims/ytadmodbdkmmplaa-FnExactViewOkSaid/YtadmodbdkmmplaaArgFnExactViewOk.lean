/- How the arguments of FnExactViewOk are opened, and the one pure statement that is left of it. Conditions: none beyond each theorem's premises. -/
import Derived.Test.YtadmodbdkmmplaaQFnExactViewOkx11
import Derived.Test.YtadmodbdkmmplaaOpen
namespace Go.Proofs.Ytadmodbdkmmplaa.QFnExactViewOk
open Go.RowKit Go.Proofs.YtadmodbdkmmplaaW.PrintWords Go.Proofs.YtadmodbdkmmplaaW.PrintLast Go.Proofs.YtadmodbdkmmplaaW.PrintMore Go.Proofs.Ytadmodbdkmmplaa.Open
set_option linter.unusedVariables false

def q43 (b : S43) : Prop := (Lit.int .i64 b.f0).wf = true ∧ (Lit.int .i64 b.f1).wf = true
theorem op43 : Opens Try.prog k43 q43 43 :=
  opens_struct (d := (Kd.pair (Kd.int .i64) (Kd.int .i64))) Try.underlying43 (opensAt_cons (opens_int Try.underlying3) (by kernel_rfl) (opensAt_last (opens_int Try.underlying3) (by kernel_rfl))) (by kernel_rfl) (fun x => ⟨x.1, x.2⟩) (fun _ => rfl)
def q45 (b : S45) : Prop := q43 b.f0 ∧ True ∧ (b.f2.length ≤ maxLen ∧ ∀ a ∈ b.f2, (Lit.int .i64 a).wf = true)
theorem op45 : Opens Try.prog k45 q45 45 :=
  opens_struct (d := (Kd.pair k43 (Kd.pair Kd.bool (Kd.slice 3 (Kd.int .i64))))) Try.underlying45 (opensAt_cons op43 (by kernel_rfl) (opensAt_cons (opens_bool Try.underlying4) (by kernel_rfl) (opensAt_last (opens_slice Try.underlying23 (opens_int Try.underlying3) (by kernel_rfl)) (by kernel_rfl)))) (by kernel_rfl) (fun x => ⟨x.1, x.2.1, x.2.2⟩) (fun _ => rfl)
def q226 (b : S226) : Prop := q43 b.f0 ∧ (b.f1.length ≤ maxLen ∧ ∀ a ∈ b.f1, (Lit.int .i64 a).wf = true)
theorem op226 : Opens Try.prog k226 q226 226 :=
  opens_struct (d := (Kd.pair k43 (Kd.slice 3 (Kd.int .i64)))) Try.underlying226 (opensAt_cons op43 (by kernel_rfl) (opensAt_last (opens_slice Try.underlying23 (opens_int Try.underlying3) (by kernel_rfl)) (by kernel_rfl))) (by kernel_rfl) (fun x => ⟨x.1, x.2⟩) (fun _ => rfl)
abbrev d0 : Kd (S43 × (List S45) × (List S226) × (List Int)) := (Kd.pair k43 (Kd.pair (Kd.slice 45 k45) (Kd.pair (Kd.slice 226 k226) (Kd.slice 3 (Kd.int .i64)))))
theorem opp0 : Opens Try.prog (Kd.iso d0 id) (fun x => q43 x.1 ∧ (x.2.1.length ≤ maxLen ∧ ∀ a ∈ x.2.1, q45 a) ∧ (x.2.2.1.length ≤ maxLen ∧ ∀ a ∈ x.2.2.1, q226 a) ∧ (x.2.2.2.length ≤ maxLen ∧ ∀ a ∈ x.2.2.2, (Lit.int .i64 a).wf = true)) 86 :=
  opens_struct (d := d0) Try.underlying86 (opensAt_cons op43 (by kernel_rfl) (opensAt_cons (opens_slice Try.underlying83 op45 (by kernel_rfl)) (by kernel_rfl) (opensAt_cons (opens_slice Try.underlying84 op226 (by kernel_rfl)) (by kernel_rfl) (opensAt_last (opens_slice Try.underlying23 (opens_int Try.underlying3) (by kernel_rfl)) (by kernel_rfl))))) (by kernel_rfl) id (fun _ => rfl)
/-- THE ONE PURE STATEMENT. -/
def laws_FnExactViewOk.Pure : Prop := ∀ (x0_0 : S43) (x0_1 : List S45) (x0_2 : List S226) (x0_3 : List Int), q43 x0_0 → (x0_1.length ≤ maxLen ∧ ∀ a ∈ x0_1, q45 a) → (x0_2.length ≤ maxLen ∧ ∀ a ∈ x0_2, q226 a) → (x0_3.length ≤ maxLen ∧ ∀ a ∈ x0_3, (Lit.int .i64 a).wf = true) → ∃ k, laws_FnExactViewOk.f k x0_0.f0 x0_0.f1 x0_1 x0_2 x0_3 = some true

end Go.Proofs.Ytadmodbdkmmplaa.QFnExactViewOk
