/- How the arguments of FnExactShowJournal are opened, and the one pure statement that is left of it. Conditions: none beyond each theorem's premises. -/
import Derived.Test.YtadmodbdkmmplaaQFnExactShowJournalx10
import Derived.Test.YtadmodbdkmmplaaOpen
namespace Go.Proofs.Ytadmodbdkmmplaa.QFnExactShowJournal
open Go.RowKit Go.Proofs.YtadmodbdkmmplaaW.PrintWords Go.Proofs.YtadmodbdkmmplaaW.PrintLast Go.Proofs.YtadmodbdkmmplaaW.PrintMore Go.Proofs.Ytadmodbdkmmplaa.Open
set_option linter.unusedVariables false

structure S70 where
  f0 : Int
  f1 : Int
  f2 : Int
  f3 : Int
  f4 : ByteArray
def k70 : Kd S70 := Kd.iso (Kd.pair (Kd.int .i64) (Kd.pair (Kd.int .i64) (Kd.pair (Kd.int .i64) (Kd.pair (Kd.int .i64) Kd.string)))) (fun x : S70 => (x.f0, x.f1, x.f2, x.f3, x.f4))
def q70 (b : S70) : Prop := (Lit.int .i64 b.f0).wf = true ∧ (Lit.int .i64 b.f1).wf = true ∧ (Lit.int .i64 b.f2).wf = true ∧ (Lit.int .i64 b.f3).wf = true ∧ b.f4.size ≤ maxLen
theorem op70 : Opens Try.prog k70 q70 70 :=
  opens_struct (d := (Kd.pair (Kd.int .i64) (Kd.pair (Kd.int .i64) (Kd.pair (Kd.int .i64) (Kd.pair (Kd.int .i64) Kd.string))))) Try.underlying70 (opensAt_cons (opens_int Try.underlying3) (by kernel_rfl) (opensAt_cons (opens_int Try.underlying3) (by kernel_rfl) (opensAt_cons (opens_int Try.underlying3) (by kernel_rfl) (opensAt_cons (opens_int Try.underlying3) (by kernel_rfl) (opensAt_last (opens_string Try.underlying9) (by kernel_rfl)))))) (by kernel_rfl) (fun x => ⟨x.1, x.2.1, x.2.2.1, x.2.2.2.1, x.2.2.2.2⟩) (fun _ => rfl)
def q221 (b : S221) : Prop := (Lit.int .i64 b.f0).wf = true ∧ b.f1.size ≤ maxLen
theorem op221 : Opens Try.prog k221 q221 221 :=
  opens_struct (d := (Kd.pair (Kd.int .i64) Kd.string)) Try.underlying221 (opensAt_cons (opens_int Try.underlying3) (by kernel_rfl) (opensAt_last (opens_string Try.underlying9) (by kernel_rfl))) (by kernel_rfl) (fun x => ⟨x.1, x.2⟩) (fun _ => rfl)
abbrev d0 : Kd (Int × Bool × S70 × (List S221)) := (Kd.pair (Kd.int .i64) (Kd.pair Kd.bool (Kd.pair k70 (Kd.slice 221 k221))))
theorem opp0 : Opens Try.prog (Kd.iso d0 id) (fun x => (Lit.int .i64 x.1).wf = true ∧ True ∧ q70 x.2.2.1 ∧ (x.2.2.2.length ≤ maxLen ∧ ∀ a ∈ x.2.2.2, q221 a)) 73 :=
  opens_struct (d := d0) Try.underlying73 (opensAt_cons (opens_int Try.underlying3) (by kernel_rfl) (opensAt_cons (opens_bool Try.underlying4) (by kernel_rfl) (opensAt_cons op70 (by kernel_rfl) (opensAt_last (opens_slice Try.underlying71 op221 (by kernel_rfl)) (by kernel_rfl))))) (by kernel_rfl) id (fun _ => rfl)
/-- THE ONE PURE STATEMENT. -/
def laws_FnExactShowJournal.Pure : Prop := ∀ (x0_0 : Int) (x0_1 : Bool) (x0_2 : S70) (x0_3 : List S221), (Lit.int .i64 x0_0).wf = true → True → q70 x0_2 → (x0_3.length ≤ maxLen ∧ ∀ a ∈ x0_3, q221 a) → ∃ k, laws_FnExactShowJournal.f k x0_0 x0_1 x0_2.f0 x0_2.f1 x0_2.f2 x0_2.f3 x0_2.f4 x0_3 = some true

end Go.Proofs.Ytadmodbdkmmplaa.QFnExactShowJournal
