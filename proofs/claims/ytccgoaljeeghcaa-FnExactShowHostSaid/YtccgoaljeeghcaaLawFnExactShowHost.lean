/- Proved: the given statement FnExactShowHostSaid: for every input the law returns true, and each argument reads behind the call as it read before. No condition of ours. -/
import Derived.Test.YtccgoaljeeghcaaRows
import Derived.Test.YtccgoaljeeghcaaArgFnExactShowHost
import Derived.Test.YtccgoaljeeghcaaPureFnExactShowHost
import Derived.WalkKit
import Derived.ProofKit
import Derived.OpenShut
import Derived.ShutString
import Derived.ChangeOld
import Derived.Below
import Derived.SizedLaws
namespace Go.Proofs.Ytccgoaljeeghcaa.fnExactShowHost
open Go.ChangeShapes Go.WideShapes Go.ChangeAt Go.RowKit Go.Proofs.YtccgoaljeeghcaaW.PrintWords Go.Proofs.Ytccgoaljeeghcaa.Open Go.Proofs.Ytccgoaljeeghcaa.QFnExactShowHost
open Go.ChangeMaps (open_string shut_string)
set_option linter.unusedVariables false
theorem own : ownKnob Try.prog.godebug = none := by kernel_rfl
theorem laidOut : laidOutB Try.prog = true := by kernel_rfl
set_option maxRecDepth 100000 in
theorem lifted (os : Os) (started : os.Started) (H : Type) (enc : TypeId × Value → H) :
    ReturnsInHanded {} Try.checked os 4 .any (Rows.fnExactShowHostSpec.pre6 enc Try.prog Try.f4 Rows.fnExactShowHostRow.domain false) (Rows.fnExactShowHostSpec.post enc Try.prog Try.f4 false true false false) := by
  refine returnsInHanded_of_change_sized (C := Try.checked) own started (by kernel_rfl) Try.func4
    (ChangeSpec.witness6 (enc := enc) (C := Try.checked) false ⟨#[], #[.agg #[.int .i64 0, .int .i64 0, .int .i64 0]], []⟩ 8 (by kernel_rfl) (by kernel_rfl) (by kernel_rfl) (by kernel_rfl)) ?_
  intro W base args ds gs before hval0 hW hcnd hsz0 _
  have hval : ∀ (j : Nat) t v, Try.f4.params[j]? = some t → args[j]? = some v → Value.okWide Try.prog W .any base t v := hval0
  have hW' := hW
  obtain ⟨p, q, hA0, hV, rfl, hfz, hnd⟩ := hW
  have hA : DataW.TrodAll enc Try.prog W 0 (fun _ => true) true Try.f4.params.toList args.toList ds p := hA0
  rw [Try.params4] at hA hval
  obtain ⟨v0, vs0, d0, ds0, p0, q0, hargs, rfl, rfl, h0, r0⟩ := trodAll_cons hA
  obtain ⟨rfl, rfl, rfl⟩ := trodAll_nil r0
  obtain rfl : args = #[v0] := by cases args; simp_all
  obtain ⟨rfl, rfl⟩ := trodVars_none hV
  have k0_ := h0
  have lt0 : ∀ x ∈ p0, x.block < W.heap.size := by obtain ⟨m, hm⟩ := k0_; exact DataW.trod_lt m _ _ _ hm
  obtain ⟨t0, cs0, rfl, hK0, hq0⟩ := open_param_struct Try.underlying34 opp0 (hval 0 34 v0 rfl rfl) h0
  obtain ⟨x0_0, x0_1⟩ := t0
  obtain ⟨w0_0, w0_1⟩ := hq0
  obtain ⟨_, _, e0_, rfl, ⟨_, _, rfl, rfl, rfl⟩⟩ := hK0
  obtain rfl : cs0 = #[.int .i64 x0_0, .int .i64 x0_1.f0, .int .i64 x0_1.f1] := by cases cs0; simpa using e0_
  clear hA0 hval0 hsz0
  obtain ⟨k, hp⟩ := Pure.FnExactShowHost x0_0 x0_1 w0_0 w0_1
  refine (laws_FnExactShowHost.calls k x0_0 x0_1.f0 x0_1.f1 true W  hp).mono fun e W' ⟨he, bel0⟩ => ?_
  subst he
  have bel : Below W.heap.size W W' := bel0
  exact ⟨_, rfl, _, _, _, [], _, [], hW', trodAll_mk1 (shut_bool Try.underlying4 _), (trodAll_cons_mk (Below.trod laidOut (by kernel_rfl) (of_decide_eq_true (by kernel_rfl)) k0_ bel lt0) trodAll_mk0), rfl, bel.frame _, fun h => by cases h⟩
theorem over : Rows.fnExactShowHostRow.holds Try.pinned (OpenSpec.ofChange Rows.fnExactShowHostSpec) :=
  OpenClaim.holds_of_wide 4 Try.f4 rfl rfl rfl rfl rfl rfl rfl ⟨rfl, rfl, rfl, rfl, rfl⟩ rfl rfl rfl rfl rfl (by kernel_rfl) Try.func4 (by kernel_rfl)
    (of_decide_eq_true (by kernel_rfl)) (by unfold Func.isWrapper; first | (rw [if_pos (by decide +kernel)]; kernel_rfl) | (rw [if_neg (by decide +kernel)]; exact ⟨rfl, rfl⟩))
    (fun os started H enc _ => lifted os started H enc)
theorem proved : Rows.FnExactShowHostSaid := over
#print axioms proved
end Go.Proofs.Ytccgoaljeeghcaa.fnExactShowHost
namespace Go.Proofs.Ytccgoaljeeghcaa
/-- The row, under a short name, for the claim. -/
theorem fnExactShowHost_holds : Rows.FnExactShowHostSaid := fnExactShowHost.proved
end Go.Proofs.Ytccgoaljeeghcaa
