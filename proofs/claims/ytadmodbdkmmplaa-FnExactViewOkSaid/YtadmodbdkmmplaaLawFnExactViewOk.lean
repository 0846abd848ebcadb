/- Proved: the given statement FnExactViewOkSaid: for every input the law returns true, and each argument reads behind the call as it read before. No condition of ours. -/
import Derived.Test.YtadmodbdkmmplaaRows
import Derived.Test.YtadmodbdkmmplaaArgFnExactViewOk
import Derived.Test.YtadmodbdkmmplaaPureFnExactViewOk
import Derived.WalkKit
import Derived.ProofKit
import Derived.OpenShut
import Derived.ShutString
import Derived.ChangeOld
import Derived.Below
import Derived.SizedLaws
namespace Go.Proofs.Ytadmodbdkmmplaa.fnExactViewOk
open Go.ChangeShapes Go.WideShapes Go.ChangeAt Go.RowKit Go.Proofs.YtadmodbdkmmplaaW.PrintWords Go.Proofs.Ytadmodbdkmmplaa.Open Go.Proofs.Ytadmodbdkmmplaa.QFnExactViewOk
open Go.ChangeMaps (open_string shut_string)
set_option linter.unusedVariables false
theorem own : ownKnob Try.prog.godebug = none := by kernel_rfl
theorem laidOut : laidOutB Try.prog = true := by kernel_rfl
set_option maxRecDepth 100000 in
theorem lifted (os : Os) (started : os.Started) (H : Type) (enc : TypeId × Value → H) :
    ReturnsInHanded {} Try.checked os 10 .any (Rows.fnExactViewOkSpec.pre6 enc Try.prog Try.f10 Rows.fnExactViewOkRow.domain false) (Rows.fnExactViewOkSpec.post enc Try.prog Try.f10 false true false false) := by
  refine returnsInHanded_of_change_sized (C := Try.checked) own started (by kernel_rfl) Try.func10
    (ChangeSpec.witness6 (enc := enc) (C := Try.checked) false ⟨#[], #[.agg #[.int .i64 0, .int .i64 0, .slice none 0 0, .slice none 0 0, .slice none 0 0]], []⟩ 8 (by kernel_rfl) (by kernel_rfl) (by kernel_rfl) (by kernel_rfl)) ?_
  intro W base args ds gs before hval0 hW hcnd hsz0 _
  have hval : ∀ (j : Nat) t v, Try.f10.params[j]? = some t → args[j]? = some v → Value.okWide Try.prog W .any base t v := hval0
  have hW' := hW
  obtain ⟨p, q, hA0, hV, rfl, hfz, hnd⟩ := hW
  have hA : DataW.TrodAll enc Try.prog W 0 (fun _ => true) true Try.f10.params.toList args.toList ds p := hA0
  rw [Try.params10] at hA hval
  obtain ⟨v0, vs0, d0, ds0, p0, q0, hargs, rfl, rfl, h0, r0⟩ := trodAll_cons hA
  obtain ⟨rfl, rfl, rfl⟩ := trodAll_nil r0
  obtain rfl : args = #[v0] := by cases args; simp_all
  obtain ⟨rfl, rfl⟩ := trodVars_none hV
  have k0_ := h0
  have lt0 : ∀ x ∈ p0, x.block < W.heap.size := by obtain ⟨m, hm⟩ := k0_; exact DataW.trod_lt m _ _ _ hm
  obtain ⟨t0, cs0, rfl, hK0, hq0⟩ := open_param_struct Try.underlying86 opp0 (hval 0 86 v0 rfl rfl) h0
  obtain ⟨x0_0, x0_1, x0_2, x0_3⟩ := t0
  obtain ⟨w0_0, w0_1, w0_2, w0_3⟩ := hq0
  obtain ⟨_, _, e0_, ⟨_, _, rfl, rfl, rfl⟩, ⟨_, _, rfl, ⟨B1, g1, rfl, hl_1, hr_1⟩, ⟨_, _, rfl, ⟨B2, g2, rfl, hl_2, hr_2⟩, ⟨B3, g3, rfl, hl_3, hr_3⟩⟩⟩⟩ := hK0
  obtain rfl : cs0 = #[.int .i64 x0_0.f0, .int .i64 x0_0.f1, .slice B1 x0_1.length g1, .slice B2 x0_2.length g2, .slice B3 x0_3.length g3] := by cases cs0; simpa using e0_
  clear hA0 hval0 hsz0
  obtain ⟨k, hp⟩ := Pure.FnExactViewOk x0_0 x0_1 x0_2 x0_3 w0_0 w0_1 w0_2 w0_3
  refine (laws_FnExactViewOk.calls k x0_0.f0 x0_0.f1 B1 g1 x0_1 B2 g2 x0_2 B3 g3 x0_3 true W hr_1 hl_1 hr_2 hl_2 hr_3 hl_3 hp).mono fun e W' ⟨he, bel0⟩ => ?_
  subst he
  have bel : Below W.heap.size W W' := bel0
  exact ⟨_, rfl, _, _, _, [], _, [], hW', trodAll_mk1 (shut_bool Try.underlying4 _), (trodAll_cons_mk (Below.trod laidOut (by kernel_rfl) (of_decide_eq_true (by kernel_rfl)) k0_ bel lt0) trodAll_mk0), rfl, bel.frame _, fun h => by cases h⟩
theorem over : Rows.fnExactViewOkRow.holds Try.pinned (OpenSpec.ofChange Rows.fnExactViewOkSpec) :=
  OpenClaim.holds_of_wide 10 Try.f10 rfl rfl rfl rfl rfl rfl rfl ⟨rfl, rfl, rfl, rfl, rfl⟩ rfl rfl rfl rfl rfl (by kernel_rfl) Try.func10 (by kernel_rfl)
    (of_decide_eq_true (by kernel_rfl)) (by unfold Func.isWrapper; first | (rw [if_pos (by decide +kernel)]; kernel_rfl) | (rw [if_neg (by decide +kernel)]; exact ⟨rfl, rfl⟩))
    (fun os started H enc _ => lifted os started H enc)
theorem proved : Rows.FnExactViewOkSaid := over
#print axioms proved
end Go.Proofs.Ytadmodbdkmmplaa.fnExactViewOk
namespace Go.Proofs.Ytadmodbdkmmplaa
/-- The row, under a short name, for the claim. -/
theorem fnExactViewOk_holds : Rows.FnExactViewOkSaid := fnExactViewOk.proved
end Go.Proofs.Ytadmodbdkmmplaa
