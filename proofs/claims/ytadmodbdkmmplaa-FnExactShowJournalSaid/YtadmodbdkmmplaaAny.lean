/- Plain facts on lists that the contracts by hand name. No program in sight; no condition beyond each lemma's own premises. -/
import Derived.Shelf.Abstract
import Derived.Test.YtadmodbdkmmplaaWMore
namespace Go.Proofs.Ytadmodbdkmmplaa.Any
open Go.RowKit Go.Proofs.YtadmodbdkmmplaaW.PrintWords Go.Proofs.YtadmodbdkmmplaaW.PrintLast Go.Proofs.YtadmodbdkmmplaaW.PrintMore
set_option linter.unusedVariables false
set_option linter.unusedSimpArgs false

/-- The first place, counted from i on, at which p holds; or -1. -/
def hit {α : Type} (p : α → Bool) : Nat → List α → Int
  | _, [] => -1
  | i, x :: l => if p x = true then (i : Int) else hit p (i + 1) l
theorem hit_any {α : Type} (p : α → Bool) : ∀ (i : Nat) (l : List α), decide (0 ≤ hit p i l) = l.any p
  | _, [] => rfl
  | i, x :: l => by
    unfold hit
    cases h : p x with
    | true => simp [h]
    | false => simp [h, hit_any p (i + 1) l]
theorem hit_drop {α : Type} (p : α → Bool) (l : List α) (z : α) (k : Nat) (h : k < l.length) : hit p k (l.drop k) = if p (l.getD k z) = true then (k : Int) else hit p (k + 1) (l.drop (k + 1)) := by
  rw [List.drop_eq_getElem_cons h]
  simp only [hit, List.getD, List.getElem?_eq_getElem h, Option.getD_some]
theorem hit_end {α : Type} (p : α → Bool) (l : List α) (k : Nat) (h : l.length ≤ k) : hit p k (l.drop k) = -1 := by
  rw [List.drop_eq_nil_of_le h]; rfl
theorem eg_of {P : Program} {f : FuncId} {fn : Func} {c : Code} (hf : P.funcs[f]? = some fn) (hn : (fn.name == "runtime.NumGoroutine") = false) (hb : fn.body = some c) : ∀ args w, (callFunc f args).run P w = .ok (.enter f args) w := fun args w => enters_of hf hn hb args w
/-- Is a number from one to another one? -/
def inB (a b c : Int) : Bool := decide (b ≤ a) && decide (a ≤ c)

end Go.Proofs.Ytadmodbdkmmplaa.Any
