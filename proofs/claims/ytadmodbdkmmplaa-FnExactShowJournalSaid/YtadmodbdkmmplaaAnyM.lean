/- Plain facts on lists, for a test that may have no answer. No program in sight; no condition beyond each lemma's own premises. -/
import Derived.Test.YtadmodbdkmmplaaAny
namespace Go.Proofs.Ytadmodbdkmmplaa.Any
open Go.RowKit Go.Proofs.YtadmodbdkmmplaaW.PrintWords Go.Proofs.YtadmodbdkmmplaaW.PrintLast Go.Proofs.YtadmodbdkmmplaaW.PrintMore
set_option linter.unusedVariables false
set_option linter.unusedSimpArgs false

/-- The first place, counted from i on, at which p answers true; or -1; none where p has no answer ahead of it. -/
def hitM {α : Type} (p : α → Option Bool) : Nat → List α → Option Int
  | _, [] => some (-1)
  | i, x :: l => (p x).bind fun b => if b = true then some (i : Int) else hitM p (i + 1) l
theorem hitM_drop {α : Type} {p : α → Option Bool} {l : List α} (z : α) {k : Nat} {r : Int} (h : k < l.length) (hh : hitM p k (l.drop k) = some r) :
    ∃ b, p (l.getD k z) = some b ∧ (b = true → r = (k : Int)) ∧ (b = false → hitM p (k + 1) (l.drop (k + 1)) = some r) := by
  rw [List.drop_eq_getElem_cons h] at hh
  simp only [hitM, List.getD, List.getElem?_eq_getElem h, Option.getD_some] at hh ⊢
  cases hp : p l[k] with
  | none => rw [hp] at hh; simp at hh
  | some b =>
    rw [hp] at hh
    simp only [Option.bind_some] at hh
    refine ⟨b, rfl, ?_, ?_⟩
    · intro hb; subst hb; simpa using hh.symm
    · intro hb; subst hb; simpa using hh
theorem hitM_end {α : Type} {p : α → Option Bool} {l : List α} {k : Nat} {r : Int} (h : l.length ≤ k) (hh : hitM p k (l.drop k) = some r) : r = -1 := by
  rw [List.drop_eq_nil_of_le h] at hh; simpa [hitM] using hh.symm
/-- Does p answer true anywhere? -/
def anyM {α : Type} (p : α → Option Bool) (l : List α) : Option Bool := (hitM p 0 l).bind fun t => some (decide (0 ≤ t))
theorem hitM_eq {α : Type} {p : α → Option Bool} {q : α → Bool} : ∀ (i : Nat) (l : List α), (∀ x ∈ l, p x = some (q x)) → hitM p i l = some (hit q i l)
  | _, [], _ => rfl
  | i, x :: l, h => by
    unfold hitM hit
    rw [h x (by simp)]
    simp only [Option.bind_some]
    rw [hitM_eq (i + 1) l (fun y hy => h y (by simp [hy]))]
    split <;> rfl
theorem anyM_eq {α : Type} {p : α → Option Bool} {q : α → Bool} {l : List α} (h : ∀ x ∈ l, p x = some (q x)) : anyM p l = some (l.any q) := by
  unfold anyM
  rw [hitM_eq 0 l h]
  simp only [Option.bind_some]
  rw [hit_any]
theorem hitM_mono {α : Type} {p q : α → Option Bool} (h : ∀ x, LeO (p x) (q x)) : ∀ (i : Nat) (l : List α), LeO (hitM p i l) (hitM q i l)
  | _, [] => LeO.refl _
  | i, x :: l => by
    unfold hitM
    exact LeO.bind (h x) (fun b => LeO.ite (LeO.refl _) (hitM_mono h (i + 1) l))
theorem anyM_mono {α : Type} {p q : α → Option Bool} (h : ∀ x, LeO (p x) (q x)) (l : List α) : LeO (anyM p l) (anyM q l) := LeO.bind (hitM_mono h 0 l) (fun _ => LeO.refl _)

end Go.Proofs.Ytadmodbdkmmplaa.Any
