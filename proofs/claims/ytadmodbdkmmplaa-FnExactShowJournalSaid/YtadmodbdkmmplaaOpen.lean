/- An argument of whatever shape (numbers, bools, strings, structs, slices of such, nested) that can be read as data, opened into a Lean value of the print's kinds. No program in sight; no condition beyond each lemma's own premises. -/
import Derived.Deep.Slices
import Derived.Lib.SmallJoins
import Derived.Test.YtadmodbdkmmplaaWWords
namespace Go.Proofs.Ytadmodbdkmmplaa.Open
open Go.RowKit Go.Proofs.YtadmodbdkmmplaaW.PrintWords Go.ChangeShapes Go.WideShapes
set_option linter.unusedVariables false
set_option linter.unusedSimpArgs false

/-- What reads as data of type t is a value of the kind d with the property q. -/
def Opens (P : Program) {α : Type} (d : Kd α) (q : α → Prop) (t : TypeId) : Prop :=
  ∀ {H : Type} {enc : TypeId × Value → H} {w : World} {base : Nat} {spare : Nat → Bool} {held : Bool} {fuel : Nat} {cs : List Value} {x : DataW H × List MemPlace},
    DataW.trod enc P w base spare held fuel t cs = some x → ∃ a : α, d.K w a cs ∧ q a

section
variable {P : Program}
theorem opens_int {t : TypeId} {k : IntKind} (ht : P.underlying t = some (.int k)) : Opens P (Kd.int k) (fun n => (Lit.int k n).wf = true) t := by
  intro H enc w base spare held fuel cs x h
  obtain ⟨n, rfl, _, hw⟩ := DataW.trod_int ht h
  exact ⟨n, rfl, hw⟩
theorem opens_bool {t : TypeId} (ht : P.underlying t = some .bool) : Opens P Kd.bool (fun _ => True) t := by
  intro H enc w base spare held fuel cs x h
  obtain ⟨n, rfl, _⟩ := DataW.trod_bool ht h
  exact ⟨n, rfl, trivial⟩
theorem opens_string {t : TypeId} (ht : P.underlying t = some .string) : Opens P Kd.string (fun s => s.size ≤ maxLen) t := by
  intro H enc w base spare held fuel cs x h
  obtain ⟨s, rfl, _, hs⟩ := DataW.trod_string ht h
  exact ⟨s, rfl, hs⟩
theorem cells?_each {w : World} {base : Nat} {a : Addr} {n : Nat} {cs : List Value} (h : w.cells? base a n = some cs) : ∀ j u, cs[j]? = some u → w.cell? (a.add j) = some u := by
  intro j u hu
  obtain ⟨hl, hc⟩ := World.cells?_some h
  have hj : j < n := by have := (List.getElem?_eq_some_iff.1 hu).1; omega
  rw [hc.2 j hj, hu]
theorem opens_slice {α : Type} {d : Kd α} {q : α → Prop} {t e : TypeId} (ht : P.underlying t = some (.slice e)) (he : Opens P d q e) (hs : P.cellsOf e = d.sz) :
    Opens P (Kd.slice e d) (fun l => l.length ≤ maxLen ∧ ∀ a ∈ l, q a) t := by
  intro H enc w base spare held fuel cs x h
  rcases Deep.open_slice ht h with ⟨rfl, _⟩ | ⟨a, len, cap, m, n, D, Pl, rfl, hb, hl, hm, hmm, _, hel⟩
  · exact ⟨[], ⟨none, 0, rfl, Nat.le_refl _, rfl, by simp, fun hn => absurd hn (by simp)⟩, by simp, by simp⟩
  · have hlm : len ≤ m := by rw [hmm]; split <;> omega
    have h1 : ∀ i, i < len → ∃ (y : α) (c : List Value), (d.K w y c ∧ q y) ∧ ∀ j u, c[j]? = some u → w.cell? ((a.add (i * P.cellsOf e)).add j) = some u := by
      intro i hi
      obtain ⟨cs', h2, h3⟩ := hel i (by omega)
      obtain ⟨y, hy, hq⟩ := he h3
      exact ⟨y, cs', ⟨hy, hq⟩, cells?_each h2⟩
    have h2 : ∃ l : List α, l.length = len ∧ ∀ i y, l[i]? = some y → ∃ c : List Value, (d.K w y c ∧ q y) ∧ ∀ j u, c[j]? = some u → w.cell? ((a.add (i * P.cellsOf e)).add j) = some u := by
      clear hel hmm hlm hm hl h
      rename_i x_ 
      clear x_
      induction len with
      | zero => exact ⟨[], rfl, fun i y h => by simp at h⟩
      | succ k ih =>
        obtain ⟨l, hl, hx⟩ := ih (fun i hi => h1 i (by omega))
        obtain ⟨y, hy⟩ := h1 k (by omega)
        refine ⟨l ++ [y], by simp [hl], fun i z hz => ?_⟩
        rcases Nat.lt_or_ge i l.length with hi | hi
        · rw [List.getElem?_append_left hi] at hz
          exact hx i z hz
        · rw [List.getElem?_append_right hi] at hz
          have h0 : i - l.length = 0 := by
            have := (List.getElem?_eq_some_iff.1 hz).1
            simp at this
            omega
          rw [h0] at hz
          simp at hz
          subst hz
          rw [show i = k by omega]
          exact hy
    obtain ⟨l, hll, hx⟩ := h2
    refine ⟨l, ⟨some a, cap, by rw [hll], by omega, rfl, ?_, fun _ => ⟨a, rfl, fun j p hj => ?_⟩⟩, by omega, fun y hy => ?_⟩
    · unfold maxLen at hm; omega
    · obtain ⟨c, ⟨hc, _⟩, hcell⟩ := hx j p hj
      refine ⟨c, d.K_len hc, hc, fun i u hu => ?_⟩
      rw [← hs, ← Deep.add_add]
      exact hcell i u hu
    · obtain ⟨i, hi, rfl⟩ := List.mem_iff_getElem.1 hy
      obtain ⟨c, ⟨_, hq⟩, _⟩ := hx i _ (List.getElem?_eq_getElem hi)
      exact hq

/-- The fields of a struct from one on, the first of them at a place. -/
def OpensAt (P : Program) {α : Type} (d : Kd α) (q : α → Prop) (off : Nat) (fs : List Field) : Prop :=
  ∀ {H : Type} {enc : TypeId × Value → H} {w : World} {base : Nat} {spare : Nat → Bool} {held : Bool} {fuel : Nat} {cs : List Value},
    (∀ f ∈ fs, ∃ x, DataW.trod enc P w base spare held fuel f.type ((cs.drop f.offset).take (P.cellsOf f.type)) = some x) → ∃ a : α, d.K w a ((cs.drop off).take d.sz) ∧ q a
theorem opensAt_last {α : Type} {d : Kd α} {q : α → Prop} {f : Field} (he : Opens P d q f.type) (hs : P.cellsOf f.type = d.sz) : OpensAt P d q f.offset [f] := by
  intro H enc w base spare held fuel cs h
  obtain ⟨x, hx⟩ := h f (by simp)
  obtain ⟨a, ha⟩ := he hx
  rw [hs] at ha
  exact ⟨a, ha⟩
theorem opensAt_cons {α β : Type} {d : Kd α} {d2 : Kd β} {q : α → Prop} {q2 : β → Prop} {f : Field} {fs : List Field} (he : Opens P d q f.type) (hs : P.cellsOf f.type = d.sz) (hr : OpensAt P d2 q2 (f.offset + d.sz) fs) :
    OpensAt P (Kd.pair d d2) (fun x => q x.1 ∧ q2 x.2) f.offset (f :: fs) := by
  intro H enc w base spare held fuel cs h
  obtain ⟨x, hx⟩ := h f (by simp)
  obtain ⟨a, ha, hq⟩ := he hx
  rw [hs] at ha
  obtain ⟨b, hb, hq2⟩ := hr (cs := cs) (fun g hg => h g (List.mem_cons_of_mem _ hg))
  refine ⟨(a, b), ⟨_, _, ?_, ha, hb⟩, hq, hq2⟩
  show (cs.drop f.offset).take (d.sz + d2.sz) = _
  rw [List.take_add, List.drop_drop]
theorem opens_struct {α β : Type} {d : Kd α} {q : α → Prop} {proj : β → α} {t : TypeId} {fs : Array Field} (ht : P.underlying t = some (.struct fs)) (hr : OpensAt P d q 0 fs.toList) (hs : P.cellsOf t = d.sz) (mk : α → β) (hm : ∀ a, proj (mk a) = a) :
    Opens P (Kd.iso d proj) (fun b => q (proj b)) t := by
  intro H enc w base spare held fuel cs x h
  obtain ⟨xs, n, _, _, hl, hxl, hf⟩ := DataW.trod_struct ht h
  obtain ⟨a, ha, hq⟩ := hr (cs := cs) (fuel := n) (enc := enc) (w := w) (base := base) (spare := spare) (held := held) (fun f hfm => by
    obtain ⟨i, hi, rfl⟩ := List.mem_iff_getElem.1 hfm
    have hi' : i < fs.size := by simpa using hi
    have := hf i _ (Array.getElem?_eq_getElem hi')
    have hx : i < xs.length := by omega
    rw [List.getElem?_eq_getElem hx] at this
    exact ⟨_, this⟩)
  refine ⟨mk a, ?_, show q (proj (mk a)) by rw [hm]; exact hq⟩
  show d.K w (proj (mk a)) cs
  rw [hm]
  rw [List.drop_zero, List.take_of_length_le (by rw [hl, hs]; exact Nat.le_refl _)] at ha
  exact ha
theorem Opens.mono {α : Type} {d : Kd α} {q q' : α → Prop} {t : TypeId} (h : Opens P d q t) (hq : ∀ a, q a → q' a) : Opens P d q' t := by
  intro H enc w base spare held fuel cs x hx
  obtain ⟨a, ha, hb⟩ := h hx
  exact ⟨a, ha, hq a hb⟩

/-- A parameter that is a struct: its value written out, its cells told. -/
theorem open_param_struct {α : Type} {d : Kd α} {q : α → Prop} {t : TypeId} {fs : Array Field} (ht : P.underlying t = some (.struct fs)) (ho : Opens P d q t)
    {H : Type} {enc : TypeId × Value → H} {w : World} {base b0 : Nat} {spare : Nat → Bool} {held : Bool} {r : Reach} {v : Value} {x : DataW H} {p : List MemPlace} (hv : Value.okWide P w r b0 t v) (h : DataW.Trod enc P w base spare held t v x p) :
    ∃ a cs, v = .agg cs ∧ d.K w a cs.toList ∧ q a := by
  obtain ⟨cs, rfl, hsz⟩ := okWide_struct ht hv
  obtain ⟨fuel, hf⟩ := h
  obtain ⟨a, ha, hq⟩ := ho hf
  exact ⟨a, cs, rfl, by simpa [Value.cells] using ha, hq⟩
/-- A parameter that is a slice. -/
theorem open_param_slice {α : Type} {d : Kd α} {q : List α → Prop} {t e : TypeId} (ho : Opens P (Kd.slice e d) q t) (ht : P.underlying t = some (.slice e))
    {H : Type} {enc : TypeId × Value → H} {w : World} {base b0 : Nat} {spare : Nat → Bool} {held : Bool} {r : Reach} {v : Value} {x : DataW H} {p : List MemPlace} (hv : Value.okWide P w r b0 t v) (h : DataW.Trod enc P w base spare held t v x p) :
    ∃ (l : List α) (A : Option Addr) (c : Nat), v = .slice A l.length c ∧ l.length ≤ c ∧ d.C w A l.length l ∧ q l := by
  obtain ⟨a0, len, cap, rfl⟩ := okWide_slice ht hv
  obtain ⟨fuel, hf⟩ := h
  obtain ⟨l, ⟨A, c, hA, hl, hr⟩, hq⟩ := ho hf
  simp [Value.cells] at hA
  obtain ⟨rfl, rfl, rfl⟩ := hA
  exact ⟨l, _, _, rfl, hl, hr, hq⟩
end

end Go.Proofs.Ytadmodbdkmmplaa.Open
