/- Proved: the pure statement behind FnExactPxOk: for every Px whose parts can be read the law's Lean function answers true. -/
import Derived.Test.YtccgoaljeeghcaaArgFnExactPxOk
import Derived.Test.YtccgoaljeeghcaaNum
namespace Go.Proofs.Ytccgoaljeeghcaa.Pure
open Go.RowKit Go.Proofs.Ytccgoaljeeghcaa.QFnExactPxOk Go.Proofs.YtccgoaljeeghcaaW.PrintWords Go.Proofs.YtccgoaljeeghcaaW.PrintLast Go.Proofs.YtccgoaljeeghcaaW.PrintMore Go.Proofs.Ytccgoaljeeghcaa.Num
set_option linter.unusedSimpArgs false
set_option linter.unusedVariables false
/-- A loop that fills a slice of `l.length` places. -/
theorem fillLoop {α β : Type} (g : α → β) (l : List α) (hl : l.length ≤ 1048576) (F : Nat → List β → Int → Option (List β)) (K : Nat)
    (stop : ∀ k xs, F (k + 1) xs (l.length : Int) = some xs)
    (step : ∀ k xs (i : Nat) (hi : i < l.length), xs.length = l.length → K ≤ k → F (k + 1) xs i = F k (xs.set i (g l[i])) ((i + 1 : Nat) : Int)) :
    ∀ (d k i : Nat) (xs : List β), l.length - i = d → i ≤ l.length → K + d < k → xs.length = l.length → (∀ j, j < i → xs[j]? = (l.map g)[j]?) → F k xs i = some (l.map g) := by
  intro d
  induction d with
  | zero =>
    intro k i xs hd hi hk hx h
    obtain ⟨k, rfl⟩ : ∃ m, k = m + 1 := ⟨k - 1, by omega⟩
    have e : i = l.length := by omega
    subst e
    rw [stop, prefix_all (l := l.map g) (by simpa using hx) (fun j hj => h j (by simpa using hj))]
  | succ d ih =>
    intro k i xs hd hi hk hx h
    obtain ⟨k, rfl⟩ : ∃ m, k = m + 1 := ⟨k - 1, by omega⟩
    have hil : i < l.length := by omega
    rw [step k xs i hil hx (by omega)]
    refine ih k (i + 1) _ (by omega) (by omega) (by omega) (by simpa using hx) ?_
    have := set_prefix (xs := xs) (l := l.map g) (i := i) (g l[i]) (by simpa using hx) (by simpa using hil) h
    simpa [List.getD, hil] using this
/-- A loop that goes through and answers true. -/
theorem allLoop (n : Nat) (F : Nat → Int → Option Bool) (K : Nat)
    (stop : ∀ k, F (k + 1) (n : Int) = some true)
    (step : ∀ k (i : Nat), i < n → K ≤ k → F (k + 1) i = F k ((i + 1 : Nat) : Int)) :
    ∀ (d k i : Nat), n - i = d → i ≤ n → K + d < k → F k i = some true := by
  intro d
  induction d with
  | zero =>
    intro k i hd hi hk
    obtain ⟨k, rfl⟩ : ∃ m, k = m + 1 := ⟨k - 1, by omega⟩
    have e : i = n := by omega
    subst e
    exact stop k
  | succ d ih =>
    intro k i hd hi hk
    obtain ⟨k, rfl⟩ : ∃ m, k = m + 1 := ⟨k - 1, by omega⟩
    rw [step k i (by omega) (by omega)]
    exact ih k (i + 1) (by omega) (by omega) (by omega)
/-- A loop that takes sizes off `a`. -/
theorem szLoop {α : Type} (P : α → Prop) (l : List α) (F : Nat → Int → Int → Option Int) (K : Nat)
    (stop : ∀ k a, F (k + 1) a (l.length : Int) = some a)
    (step : ∀ k a (i : Nat) (hi : i < l.length), 0 ≤ a → a ≤ 1048576 → K ≤ k → F (k + 1) a i = some (-1) ∨ ∃ r, 0 ≤ r ∧ r ≤ a ∧ P l[i] ∧ F (k + 1) a i = F k r ((i + 1 : Nat) : Int)) :
    ∀ (d k i : Nat) (a : Int), l.length - i = d → i ≤ l.length → K + d < k → 0 ≤ a → a ≤ 1048576 → F k a i = some (-1) ∨ ∃ r, 0 ≤ r ∧ r ≤ a ∧ (∀ j (hj : j < l.length), i ≤ j → P l[j]) ∧ F k a i = some r := by
  intro d
  induction d with
  | zero =>
    intro k i a hd hi hk h0 h1
    obtain ⟨k, rfl⟩ : ∃ m, k = m + 1 := ⟨k - 1, by omega⟩
    have e : i = l.length := by omega
    subst e
    exact .inr ⟨a, h0, Int.le_refl a, fun j hj hij => by omega, stop k a⟩
  | succ d ih =>
    intro k i a hd hi hk h0 h1
    obtain ⟨k, rfl⟩ : ∃ m, k = m + 1 := ⟨k - 1, by omega⟩
    have hil : i < l.length := by omega
    rcases step k a i hil h0 h1 (by omega) with e | ⟨r, r0, r1, hP, e⟩
    · exact .inl e
    · rcases ih k (i + 1) r (by omega) (by omega) (by omega) r0 (by omega) with e2 | ⟨r2, q0, q1, hq, e2⟩
      · exact .inl (e.trans e2)
      · refine .inr ⟨r2, q0, by omega, fun j hj hij => ?_, e.trans e2⟩
        by_cases hji : j = i
        · subst hji; exact hP
        · exact hq j hj (by omega)
theorem getD_get {α : Type} {l : List α} {i : Nat} (h : i < l.length) (z : α) : l.getD ((i : Int)).toNat z = l[i] := by
  simp [List.getD, h]
theorem mem_of_all {α : Type} {P : α → Prop} {l : List α} (h : ∀ j (hj : j < l.length), 0 ≤ j → P l[j]) : ∀ x ∈ l, P x := by
  intro x hx
  obtain ⟨j, hj, rfl⟩ := List.getElem_of_mem hx
  exact h j hj (by omega)
theorem map_same {α β : Type} {f g : α → β} {l : List α} (h : ∀ x ∈ l, f x = g x) : l.map f = l.map g := List.map_congr_left h
theorem szBoolS_eq (l : List Bool) (a : Int) (hl : l.length ≤ 9223372036854775807) (h0 : 0 ≤ a) (h1 : a ≤ 1048576) : laws_szBoolS.f l a = some (if a - l.length < 0 then -1 else a - l.length) := by
  unfold laws_szBoolS.f
  rw [w64 (by omega) (by omega)]
  split <;> rfl
theorem toBoolS_eq (l : List Bool) (k : Nat) (hl : l.length ≤ 1048576) (hk : 1048577 ≤ k) : laws_toBoolS.f k l = some l := by
  unfold laws_toBoolS.f
  rw [if_pos (by omega), toNat_nat, if_pos (by omega)]
  have := fillLoop (fun x : Bool => x) l hl (fun k xs i => laws_toBoolS.l0 k l xs i) 0
    (fun k xs => by simp only [laws_toBoolS.l0]; rw [if_neg (by omega)])
    (fun k xs i hi hx _ => by
      simp only [laws_toBoolS.l0]
      rw [if_pos (by omega), if_pos (by omega), if_pos (by omega), w64s hi hl, toNat_nat]
      unfold rdOf
      rw [getD_get hi])
    l.length k 0 (List.replicate l.length false) (by omega) (by omega) (by omega) (by simp) (fun j hj => by omega)
  simpa using this
theorem eqBoolS_eq (l : List Bool) (k : Nat) (hl : l.length ≤ 1048576) (hk : 1048577 ≤ k) : laws_eqBoolS.f k l l = some true := by
  unfold laws_eqBoolS.f
  rw [if_pos rfl]
  exact allLoop l.length (fun k i => laws_eqBoolS.l0 k l l i) 0
    (fun k => by simp only [laws_eqBoolS.l0]; rw [if_neg (by omega)])
    (fun k i hi _ => by
      simp only [laws_eqBoolS.l0]
      rw [if_pos (by omega), if_pos (by omega), if_pos (by omega), if_neg (by simp), w64s hi hl])
    l.length k 0 (by omega) (by omega) (by omega)
theorem impl_in_eq (a b c : Int) : impl_in.f a b c = some (decide (b ≤ a ∧ a ≤ c)) := by
  unfold impl_in.f
  by_cases h : b ≤ a <;> simp [h]
theorem spec_in_eq (a b c : Int) : spec_l1In.f a b c = some (decide (b ≤ a ∧ a ≤ c)) := by
  unfold spec_l1In.f
  by_cases h : b ≤ a <;> simp [h]
theorem szDBlockS_eq (l : List S168) (a : Int) (hl : l.length ≤ 9223372036854775807) (h0 : 0 ≤ a) (h1 : a ≤ 1048576) : laws_szDBlockS.f l a = some (if a - l.length < 0 then -1 else a - l.length) := by
  unfold laws_szDBlockS.f
  rw [w64 (by omega) (by omega)]
  split <;> rfl
theorem szPxHostS_eq (l : List S170) (a : Int) (hl : l.length ≤ 9223372036854775807) (hq : ∀ x ∈ l, q170 x) (h0 : 0 ≤ a) (h1 : a ≤ 1048576) (k : Nat) (hk : 1048577 ≤ k) :
    laws_szPxHostS.f k l a = some (-1) ∨ ∃ r, 0 ≤ r ∧ r ≤ a ∧ l.length ≤ 1048576 ∧ (∀ x ∈ l, x.f3.length ≤ 1048576) ∧ laws_szPxHostS.f k l a = some r := by
  unfold laws_szPxHostS.f
  rw [w64 (by omega) (by omega)]
  by_cases c : a - (l.length : Int) < 0
  · rw [if_pos c]; exact .inl rfl
  · rw [if_neg c]
    have hl' : l.length ≤ 1048576 := by omega
    rcases szLoop (fun x : S170 => x.f3.length ≤ 1048576) l (fun k a i => laws_szPxHostS.l0 k l a i) 0
      (fun k a => by simp only [laws_szPxHostS.l0]; rw [if_neg (by omega)])
      (fun k a i hi a0 a1 _ => by
        simp only [laws_szPxHostS.l0]
        rw [if_pos (by omega), if_pos (by omega), w64s hi hl']
        unfold rd_T170
        rw [getD_get hi]
        have hb := (hq _ (List.getElem_mem hi)).2.2.2.1
        unfold maxLen at hb
        unfold laws_szPxHost.f
        rw [szBoolS_eq _ a hb a0 a1]
        simp only [Option.bind_some]
        by_cases c : a - (l[i].f3.length : Int) < 0
        · left; simp [c]
        · right
          refine ⟨a - l[i].f3.length, by omega, by omega, by omega, ?_⟩
          simp [c])
      l.length k 0 (a - l.length) (by omega) (by omega) (by omega) (by omega) (by omega) with e | ⟨r, r0, r1, hP, e⟩
    · exact .inl e
    · exact .inr ⟨r, r0, by omega, hl', mem_of_all hP, e⟩
def cB (x : S168) : S121 := ⟨x.f0, x.f1, x.f2⟩
def cH (x : S170) : S123 := ⟨x.f0, x.f1, cB x.f2, x.f3⟩
theorem toDBlockS_eq (l : List S168) (k : Nat) (hl : l.length ≤ 1048576) (hk : 1048577 ≤ k) : laws_toDBlockS.f k l = some (l.map cB) := by
  unfold laws_toDBlockS.f
  rw [if_pos (by omega), toNat_nat, if_pos (by omega)]
  exact fillLoop cB l hl (fun k xs i => laws_toDBlockS.l0 k l xs i) 0
    (fun k xs => by simp only [laws_toDBlockS.l0]; rw [if_neg (by omega)])
    (fun k xs i hi hx _ => by
      simp only [laws_toDBlockS.l0]
      rw [if_pos (by omega), if_pos (by omega)]
      unfold laws_toDBlock.f
      simp only [Option.bind_some]
      rw [if_pos (by omega), w64s hi hl, toNat_nat]
      unfold rd_T168
      rw [getD_get hi]; rfl)
    l.length k 0 (List.replicate l.length z121) (by omega) (by omega) (by omega) (by simp) (fun j hj => by omega)
theorem toPxHostS_eq (l : List S170) (k : Nat) (hl : l.length ≤ 1048576) (hb : ∀ x ∈ l, x.f3.length ≤ 1048576) (hk : 2097157 ≤ k) : laws_toPxHostS.f k l = some (l.map cH) := by
  unfold laws_toPxHostS.f
  rw [if_pos (by omega), toNat_nat, if_pos (by omega)]
  exact fillLoop cH l hl (fun k xs i => laws_toPxHostS.l0 k l xs i) 1048577
    (fun k xs => by simp only [laws_toPxHostS.l0]; rw [if_neg (by omega)])
    (fun k xs i hi hx hK => by
      simp only [laws_toPxHostS.l0]
      rw [if_pos (by omega), if_pos (by omega)]
      unfold laws_toPxHost.f laws_toDBlock.f
      simp only [Option.bind_some]
      unfold rd_T170
      rw [getD_get hi, toBoolS_eq _ k (hb _ (List.getElem_mem hi)) hK]
      simp only [Option.bind_some]
      rw [if_pos (by omega), w64s hi hl, toNat_nat]; rfl)
    l.length k 0 (List.replicate l.length z123) (by omega) (by omega) (by omega) (by simp) (fun j hj => by omega)
theorem eqDBlock_eq (a b c : Int) : laws_eqDBlock.f a b c a b c = some true := by
  unfold laws_eqDBlock.f
  rw [if_pos rfl, if_pos rfl, if_pos rfl]
theorem eqDBlockS_eq (l : List S121) (k : Nat) (hl : l.length ≤ 1048576) (hk : 1048577 ≤ k) : laws_eqDBlockS.f k l l = some true := by
  unfold laws_eqDBlockS.f
  rw [if_pos rfl]
  exact allLoop l.length (fun k i => laws_eqDBlockS.l0 k l l i) 0
    (fun k => by simp only [laws_eqDBlockS.l0]; rw [if_neg (by omega)])
    (fun k i hi _ => by
      simp only [laws_eqDBlockS.l0]
      rw [if_pos (by omega), if_pos (by omega), if_pos (by omega), eqDBlock_eq, w64s hi hl]
      simp only [Option.bind_some, if_true])
    l.length k 0 (by omega) (by omega) (by omega)
theorem eqPxHostS_eq (l : List S123) (k : Nat) (hl : l.length ≤ 1048576) (hb : ∀ x ∈ l, x.f3.length ≤ 1048576) (hk : 2097157 ≤ k) : laws_eqPxHostS.f k l l = some true := by
  unfold laws_eqPxHostS.f
  rw [if_pos rfl]
  exact allLoop l.length (fun k i => laws_eqPxHostS.l0 k l l i) 1048577
    (fun k => by simp only [laws_eqPxHostS.l0]; rw [if_neg (by omega)])
    (fun k i hi hK => by
      simp only [laws_eqPxHostS.l0]
      rw [if_pos (by omega), if_pos (by omega), if_pos (by omega)]
      unfold rd_T123
      rw [getD_get hi]
      unfold laws_eqPxHost.f
      rw [if_pos rfl, if_pos rfl, eqDBlock_eq]
      simp only [Option.bind_some, if_true]
      rw [eqBoolS_eq _ k (hb _ (List.getElem_mem hi)) hK, w64s hi hl]
      simp only [Option.bind_some, if_true])
    l.length k 0 (by omega) (by omega) (by omega)
theorem three {α : Type} {l : List α} (h : l.length = 3) : ∃ a b c, l = [a, b, c] := by
  match l, h with
  | [a, b, c], _ => exact ⟨a, b, c, rfl⟩
/-- One value and its word. -/
def valB (a b : Int) : Bool := (decide (a = 0) && decide (b = 0)) || (decide (a > 0) && decide (10 ≤ b ∧ b ≤ 12))
theorem val_eq (a b : Int) : spec_l17Val.f a b = some (valB a b) := by
  unfold spec_l17Val.f valB
  simp only [spec_in_eq, Option.bind_some]
  by_cases h : a = 0
  · subst h
    by_cases h2 : b = 0 <;> simp [h2]
  · by_cases h3 : a > 0 <;> simp [h, h3]
theorem isVal_eq (a m b : Int) : impl_isVal.f a m b = some (decide (0 ≤ a ∧ a ≤ m) && valB a b) := by
  unfold impl_isVal.f valB
  simp only [impl_in_eq, Option.bind_some]
  by_cases h : 0 ≤ a ∧ a ≤ m
  · rw [decide_eq_true h, if_pos rfl]
    by_cases h : a = 0
    · subst h
      by_cases h2 : b = 0 <;> simp [h2]
    · by_cases h3 : a > 0 <;> simp [h, h3]
  · rw [decide_eq_false h, if_neg (by simp)]; rfl
/-- One block of a ballot's disk. -/
def blkB (b : S121) (i : Int) : Bool := decide (0 ≤ b.f0 ∧ b.f0 ≤ 3000) && (decide (b.f0 = 0) || decide (Int.tmod b.f0 3 = i)) && decide (0 ≤ b.f1 ∧ b.f1 ≤ b.f0) && valB b.f1 b.f2
theorem block_eq (b : S121) (i : Int) : spec_l17Block.f b.f0 b.f1 b.f2 i = some (blkB b i) := by
  unfold spec_l17Block.f blkB
  simp only [spec_in_eq, val_eq, Option.bind_some]
  by_cases h : 0 ≤ b.f0 ∧ b.f0 ≤ 3000
  · rw [decide_eq_true h, if_pos rfl]
    by_cases h0 : b.f0 = 0
    · rw [if_pos h0]
      rw [h0]
      by_cases h1 : 0 ≤ b.f1 ∧ b.f1 ≤ 0 <;> simp [h1]
    · rw [if_neg h0]
      by_cases h2 : Int.tmod b.f0 3 = i
      · rw [if_pos h2]
        by_cases h1 : 0 ≤ b.f1 ∧ b.f1 ≤ b.f0 <;> simp [h0, h1, h2]
      · rw [if_neg h2]; simp [h0, h2]
  · rw [decide_eq_false h, if_neg (by simp)]; rfl
def hostB (h : S123) : Bool := decide (0 ≤ h.f0 ∧ h.f0 ≤ 3) && decide (0 ≤ h.f1 ∧ h.f1 ≤ 3000) && decide (h.f2.f0 = 0) && decide (0 ≤ h.f2.f1 ∧ h.f2.f1 ≤ 3000) && valB h.f2.f1 h.f2.f2 && decide (h.f3.length = 3)
theorem len3 {α : Type} (l : List α) : ((l.length : Int) = 3) = (l.length = 3) := propext ⟨by omega, by omega⟩
theorem spec_step (l0 : List S121) (l1 : List S123) (k i : Nat) (h0 : l0.length = 3) (h1 : l1.length = 3) (hi : i < 3) :
    spec_PxOk.l0 (k + 1) i l0 l1 = if (blkB (l0.getD i z121) i && hostB (l1.getD i z123)) = true then spec_PxOk.l0 k ((i + 1 : Nat) : Int) l0 l1 else some false := by
  simp only [spec_PxOk.l0]
  rw [if_pos (by omega), if_pos (by omega), if_pos (by omega), if_pos (by omega), w64s hi (by omega)]
  unfold rd_T121 rd_T123
  rw [Int.toNat_natCast]
  generalize l0.getD i z121 = b
  generalize l1.getD i z123 = h
  simp only [block_eq, spec_in_eq, val_eq, Option.bind_some, len3]
  unfold hostB
  cases blkB b i <;> by_cases c1 : 0 ≤ h.f0 ∧ h.f0 ≤ 3 <;> by_cases c2 : 0 ≤ h.f1 ∧ h.f1 ≤ 3000 <;> by_cases c3 : h.f2.f0 = 0 <;> by_cases c4 : 0 ≤ h.f2.f1 ∧ h.f2.f1 ≤ 3000 <;> cases valB h.f2.f1 h.f2.f2 <;> by_cases c6 : h.f3.length = 3 <;> simp [c1, c2, c3, c4, c6]
theorem impl_step (l0 : List S121) (l1 : List S123) (k i : Nat) (h0 : l0.length = 3) (h1 : l1.length = 3) (hi : i < 3) :
    impl_isPx.l0 (k + 2) i l0 l1 = if (blkB (l0.getD i z121) i && hostB (l1.getD i z123)) = true then impl_isPx.l0 k ((i + 1 : Nat) : Int) l0 l1 else some false := by
  simp only [impl_isPx.l0]
  rw [if_pos (by omega), if_pos (by omega), if_pos (by omega), if_pos (by omega)]
  unfold rd_T121 rd_T123
  rw [Int.toNat_natCast]
  generalize l0.getD i z121 = b
  generalize l1.getD i z123 = h
  simp only [impl_isPx.j2, isVal_eq, impl_in_eq, Option.bind_some, len3, w64s hi (show 3 ≤ 1048576 by omega)]
  unfold hostB blkB
  by_cases d1 : 0 ≤ b.f0 ∧ b.f0 ≤ 3000
  · by_cases d2 : b.f0 = 0
    · simp only [d2]
      by_cases d4 : 0 ≤ b.f1 ∧ b.f1 ≤ 0 <;> cases valB b.f1 b.f2 <;>
       by_cases c1 : 0 ≤ h.f0 ∧ h.f0 ≤ 3 <;> by_cases c2 : 0 ≤ h.f1 ∧ h.f1 ≤ 3000 <;> by_cases c3 : h.f2.f0 = 0 <;> by_cases c4 : 0 ≤ h.f2.f1 ∧ h.f2.f1 ≤ 3000 <;> cases valB h.f2.f1 h.f2.f2 <;> by_cases c6 : h.f3.length = 3 <;> simp [d4, c1, c2, c3, c4, c6]
    · by_cases d3 : Int.tmod b.f0 3 = i
      · by_cases d4 : 0 ≤ b.f1 ∧ b.f1 ≤ b.f0 <;> cases valB b.f1 b.f2 <;>
         by_cases c1 : 0 ≤ h.f0 ∧ h.f0 ≤ 3 <;> by_cases c2 : 0 ≤ h.f1 ∧ h.f1 ≤ 3000 <;> by_cases c3 : h.f2.f0 = 0 <;> by_cases c4 : 0 ≤ h.f2.f1 ∧ h.f2.f1 ≤ 3000 <;> cases valB h.f2.f1 h.f2.f2 <;> by_cases c6 : h.f3.length = 3 <;> simp [d1, d2, d3, d4, c1, c2, c3, c4, c6]
      · simp [d1, d2, d3]
  · simp [d1]
theorem px_same (l0 : List S121) (l1 : List S123) (k : Nat) (hk : 20 ≤ k) : ∃ b, spec_PxOk.f k l0 l1 = some b ∧ impl_isPx.f k l0 l1 = some b := by
  obtain ⟨k, rfl⟩ : ∃ m, k = m + 20 := ⟨k - 20, by omega⟩
  unfold spec_PxOk.f impl_isPx.f
  by_cases h0 : l0.length = 3
  · rw [if_pos (by omega), if_pos (by omega)]
    by_cases h1 : l1.length = 3
    · have : ((l1.length : Int) != 3) = false := by simp; omega
      rw [this]
      simp only [spec_PxOk.j0, impl_isPx.j0, Bool.false_eq_true, if_false]
      show ∃ b, spec_PxOk.l0 (k + 18 + 1) ((0 : Nat) : Int) l0 l1 = some b ∧ impl_isPx.l0 (k + 17 + 2) ((0 : Nat) : Int) l0 l1 = some b
      rw [spec_step l0 l1 _ 0 h0 h1 (by omega), impl_step l0 l1 _ 0 h0 h1 (by omega)]
      generalize (blkB (l0.getD 0 z121) ((0 : Nat) : Int) && hostB (l1.getD 0 z123)) = b0
      rw [spec_step l0 l1 _ 1 h0 h1 (by omega), impl_step l0 l1 _ 1 h0 h1 (by omega)]
      generalize (blkB (l0.getD 1 z121) ((1 : Nat) : Int) && hostB (l1.getD 1 z123)) = b1
      rw [spec_step l0 l1 _ 2 h0 h1 (by omega), impl_step l0 l1 _ 2 h0 h1 (by omega)]
      generalize (blkB (l0.getD 2 z121) ((2 : Nat) : Int) && hostB (l1.getD 2 z123)) = b2
      cases b0 with
      | false => exact ⟨false, by simp, by simp⟩
      | true =>
        cases b1 with
        | false => exact ⟨false, by simp, by simp⟩
        | true =>
          cases b2 with
          | false => exact ⟨false, by simp, by simp⟩
          | true => exact ⟨true, by simp [spec_PxOk.l0], by simp [impl_isPx.l0]⟩
    · have : ((l1.length : Int) != 3) = true := by simp; omega
      rw [this]
      exact ⟨false, by simp [spec_PxOk.j0], by simp [impl_isPx.j0]⟩
  · rw [if_neg (by omega), if_neg (by omega)]
    exact ⟨false, by simp [spec_PxOk.j0], by simp [impl_isPx.j0]⟩
theorem FnExactPxOk : laws_FnExactPxOk.Pure := by
  intro l0 l1 ⟨h0, _⟩ ⟨h1, hq⟩
  refine ⟨2097158, ?_⟩
  unfold laws_FnExactPxOk.f
  unfold maxLen at h0 h1
  generalize hk : 2097158 = k
  have hk1 : 2097158 ≤ k := by omega
  clear hk
  unfold laws_szPx.f
  rw [szDBlockS_eq l0 1048576 h0 (by omega) (by omega)]
  simp only [Option.bind_some]
  by_cases c0 : (1048576 : Int) - l0.length < 0
  · simp [c0]
  · rw [if_neg c0, if_neg c0]
    rcases szPxHostS_eq l1 (1048576 - (l0.length : Int)) h1 hq (by omega) (by omega) k (by omega) with e | ⟨r, r0, r1, hl1, hb, e⟩
    · rw [e]; simp
    · rw [e]; simp only [Option.bind_some]; rw [if_neg (show ¬ r < 0 by omega)]; simp only [Option.bind_some]; rw [if_neg (show ¬ r < 0 by omega)]
      have e2 : laws_toPx.f k l0 l1 = some (l0.map cB, l1.map cH) := by
        unfold laws_toPx.f
        rw [toDBlockS_eq l0 k (by omega) (by omega), toPxHostS_eq l1 k hl1 hb (by omega)]; rfl
      rw [e2]; simp only [Option.bind_some]
      obtain ⟨b, s1, s2⟩ := px_same (l0.map cB) (l1.map cH) k (by omega)
      rw [s1]; simp only [Option.bind_some]
      unfold impl_PxOk.f
      rw [s2]; simp only [Option.bind_some]
      have e3 : laws_eqPx.f k (l0.map cB) (l1.map cH) (l0.map cB) (l1.map cH) = some true := by
        unfold laws_eqPx.f
        rw [eqDBlockS_eq _ k (by simp; omega) (by omega)]
        simp only [Option.bind_some, if_true]
        rw [eqPxHostS_eq _ k (by simpa using hl1) (by intro x hx; obtain ⟨y, hy, rfl⟩ := List.mem_map.mp hx; exact hb y hy) (by omega)]
        simp
      rw [e3]
      simp

end Go.Proofs.Ytccgoaljeeghcaa.Pure
