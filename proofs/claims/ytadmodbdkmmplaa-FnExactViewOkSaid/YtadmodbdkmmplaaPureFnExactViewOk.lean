/- Proved: the pure statement behind FnExactViewOk: for every view whose parts can be read the law's Lean function answers true. -/
import Derived.Test.YtadmodbdkmmplaaArgFnExactViewOk
import Derived.Test.YtadmodbdkmmplaaNum
namespace Go.Proofs.Ytadmodbdkmmplaa.Pure
open Go.RowKit Go.Proofs.Ytadmodbdkmmplaa.QFnExactViewOk Go.Proofs.YtadmodbdkmmplaaW.PrintWords Go.Proofs.YtadmodbdkmmplaaW.PrintLast Go.Proofs.YtadmodbdkmmplaaW.PrintMore Go.Proofs.Ytadmodbdkmmplaa.Num
set_option linter.unusedSimpArgs false
set_option linter.unusedVariables false
/-- A loop that fills a slice of `l.length` places. -/
theorem fillLoop {α β : Type} (g : α → β) (l : List α) (hl : l.length ≤ 1048576) (F : Nat → List β → Int → Option (List β)) (K : Nat)
    (stop : ∀ k xs, F (k + 1) xs (l.length : Int) = some xs)
    (step : ∀ k xs (i : Nat) (hi : i < l.length), xs.length = l.length → K ≤ k → F (k + 1) xs i = F k (xs.set i (g l[i])) ((i + 1 : Nat) : Int)) :
    ∀ (d k i : Nat) (xs : List β), l.length - i = d → i ≤ l.length → K + d < k → xs.length = l.length → (∀ j, j < i → xs[j]? = (l.map g)[j]?) → F k xs i = some (l.map g) := by
  intro d
  induction d with
  | zero =>
    intro k i xs hd hi hk hx h
    obtain ⟨k, rfl⟩ : ∃ m, k = m + 1 := ⟨k - 1, by omega⟩
    have e : i = l.length := by omega
    subst e
    rw [stop, prefix_all (l := l.map g) (by simpa using hx) (fun j hj => h j (by simpa using hj))]
  | succ d ih =>
    intro k i xs hd hi hk hx h
    obtain ⟨k, rfl⟩ : ∃ m, k = m + 1 := ⟨k - 1, by omega⟩
    have hil : i < l.length := by omega
    rw [step k xs i hil hx (by omega)]
    refine ih k (i + 1) _ (by omega) (by omega) (by omega) (by simpa using hx) ?_
    have := set_prefix (xs := xs) (l := l.map g) (i := i) (g l[i]) (by simpa using hx) (by simpa using hil) h
    simpa [List.getD, hil] using this
/-- A loop that goes through and answers true. -/
theorem allLoop (n : Nat) (F : Nat → Int → Option Bool) (K : Nat)
    (stop : ∀ k, F (k + 1) (n : Int) = some true)
    (step : ∀ k (i : Nat), i < n → K ≤ k → F (k + 1) i = F k ((i + 1 : Nat) : Int)) :
    ∀ (d k i : Nat), n - i = d → i ≤ n → K + d < k → F k i = some true := by
  intro d
  induction d with
  | zero =>
    intro k i hd hi hk
    obtain ⟨k, rfl⟩ : ∃ m, k = m + 1 := ⟨k - 1, by omega⟩
    have e : i = n := by omega
    subst e
    exact stop k
  | succ d ih =>
    intro k i hd hi hk
    obtain ⟨k, rfl⟩ : ∃ m, k = m + 1 := ⟨k - 1, by omega⟩
    rw [step k i (by omega) (by omega)]
    exact ih k (i + 1) (by omega) (by omega) (by omega)
/-- A loop that takes sizes off `a`. -/
theorem szLoop {α : Type} (P : α → Prop) (l : List α) (F : Nat → Int → Int → Option Int) (K : Nat)
    (stop : ∀ k a, F (k + 1) a (l.length : Int) = some a)
    (step : ∀ k a (i : Nat) (hi : i < l.length), 0 ≤ a → a ≤ 1048576 → K ≤ k → F (k + 1) a i = some (-1) ∨ ∃ r, 0 ≤ r ∧ r ≤ a ∧ P l[i] ∧ F (k + 1) a i = F k r ((i + 1 : Nat) : Int)) :
    ∀ (d k i : Nat) (a : Int), l.length - i = d → i ≤ l.length → K + d < k → 0 ≤ a → a ≤ 1048576 → F k a i = some (-1) ∨ ∃ r, 0 ≤ r ∧ r ≤ a ∧ (∀ j (hj : j < l.length), i ≤ j → P l[j]) ∧ F k a i = some r := by
  intro d
  induction d with
  | zero =>
    intro k i a hd hi hk h0 h1
    obtain ⟨k, rfl⟩ : ∃ m, k = m + 1 := ⟨k - 1, by omega⟩
    have e : i = l.length := by omega
    subst e
    exact .inr ⟨a, h0, Int.le_refl a, fun j hj hij => by omega, stop k a⟩
  | succ d ih =>
    intro k i a hd hi hk h0 h1
    obtain ⟨k, rfl⟩ : ∃ m, k = m + 1 := ⟨k - 1, by omega⟩
    have hil : i < l.length := by omega
    rcases step k a i hil h0 h1 (by omega) with e | ⟨r, r0, r1, hP, e⟩
    · exact .inl e
    · rcases ih k (i + 1) r (by omega) (by omega) (by omega) r0 (by omega) with e2 | ⟨r2, q0, q1, hq, e2⟩
      · exact .inl (e.trans e2)
      · refine .inr ⟨r2, q0, by omega, fun j hj hij => ?_, e.trans e2⟩
        by_cases hji : j = i
        · subst hji; exact hP
        · exact hq j hj (by omega)
theorem getD_get {α : Type} {l : List α} {i : Nat} (h : i < l.length) (z : α) : l.getD ((i : Int)).toNat z = l[i] := by
  simp [List.getD, h]
theorem mem_of_all {α : Type} {P : α → Prop} {l : List α} (h : ∀ j (hj : j < l.length), 0 ≤ j → P l[j]) : ∀ x ∈ l, P x := by
  intro x hx
  obtain ⟨j, hj, rfl⟩ := List.getElem_of_mem hx
  exact h j hj (by omega)
theorem map_same {α β : Type} {f g : α → β} {l : List α} (h : ∀ x ∈ l, f x = g x) : l.map f = l.map g := List.map_congr_left h
theorem szIntS_eq (l : List Int) (a : Int) (hl : l.length ≤ 9223372036854775807) (h0 : 0 ≤ a) (h1 : a ≤ 1048576) : laws_szIntS.f l a = some (if a - l.length < 0 then -1 else a - l.length) := by
  unfold laws_szIntS.f
  rw [w64 (by omega) (by omega)]
  split <;> rfl
theorem rd_nat (l : List Int) (i : Nat) : rd l (i : Int) = l.getD i 0 := by unfold rd; rw [toNat_nat]
theorem toIntS_loop (l : List Int) (hl : l.length ≤ 1048576) (d : Nat) : ∀ (k i : Nat) (xs : List Int), l.length - i = d → i ≤ l.length → d < k → xs.length = l.length → (∀ j, j < i → xs[j]? = l[j]?) → laws_toIntS.l0 k l xs i = some l := by
  induction d with
  | zero =>
    intro k i xs hd hi hk hx h
    obtain ⟨k, rfl⟩ : ∃ m, k = m + 1 := ⟨k - 1, by omega⟩
    simp only [laws_toIntS.l0]
    rw [if_neg (by omega), prefix_all hx (fun j hj => h j (by omega))]
  | succ d ih =>
    intro k i xs hd hi hk hx h
    obtain ⟨k, rfl⟩ : ∃ m, k = m + 1 := ⟨k - 1, by omega⟩
    have hil : i < l.length := by omega
    simp only [laws_toIntS.l0]
    rw [if_pos (by omega), if_pos (by omega), if_pos (by omega), toNat_nat, rd_nat, w64s hil hl]
    exact ih k (i + 1) _ (by omega) (by omega) (by omega) (by simpa using hx) (set_prefix 0 hx hil h)
theorem toIntS_eq (l : List Int) (k : Nat) (hl : l.length ≤ 1048576) (hk : 1048577 ≤ k) : laws_toIntS.f k l = some l := by
  unfold laws_toIntS.f
  rw [if_pos (by omega), toNat_nat, if_pos (by omega)]
  exact toIntS_loop l hl l.length k 0 _ (by omega) (by omega) (by omega) (by simp) (fun j hj => by omega)
theorem eqIntS_loop (l : List Int) (hl : l.length ≤ 1048576) (d : Nat) : ∀ (k i : Nat), l.length - i = d → i ≤ l.length → d < k → laws_eqIntS.l0 k l l i = some true := by
  induction d with
  | zero =>
    intro k i hd hi hk
    obtain ⟨k, rfl⟩ : ∃ m, k = m + 1 := ⟨k - 1, by omega⟩
    simp only [laws_eqIntS.l0]
    rw [if_neg (by omega)]
  | succ d ih =>
    intro k i hd hi hk
    obtain ⟨k, rfl⟩ : ∃ m, k = m + 1 := ⟨k - 1, by omega⟩
    simp only [laws_eqIntS.l0]
    rw [if_pos (by omega), if_pos (by omega), if_pos (by omega), if_pos trivial, w64s (show i < l.length by omega) hl]
    exact ih k (i + 1) (by omega) (by omega) (by omega)
theorem eqIntS_eq (l : List Int) (k : Nat) (hl : l.length ≤ 1048576) (hk : 1048577 ≤ k) : laws_eqIntS.f k l l = some true := by
  unfold laws_eqIntS.f
  rw [if_pos rfl]
  exact eqIntS_loop l hl l.length k 0 (by omega) (by omega) (by omega)
def cVS (x : S45) : S50 := ⟨⟨x.f0.f0, x.f0.f1⟩, x.f1, x.f2⟩
def cGS (x : S226) : S97 := ⟨⟨x.f0.f0, x.f0.f1⟩, x.f1⟩
theorem szVolSec_eq (h e : Int) (o : Bool) (l : List Int) (a : Int) (hl : l.length ≤ 9223372036854775807) (h0 : 0 ≤ a) (h1 : a ≤ 1048576) :
    laws_szVolSec.f h e o l a = some (if a - l.length < 0 then -1 else a - l.length) := by
  unfold laws_szVolSec.f
  rw [szIntS_eq l a hl h0 h1]
  simp only [Option.bind_some]
  by_cases c : a - (l.length : Int) < 0 <;> simp [c]
theorem szGroupSec_eq (h e : Int) (l : List Int) (a : Int) (hl : l.length ≤ 9223372036854775807) (h0 : 0 ≤ a) (h1 : a ≤ 1048576) :
    laws_szGroupSec.f h e l a = some (if a - l.length < 0 then -1 else a - l.length) := by
  unfold laws_szGroupSec.f
  rw [szIntS_eq l a hl h0 h1]
  simp only [Option.bind_some]
  by_cases c : a - (l.length : Int) < 0 <;> simp [c]
theorem szVolSecS_eq (l : List S45) (a : Int) (hl : l.length ≤ 9223372036854775807) (hq : ∀ x ∈ l, x.f2.length ≤ 9223372036854775807) (h0 : 0 ≤ a) (h1 : a ≤ 1048576) (k : Nat) (hk : 1048577 ≤ k) :
    laws_szVolSecS.f k l a = some (-1) ∨ ∃ r, 0 ≤ r ∧ r ≤ a ∧ l.length ≤ 1048576 ∧ (∀ x ∈ l, x.f2.length ≤ 1048576) ∧ laws_szVolSecS.f k l a = some r := by
  unfold laws_szVolSecS.f
  rw [w64 (by omega) (by omega)]
  by_cases c : a - (l.length : Int) < 0
  · rw [if_pos c]; exact .inl rfl
  · rw [if_neg c]
    have hl' : l.length ≤ 1048576 := by omega
    rcases szLoop (fun x : S45 => x.f2.length ≤ 1048576) l (fun k a i => laws_szVolSecS.l0 k l a i) 0
      (fun k a => by simp only [laws_szVolSecS.l0]; rw [if_neg (by omega)])
      (fun k a i hi a0 a1 _ => by
        simp only [laws_szVolSecS.l0]
        rw [if_pos (by omega), if_pos (by omega), w64s hi hl']
        unfold rd_T45
        rw [getD_get hi, szVolSec_eq _ _ _ _ a (hq _ (List.getElem_mem hi)) a0 a1]
        simp only [Option.bind_some]
        by_cases c : a - (l[i].f2.length : Int) < 0
        · left; simp [c]
        · right
          refine ⟨a - l[i].f2.length, by omega, by omega, by omega, ?_⟩
          simp [c])
      l.length k 0 (a - l.length) (by omega) (by omega) (by omega) (by omega) (by omega) with e | ⟨r, r0, r1, hP, e⟩
    · exact .inl e
    · exact .inr ⟨r, r0, by omega, hl', mem_of_all hP, e⟩
theorem szGroupSecS_eq (l : List S226) (a : Int) (hl : l.length ≤ 9223372036854775807) (hq : ∀ x ∈ l, x.f1.length ≤ 9223372036854775807) (h0 : 0 ≤ a) (h1 : a ≤ 1048576) (k : Nat) (hk : 1048577 ≤ k) :
    laws_szGroupSecS.f k l a = some (-1) ∨ ∃ r, 0 ≤ r ∧ r ≤ a ∧ l.length ≤ 1048576 ∧ (∀ x ∈ l, x.f1.length ≤ 1048576) ∧ laws_szGroupSecS.f k l a = some r := by
  unfold laws_szGroupSecS.f
  rw [w64 (by omega) (by omega)]
  by_cases c : a - (l.length : Int) < 0
  · rw [if_pos c]; exact .inl rfl
  · rw [if_neg c]
    have hl' : l.length ≤ 1048576 := by omega
    rcases szLoop (fun x : S226 => x.f1.length ≤ 1048576) l (fun k a i => laws_szGroupSecS.l0 k l a i) 0
      (fun k a => by simp only [laws_szGroupSecS.l0]; rw [if_neg (by omega)])
      (fun k a i hi a0 a1 _ => by
        simp only [laws_szGroupSecS.l0]
        rw [if_pos (by omega), if_pos (by omega), w64s hi hl']
        unfold rd_T226
        rw [getD_get hi, szGroupSec_eq _ _ _ a (hq _ (List.getElem_mem hi)) a0 a1]
        simp only [Option.bind_some]
        by_cases c : a - (l[i].f1.length : Int) < 0
        · left; simp [c]
        · right
          refine ⟨a - l[i].f1.length, by omega, by omega, by omega, ?_⟩
          simp [c])
      l.length k 0 (a - l.length) (by omega) (by omega) (by omega) (by omega) (by omega) with e | ⟨r, r0, r1, hP, e⟩
    · exact .inl e
    · exact .inr ⟨r, r0, by omega, hl', mem_of_all hP, e⟩
theorem toVolSec_eq (h e : Int) (o : Bool) (l : List Int) (hl : l.length ≤ 1048576) (k : Nat) (hk : 1048577 ≤ k) : laws_toVolSec.f k h e o l = some (h, e, o, l) := by
  unfold laws_toVolSec.f laws_toLease.f
  simp only [Option.bind_some]
  rw [toIntS_eq l k hl hk]; rfl
theorem toGroupSec_eq (h e : Int) (l : List Int) (hl : l.length ≤ 1048576) (k : Nat) (hk : 1048577 ≤ k) : laws_toGroupSec.f k h e l = some (h, e, l) := by
  unfold laws_toGroupSec.f laws_toLease.f
  simp only [Option.bind_some]
  rw [toIntS_eq l k hl hk]; rfl
theorem toVolSecS_eq (l : List S45) (k : Nat) (hl : l.length ≤ 1048576) (hb : ∀ x ∈ l, x.f2.length ≤ 1048576) (hk : 2097157 ≤ k) : laws_toVolSecS.f k l = some (l.map cVS) := by
  unfold laws_toVolSecS.f
  rw [if_pos (by omega), toNat_nat, if_pos (by omega)]
  exact fillLoop cVS l hl (fun k xs i => laws_toVolSecS.l0 k l xs i) 1048577
    (fun k xs => by simp only [laws_toVolSecS.l0]; rw [if_neg (by omega)])
    (fun k xs i hi hx hK => by
      simp only [laws_toVolSecS.l0]
      rw [if_pos (by omega), if_pos (by omega)]
      unfold rd_T45
      rw [getD_get hi, toVolSec_eq _ _ _ _ (hb _ (List.getElem_mem hi)) k hK]
      simp only [Option.bind_some]
      rw [if_pos (by omega), w64s hi hl, toNat_nat]; rfl)
    l.length k 0 (List.replicate l.length z50) (by omega) (by omega) (by omega) (by simp) (fun j hj => by omega)
theorem toGroupSecS_eq (l : List S226) (k : Nat) (hl : l.length ≤ 1048576) (hb : ∀ x ∈ l, x.f1.length ≤ 1048576) (hk : 2097157 ≤ k) : laws_toGroupSecS.f k l = some (l.map cGS) := by
  unfold laws_toGroupSecS.f
  rw [if_pos (by omega), toNat_nat, if_pos (by omega)]
  exact fillLoop cGS l hl (fun k xs i => laws_toGroupSecS.l0 k l xs i) 1048577
    (fun k xs => by simp only [laws_toGroupSecS.l0]; rw [if_neg (by omega)])
    (fun k xs i hi hx hK => by
      simp only [laws_toGroupSecS.l0]
      rw [if_pos (by omega), if_pos (by omega)]
      unfold rd_T226
      rw [getD_get hi, toGroupSec_eq _ _ _ (hb _ (List.getElem_mem hi)) k hK]
      simp only [Option.bind_some]
      rw [if_pos (by omega), w64s hi hl, toNat_nat]; rfl)
    l.length k 0 (List.replicate l.length z97) (by omega) (by omega) (by omega) (by simp) (fun j hj => by omega)
theorem eqVolSec_eq (h e : Int) (o : Bool) (l : List Int) (hl : l.length ≤ 1048576) (k : Nat) (hk : 1048577 ≤ k) : laws_eqVolSec.f k h e o l h e o l = some true := by
  unfold laws_eqVolSec.f laws_eqLease.f
  rw [if_pos rfl, if_pos rfl]
  simp only [Option.bind_some, if_true, bne_self_eq_false, Bool.false_eq_true, if_false]
  rw [eqIntS_eq l k hl hk]
  simp
theorem eqGroupSec_eq (h e : Int) (l : List Int) (hl : l.length ≤ 1048576) (k : Nat) (hk : 1048577 ≤ k) : laws_eqGroupSec.f k h e l h e l = some true := by
  unfold laws_eqGroupSec.f laws_eqLease.f
  rw [if_pos rfl, if_pos rfl]
  simp only [Option.bind_some, if_true]
  rw [eqIntS_eq l k hl hk]
  simp
theorem eqVolSecS_eq (l : List S50) (k : Nat) (hl : l.length ≤ 1048576) (hb : ∀ x ∈ l, x.f2.length ≤ 1048576) (hk : 2097157 ≤ k) : laws_eqVolSecS.f k l l = some true := by
  unfold laws_eqVolSecS.f
  rw [if_pos rfl]
  exact allLoop l.length (fun k i => laws_eqVolSecS.l0 k l l i) 1048577
    (fun k => by simp only [laws_eqVolSecS.l0]; rw [if_neg (by omega)])
    (fun k i hi hK => by
      simp only [laws_eqVolSecS.l0]
      rw [if_pos (by omega), if_pos (by omega), if_pos (by omega)]
      unfold rd_T50
      rw [getD_get hi, eqVolSec_eq _ _ _ _ (hb _ (List.getElem_mem hi)) k hK]
      simp only [Option.bind_some, if_true]
      rw [w64s hi hl])
    l.length k 0 (by omega) (by omega) (by omega)
theorem eqGroupSecS_eq (l : List S97) (k : Nat) (hl : l.length ≤ 1048576) (hb : ∀ x ∈ l, x.f1.length ≤ 1048576) (hk : 2097157 ≤ k) : laws_eqGroupSecS.f k l l = some true := by
  unfold laws_eqGroupSecS.f
  rw [if_pos rfl]
  exact allLoop l.length (fun k i => laws_eqGroupSecS.l0 k l l i) 1048577
    (fun k => by simp only [laws_eqGroupSecS.l0]; rw [if_neg (by omega)])
    (fun k i hi hK => by
      simp only [laws_eqGroupSecS.l0]
      rw [if_pos (by omega), if_pos (by omega), if_pos (by omega)]
      unfold rd_T97
      rw [getD_get hi, eqGroupSec_eq _ _ _ (hb _ (List.getElem_mem hi)) k hK]
      simp only [Option.bind_some, if_true]
      rw [w64s hi hl])
    l.length k 0 (by omega) (by omega) (by omega)
theorem spec_in_eq (a b c : Int) : spec_l1In.f a b c = some (decide (b ≤ a ∧ a ≤ c)) := by
  unfold spec_l1In.f
  by_cases h : b ≤ a <;> simp [h]
theorem impl_in_eq (a b c : Int) : impl_in.f a b c = some (decide (b ≤ a ∧ a ≤ c)) := by
  unfold impl_in.f
  by_cases h : b ≤ a <;> simp [h]
/-- Is a lease right? -/
def leaseB (h e : Int) : Bool := decide (h = -1 ∧ e = 0) || decide ((0 ≤ h ∧ h < 3) ∧ 1 ≤ e ∧ e ≤ 100000)
theorem leaseB_range {h e : Int} (hl : leaseB h e = true) : -1 ≤ h ∧ h < 3 ∧ 0 ≤ e ∧ e ≤ 100000 := by
  unfold leaseB at hl
  simp only [Bool.or_eq_true, decide_eq_true_eq] at hl
  omega
theorem l3Host_eq (a : Int) : spec_l3Host.f a = some (decide (0 ≤ a ∧ a < 3)) := by
  unfold spec_l3Host.f
  by_cases h : a ≥ 0
  · rw [if_pos h]; simp only [Option.some.injEq, decide_eq_decide]; omega
  · rw [if_neg h]; simp; omega
theorem isHost_eq (a : Int) : impl_isHost.f a = some (decide (0 ≤ a ∧ a < 3)) := by
  unfold impl_isHost.f
  rw [impl_in_eq]; simp only [Option.bind_some, Option.some.injEq, decide_eq_decide]; omega
theorem spec_Lease_eq (h e : Int) : spec_l4Lease.f h e = some (leaseB h e) := by
  unfold spec_l4Lease.f spec_l4Nobody.f leaseB
  simp only [Option.bind_some, l3Host_eq, spec_in_eq]
  by_cases c : h = -1 ∧ e = 0
  · obtain ⟨rfl, rfl⟩ := c; simp
  · have : ¬ ((h == -1 && (e == 0)) = true) := by simp; omega
    rw [if_neg this, decide_eq_false c]
    by_cases c2 : 0 ≤ h ∧ h < 3
    · simp [c2]
    · simp [c2]
theorem impl_Lease_eq (h e : Int) : impl_isLease.f h e = some (leaseB h e) := by
  unfold impl_isLease.f impl_nobody.f leaseB
  simp only [Option.bind_some, isHost_eq, impl_in_eq]
  by_cases c : h = -1 ∧ e = 0
  · obtain ⟨rfl, rfl⟩ := c; simp
  · have : ¬ ((h == -1 && (e == 0)) = true) := by simp; omega
    rw [if_neg this, decide_eq_false c]
    by_cases c2 : 0 ≤ h ∧ h < 3
    · simp [c2]
    · simp [c2]
/-- A loop that tests each element and stops at the first that falls. -/
theorem testLoop {α : Type} (q : α → Bool) (l : List α) (F : Nat → Int → Option Bool) (K : Nat)
    (stop : ∀ k, F (k + 1) (l.length : Int) = some true)
    (step : ∀ k (i : Nat) (hi : i < l.length), K ≤ k → F (k + 1) i = if q l[i] = true then F k ((i + 1 : Nat) : Int) else some false) :
    ∀ (d k i : Nat), l.length - i = d → i ≤ l.length → K + d < k → F k i = some ((l.drop i).all q) := by
  intro d
  induction d with
  | zero =>
    intro k i hd hi hk
    obtain ⟨k, rfl⟩ : ∃ m, k = m + 1 := ⟨k - 1, by omega⟩
    have e : i = l.length := by omega
    subst e
    rw [stop, List.drop_eq_nil_of_le (Nat.le_refl _)]; rfl
  | succ d ih =>
    intro k i hd hi hk
    obtain ⟨k, rfl⟩ : ∃ m, k = m + 1 := ⟨k - 1, by omega⟩
    have hil : i < l.length := by omega
    rw [step k i hil (by omega), List.drop_eq_getElem_cons hil, List.all_cons]
    cases hq : q l[i] with
    | true => rw [if_pos rfl, ih k (i + 1) (by omega) (by omega) (by omega)]; simp
    | false => rw [if_neg (by simp)]; simp
theorem getD_get' {α : Type} {l : List α} {i : Nat} (h : i < l.length) (z : α) : l.getD i z = l[i] := by
  simp [List.getD, h]
/-- Is one place of a volume's map right? -/
def mapB (o : Bool) (b : Int) : Bool := Any.inB b (-1) 17 && (o || decide (b = -1))
/-- Is a volume's sector right? -/
def volB (h e : Int) (o : Bool) (l : List Int) : Bool := leaseB h e && decide (l.length = 4) && l.all (mapB o)
theorem Block_eq (a : Int) : spec_l4Block.f a = some (Any.inB a 0 17) := by
  unfold spec_l4Block.f Any.inB
  by_cases h : a ≥ 0
  · rw [if_pos h, show decide (0 ≤ a) = true from decide_eq_true h, Bool.true_and, Option.some.injEq, decide_eq_decide]; omega
  · rw [if_neg h, show decide (0 ≤ a) = false from decide_eq_false h]; rfl
theorem spec_Vol_eq (h e : Int) (o : Bool) (l : List Int) (k : Nat) (hk : 20 ≤ k) : spec_l4VolOk.f k h e o l = some (volB h e o l) := by
  obtain ⟨k, rfl⟩ : ∃ m, k = m + 1 := ⟨k - 1, by omega⟩
  unfold spec_l4VolOk.f volB
  simp only [spec_Lease_eq, Option.bind_some]
  cases leaseB h e with
  | false => simp [spec_l4VolOk.j0]
  | true =>
    by_cases c : l.length = 4
    · have : ((l.length : Int) != 4) = false := by simp; omega
      rw [if_pos rfl, this, decide_eq_true c]
      simp only [spec_l4VolOk.j0, Bool.false_eq_true, if_false, Bool.true_and]
      exact testLoop (mapB o) l (fun k i => spec_l4VolOk.l0 k i h e o l) 0
        (fun k => by simp only [spec_l4VolOk.l0]; rw [if_neg (by omega)])
        (fun k i hi _ => by
          simp only [spec_l4VolOk.l0]
          rw [if_pos (by omega), if_pos (by omega), Block_eq, rd_nat, getD_get' hi, w64s hi (by omega)]
          generalize l[i] = b
          unfold mapB
          simp only [Option.bind_some]
          by_cases c1 : b = -1
          · rw [if_pos c1, c1]; rw [if_pos (by simp [Any.inB])]
          · rw [if_neg c1]
            have c2 : Any.inB b (-1) 17 = Any.inB b 0 17 := by
              unfold Any.inB
              congr 1
              rw [decide_eq_decide]; omega
            rw [c2]
            cases o <;> simp [c1])
        l.length k 0 (by omega) (by omega) (by omega)
    · have : ((l.length : Int) != 4) = true := by simp; omega
      rw [if_pos rfl, this]
      simp [spec_l4VolOk.j0, c]
theorem any_not {α : Type} (q : α → Bool) (l : List α) : (!(l.any fun x => !q x)) = l.all q := by
  rw [List.not_any_eq_all_not]; simp
theorem impl_Vol_eq (h e : Int) (o : Bool) (l : List Int) : impl_isVol.f h e o l = some (volB h e o l) := by
  unfold impl_isVol.f volB
  rw [impl_Lease_eq]
  simp only [Option.bind_some]
  have : (fun x : Int => !Any.inB x (-1) 17 || (!o && x != -1)) = fun x => !mapB o x := by
    funext x
    unfold mapB
    cases Any.inB x (-1) 17 <;> cases o <;> simp [bne, BEq.beq]
  rw [this, any_not]
theorem volB_len {h e : Int} {o : Bool} {l : List Int} (hg : volB h e o l = true) : l.length = 4 ∧ leaseB h e = true ∧ ∀ x ∈ l, -1 ≤ x ∧ x ≤ 17 := by
  unfold volB at hg
  simp only [Bool.and_eq_true, decide_eq_true_eq, List.all_eq_true] at hg
  refine ⟨hg.1.2, hg.1.1, fun x hx => ?_⟩
  have := hg.2 x hx
  unfold mapB Any.inB at this
  simp only [Bool.and_eq_true, decide_eq_true_eq] at this
  exact this.1
/-- Is a group's sector right? -/
def groupB (h e : Int) (l : List Int) : Bool := leaseB h e && decide (l.length = 6) && l.all fun n => Any.inB n 0 16
theorem spec_Group_eq (h e : Int) (l : List Int) (k : Nat) (hk : 20 ≤ k) : spec_l4GroupOk.f k h e l = some (groupB h e l) := by
  obtain ⟨k, rfl⟩ : ∃ m, k = m + 1 := ⟨k - 1, by omega⟩
  unfold spec_l4GroupOk.f groupB
  simp only [spec_Lease_eq, Option.bind_some]
  cases leaseB h e with
  | false => simp [spec_l4GroupOk.j0]
  | true =>
    by_cases c : l.length = 6
    · have : ((l.length : Int) != 6) = false := by simp; omega
      rw [if_pos rfl, this, decide_eq_true c]
      simp only [spec_l4GroupOk.j0, Bool.false_eq_true, if_false, Bool.true_and]
      exact testLoop (fun n => Any.inB n 0 16) l (fun k i => spec_l4GroupOk.l0 k i h e l) 0
        (fun k => by simp only [spec_l4GroupOk.l0]; rw [if_neg (by omega)])
        (fun k i hi _ => by
          simp only [spec_l4GroupOk.l0]
          rw [if_pos (by omega), if_pos (by omega), spec_in_eq, rd_nat, getD_get' hi, w64s hi (by omega)]
          simp [Any.inB])
        l.length k 0 (by omega) (by omega) (by omega)
    · have : ((l.length : Int) != 6) = true := by simp; omega
      rw [if_pos rfl, this]
      simp [spec_l4GroupOk.j0, c]
theorem impl_Group_eq (h e : Int) (l : List Int) : impl_isGroup.f h e l = some (groupB h e l) := by
  unfold impl_isGroup.f groupB cf_impl_isGroup_1.f
  simp only [impl_Lease_eq, Option.bind_some]
  cases leaseB h e with
  | false => simp
  | true =>
    rw [if_pos rfl]
    by_cases c : l.length = 6
    · rw [if_pos (by omega), decide_eq_true c, Bool.true_and, Bool.true_and, Any.anyM_eq (q := fun x => !Any.inB x 0 16) (fun x _ => by unfold impl_isGroup_1.f; rw [impl_in_eq]; simp [Any.inB])]
      simp only [Option.bind_some]
      rw [any_not (fun x => Any.inB x 0 16)]
    · rw [if_neg (by omega), decide_eq_false c]; simp
theorem groupB_len {h e : Int} {l : List Int} (hg : groupB h e l = true) : l.length = 6 ∧ leaseB h e = true := by unfold groupB at hg; simp at hg; exact ⟨hg.1.2, hg.1.1⟩
theorem isBlock_eq (a : Int) : impl_isBlock.f a = some (Any.inB a 0 17) := by
  unfold impl_isBlock.f Any.inB
  rw [impl_in_eq]; simp
/-- Is a list of free blocks right? -/
def freesB (l : List Int) : Bool := decide (l.length ≤ 12) && l.all fun b => Any.inB b 0 17
theorem spec_Frees_eq (l : List Int) (k : Nat) (hk : 20 ≤ k) : spec_l4FreesOk.f k l = some (freesB l) := by
  unfold spec_l4FreesOk.f freesB
  by_cases c : l.length ≤ 12
  · rw [if_neg (by omega), decide_eq_true c, Bool.true_and]
    exact testLoop (fun b => Any.inB b 0 17) l (fun k i => spec_l4FreesOk.l0 k l i) 0
      (fun k => by simp only [spec_l4FreesOk.l0]; rw [if_neg (by omega)])
      (fun k i hi _ => by
        simp only [spec_l4FreesOk.l0]
        rw [if_pos (by omega), if_pos (by omega), Block_eq, rd_nat, getD_get' hi, w64s hi (by omega)]; rfl)
      l.length k 0 (by omega) (by omega) (by omega)
  · rw [if_pos (by omega), decide_eq_false c, Bool.false_and]
theorem impl_Frees_eq (l : List Int) : impl_areFrees.f l = some (freesB l) := by
  unfold impl_areFrees.f freesB cf_impl_areFrees_1.f
  by_cases c : l.length ≤ 12
  · rw [if_pos (by omega), decide_eq_true c, Bool.true_and, Any.anyM_eq (q := fun x => !Any.inB x 0 17) (fun x _ => by unfold impl_areFrees_1.f; rw [isBlock_eq]; rfl)]
    simp only [Option.bind_some]
    rw [any_not (fun x => Any.inB x 0 17)]
  · rw [if_neg (by omega), decide_eq_false c, Bool.false_and]
/-- Is a view right? -/
def viewB (h e : Int) (v : List S50) (g : List S97) (f : List Int) : Bool :=
  leaseB h e && decide (0 ≤ h) && decide (v.length = 4) && decide (g.length = 3) && freesB f && v.all (fun x => volB x.f0.f0 x.f0.f1 x.f1 x.f2) && g.all (fun x => groupB x.f0.f0 x.f0.f1 x.f1)
theorem spec_View_eq (h e : Int) (v : List S50) (g : List S97) (f : List Int) (k : Nat) (hk : 100 ≤ k) : spec_ViewOk.f k h e v g f = some (viewB h e v g f) := by
  obtain ⟨k, rfl⟩ : ∃ m, k = m + 1 := ⟨k - 1, by omega⟩
  unfold spec_ViewOk.f viewB
  simp only [spec_Lease_eq, Option.bind_some]
  cases leaseB h e with
  | false => simp [spec_ViewOk.j0]
  | true =>
    rw [if_pos rfl]
    by_cases c0 : h < 0
    · rw [if_pos c0, decide_eq_false (show ¬ 0 ≤ h by omega)]; simp [spec_ViewOk.j0]
    · rw [if_neg c0, decide_eq_true (show 0 ≤ h by omega)]
      by_cases c1 : v.length = 4
      · rw [if_pos (show (v.length : Int) = 4 by omega), decide_eq_true c1]
        by_cases c2 : g.length = 3
        · rw [if_pos (show (g.length : Int) = 3 by omega), decide_eq_true c2, spec_Frees_eq f (k + 1) (by omega)]
          simp only [Option.bind_some, Bool.true_and]
          cases freesB f with
          | false => simp [spec_ViewOk.j0]
          | true =>
            simp only [spec_ViewOk.j0, Bool.not_true, Bool.false_eq_true, if_false, Bool.true_and]
            have t1 : ∀ k, 60 ≤ k → spec_ViewOk.l1 k 0 h e v g f = some (g.all fun x => groupB x.f0.f0 x.f0.f1 x.f1) := fun k hk =>
              testLoop (fun x : S97 => groupB x.f0.f0 x.f0.f1 x.f1) g (fun k i => spec_ViewOk.l1 k i h e v g f) 30
                (fun k => by simp only [spec_ViewOk.l1]; rw [if_neg (by omega)])
                (fun k i hi hK => by
                  simp only [spec_ViewOk.l1]
                  rw [if_pos (by omega), if_pos (by omega)]
                  unfold rd_T97
                  rw [getD_get hi, spec_Group_eq _ _ _ k (by omega), w64s hi (by omega)]; rfl)
                g.length k 0 (by omega) (by omega) (by omega)
            obtain ⟨x0, x1, x2, x3, rfl⟩ : ∃ a b c d, v = [a, b, c, d] := by
              match v, c1 with
              | [a, b, c, d], _ => exact ⟨a, b, c, d, rfl⟩
            have st : ∀ (k i : Nat) (hi : i < 4), 30 ≤ k → spec_ViewOk.l0 (k + 1) i h e [x0, x1, x2, x3] g f = if volB ([x0, x1, x2, x3][i]).f0.f0 ([x0, x1, x2, x3][i]).f0.f1 ([x0, x1, x2, x3][i]).f1 ([x0, x1, x2, x3][i]).f2 = true then spec_ViewOk.l0 k ((i + 1 : Nat) : Int) h e [x0, x1, x2, x3] g f else some false := by
              intro k i hi hK
              have hi' : i < [x0, x1, x2, x3].length := hi
              have hi2 : (i : Int) < (([x0, x1, x2, x3].length : Nat) : Int) := by omega
              simp only [spec_ViewOk.l0]
              rw [if_pos hi2, if_pos (by omega)]
              unfold rd_T50
              rw [getD_get hi', spec_Vol_eq _ _ _ _ k (by omega), w64s hi (by omega)]; rfl
            obtain ⟨k, rfl⟩ : ∃ m, k = m + 5 := ⟨k - 5, by omega⟩
            have s0 : spec_ViewOk.l0 (k + 4 + 1) ((0 : Nat) : Int) h e [x0, x1, x2, x3] g f = if volB x0.f0.f0 x0.f0.f1 x0.f1 x0.f2 = true then spec_ViewOk.l0 (k + 4) ((0 + 1 : Nat) : Int) h e [x0, x1, x2, x3] g f else some false := st (k + 4) 0 (by omega) (by omega)
            have s1 : spec_ViewOk.l0 (k + 3 + 1) ((1 : Nat) : Int) h e [x0, x1, x2, x3] g f = if volB x1.f0.f0 x1.f0.f1 x1.f1 x1.f2 = true then spec_ViewOk.l0 (k + 3) ((1 + 1 : Nat) : Int) h e [x0, x1, x2, x3] g f else some false := st (k + 3) 1 (by omega) (by omega)
            have s2 : spec_ViewOk.l0 (k + 2 + 1) ((2 : Nat) : Int) h e [x0, x1, x2, x3] g f = if volB x2.f0.f0 x2.f0.f1 x2.f1 x2.f2 = true then spec_ViewOk.l0 (k + 2) ((2 + 1 : Nat) : Int) h e [x0, x1, x2, x3] g f else some false := st (k + 2) 2 (by omega) (by omega)
            have s3 : spec_ViewOk.l0 (k + 1 + 1) ((3 : Nat) : Int) h e [x0, x1, x2, x3] g f = if volB x3.f0.f0 x3.f0.f1 x3.f1 x3.f2 = true then spec_ViewOk.l0 (k + 1) ((3 + 1 : Nat) : Int) h e [x0, x1, x2, x3] g f else some false := st (k + 1) 3 (by omega) (by omega)
            have s4 : spec_ViewOk.l0 (k + 1) ((3 + 1 : Nat) : Int) h e [x0, x1, x2, x3] g f = some (g.all fun x => groupB x.f0.f0 x.f0.f1 x.f1) := by
              simp only [spec_ViewOk.l0]
              rw [if_neg (by simp), t1 k (by omega)]
            clear st
            simp only [List.all_cons, List.all_nil, Bool.and_true]
            refine Eq.trans s0 ?_
            cases volB x0.f0.f0 x0.f0.f1 x0.f1 x0.f2 with
            | false => simp
            | true =>
              rw [if_pos rfl]; refine Eq.trans s1 ?_
              cases volB x1.f0.f0 x1.f0.f1 x1.f1 x1.f2 with
              | false => simp
              | true =>
                rw [if_pos rfl]; refine Eq.trans s2 ?_
                cases volB x2.f0.f0 x2.f0.f1 x2.f1 x2.f2 with
                | false => simp
                | true =>
                  rw [if_pos rfl]; refine Eq.trans s3 ?_
                  cases volB x3.f0.f0 x3.f0.f1 x3.f1 x3.f2 with
                  | false => simp
                  | true => rw [if_pos rfl]; refine Eq.trans s4 ?_; simp
        · rw [if_neg (show ¬ (g.length : Int) = 3 by omega), decide_eq_false c2]; simp [spec_ViewOk.j0]
      · rw [if_neg (show ¬ (v.length : Int) = 4 by omega), decide_eq_false c1]; simp [spec_ViewOk.j0]
theorem impl_View_eq (h e : Int) (v : List S50) (g : List S97) (f : List Int) : impl_isView.f h e v g f = some (viewB h e v g f) := by
  unfold impl_isView.f viewB impl_nobody.f cf_impl_isView_1.f cf_impl_isView_2.f
  simp only [impl_Lease_eq, Option.bind_some]
  rw [Any.anyM_eq (q := fun x : S50 => !volB x.f0.f0 x.f0.f1 x.f1 x.f2) (fun x _ => by unfold impl_isView_1.f; rw [impl_Vol_eq]; rfl),
    Any.anyM_eq (q := fun x : S97 => !groupB x.f0.f0 x.f0.f1 x.f1) (fun x _ => by unfold impl_isView_2.f; rw [impl_Group_eq]; rfl), impl_Frees_eq]
  simp only [Option.bind_some]
  have n1 := any_not (fun x : S50 => volB x.f0.f0 x.f0.f1 x.f1 x.f2) v
  have n2 := any_not (fun x : S97 => groupB x.f0.f0 x.f0.f1 x.f1) g
  rw [← n1, ← n2]
  generalize (v.any fun x => !volB x.f0.f0 x.f0.f1 x.f1 x.f2) = a1
  generalize (g.any fun x => !groupB x.f0.f0 x.f0.f1 x.f1) = a2
  cases hle : leaseB h e with
  | false => simp
  | true =>
    have hh : (!(h == -1) || (!(e == 0))) = decide (0 ≤ h) := by
      unfold leaseB at hle
      simp only [Bool.or_eq_true, decide_eq_true_eq] at hle
      rcases hle with ⟨rfl, rfl⟩ | hx
      · rfl
      · have : (h == -1) = false := by simp; omega
        rw [this, decide_eq_true hx.1.1]; rfl
    rw [if_pos rfl, hh]
    by_cases c0 : 0 ≤ h
    · by_cases c1 : v.length = 4
      · rw [if_pos (show (v.length : Int) = 4 by omega)]
        by_cases c2 : g.length = 3
        · rw [if_pos (show (g.length : Int) = 3 by omega)]
          cases freesB f <;> cases a1 <;> cases a2 <;> simp [c0, c1, c2]
        · rw [if_neg (show ¬ (g.length : Int) = 3 by omega)]; simp [c2]
      · rw [if_neg (show ¬ (v.length : Int) = 4 by omega)]; simp [c1]
    · simp [c0]
theorem FnExactViewOk : laws_FnExactViewOk.Pure := by
  intro a v g f ha ⟨hv, hqv⟩ ⟨hg, hqg⟩ ⟨hf, _⟩
  refine ⟨2097200, ?_⟩
  unfold laws_FnExactViewOk.f
  unfold maxLen at hv hg hf
  generalize hk : 2097200 = k
  have hk1 : 2097200 ≤ k := by omega
  clear hk
  unfold laws_szView.f
  rcases szVolSecS_eq v 1048576 hv (fun x hx => by have := hqv x hx; unfold q45 at this; unfold maxLen at this; exact this.2.2.1) (by omega) (by omega) k (by omega) with e | ⟨r, r0, r1, h2, h3, e⟩
  · rw [e]; simp
  rw [e]; simp only [Option.bind_some]
  rw [if_neg (show ¬ r < 0 by omega)]
  rcases szGroupSecS_eq g r hg (fun x hx => by have := hqg x hx; unfold q226 at this; unfold maxLen at this; exact this.2.1) (by omega) (by omega) k (by omega) with e | ⟨q, q0, q1, h4, h5, e⟩
  · rw [e]; simp
  rw [e]; simp only [Option.bind_some]
  rw [if_neg (show ¬ q < 0 by omega), szIntS_eq f q hf (by omega) (by omega)]
  simp only [Option.bind_some]
  by_cases c : q - (f.length : Int) < 0
  · simp [c]
  rw [if_neg c, if_neg c]
  simp only [Option.bind_some]
  rw [if_neg c]
  have t : laws_toView.f k a.f0 a.f1 v g f = some (a.f0, a.f1, v.map cVS, g.map cGS, f) := by
    unfold laws_toView.f laws_toLease.f
    simp only [Option.bind_some]
    rw [toVolSecS_eq v k h2 h3 (by omega), toGroupSecS_eq g k h4 h5 (by omega), toIntS_eq f k (by omega) (by omega)]; rfl
  rw [t]
  simp only [Option.bind_some]
  rw [spec_View_eq _ _ _ _ _ k (by omega)]
  unfold impl_ViewOk.f
  rw [impl_View_eq]
  simp only [Option.bind_some, bne_self_eq_false, Bool.false_eq_true, if_false]
  have t2 : laws_eqView.f k a.f0 a.f1 (v.map cVS) (g.map cGS) f a.f0 a.f1 (v.map cVS) (g.map cGS) f = some true := by
    unfold laws_eqView.f laws_eqLease.f
    rw [if_pos rfl, if_pos rfl]
    simp only [Option.bind_some, if_true]
    rw [eqVolSecS_eq _ k (by simpa using h2) (by intro x hx; obtain ⟨y, hy, rfl⟩ := List.mem_map.mp hx; exact h3 y hy) (by omega)]
    simp only [Option.bind_some, if_true]
    rw [eqGroupSecS_eq _ k (by simpa using h4) (by intro x hx; obtain ⟨y, hy, rfl⟩ := List.mem_map.mp hx; exact h5 y hy) (by omega)]
    simp only [Option.bind_some, if_true]
    rw [eqIntS_eq f k (by omega) (by omega)]
    simp
  rw [t2]
  simp

end Go.Proofs.Ytadmodbdkmmplaa.Pure
