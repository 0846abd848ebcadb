/- Proved: the pure statement behind FnExactVar: for every 64-bit integer the law's Lean function answers true. -/
import Derived.Test.YtocmiloeljjnfaaPFnExactVarx1
import Derived.Test.YtocmiloeljjnfaaNum
namespace Go.Proofs.Ytocmiloeljjnfaa.Pure
open Go.RowKit Go.Proofs.Ytocmiloeljjnfaa.PFnExactVar Go.Proofs.YtocmiloeljjnfaaW.PrintWords Go.Proofs.YtocmiloeljjnfaaW.PrintLast Go.Proofs.Ytocmiloeljjnfaa.Num
theorem impl_in_eq (a b c : Int) : impl_in.f a b c = some (decide (b ≤ a ∧ a ≤ c)) := by
  unfold impl_in.f
  by_cases h : b ≤ a <;> simp [h]
theorem spec_in_eq (a b c : Int) : spec_l1In.f a b c = some (decide (b ≤ a ∧ a ≤ c)) := by
  unfold spec_l1In.f
  by_cases h : b ≤ a <;> simp [h]
theorem spec_Var_loop (f : Nat) : ∀ (k : Nat) (n : Int) (xs : List Int), 0 ≤ n → n < 562949953421312 → n < 128 ^ (f + 1) → f < k → xs.length < 1000000 - f → spec_Var.l0 k n xs = some (strOfNums (xs ++ vL f n)) := by
  induction f with
  | zero =>
    intro k n xs h0 h1 h2 hk hx
    obtain ⟨k, rfl⟩ : ∃ m, k = m + 1 := ⟨k - 1, by omega⟩
    simp only [spec_Var.l0]
    rw [if_neg (by omega), if_pos (by omega)]; rfl
  | succ f ih =>
    intro k n xs h0 h1 h2 hk hx
    obtain ⟨k, rfl⟩ : ∃ m, k = m + 1 := ⟨k - 1, by omega⟩
    simp only [spec_Var.l0]
    by_cases h : 128 ≤ n
    · rw [if_pos h, if_pos (by omega), td h0, tm h0, w64 (by omega) (by omega), w64 (by omega) (by omega), ih k (n / 128) _ (by omega) (by omega) (by rw [Int.pow_succ] at h2; omega) (by omega) (by simp; omega)]
      simp only [vL, if_pos h]
      rw [show (128 + n % 128) % 256 = 128 + n % 128 by omega]
      simp
    · rw [if_neg h, if_pos (by omega)]
      simp only [vL, if_neg h]
theorem spec_Var_eq (n : Int) (k : Nat) (hk : 8 ≤ k) : spec_Var.f k n = some (if 0 ≤ n ∧ n ≤ 562949953421311 then strOfNums (vL 6 n) else strOfNums []) := by
  unfold spec_Var.f
  rw [spec_in_eq]
  simp only [Option.bind_some, decide_eq_true_eq]
  by_cases h : 0 ≤ n ∧ n ≤ 562949953421311
  · rw [if_pos h, if_pos h, spec_Var_loop 6 k n [] (by omega) (by omega) (by simp; omega) (by omega) (by simp)]; simp
  · rw [if_neg h, if_neg h]; rfl
theorem impl_Var_loop (f : Nat) : ∀ (k : Nat) (n : Int) (xs : List Int), 0 ≤ n → n < 562949953421312 → n < 128 ^ (f + 1) → f < k → xs.length < 1000000 - f → impl_Var.l0 k n xs = some (strOfNums (xs ++ vL f n)) := by
  induction f with
  | zero =>
    intro k n xs h0 h1 h2 hk hx
    obtain ⟨k, rfl⟩ : ∃ m, k = m + 1 := ⟨k - 1, by omega⟩
    simp only [impl_Var.l0]
    rw [if_neg (by omega), if_pos (by omega)]; rfl
  | succ f ih =>
    intro k n xs h0 h1 h2 hk hx
    obtain ⟨k, rfl⟩ : ∃ m, k = m + 1 := ⟨k - 1, by omega⟩
    simp only [impl_Var.l0]
    by_cases h : 128 ≤ n
    · rw [if_pos h, if_pos (by omega), u8_or_128 (by omega) (by omega), ih k (n / 128) _ (by omega) (by omega) (by rw [Int.pow_succ] at h2; omega) (by omega) (by simp; omega)]
      simp only [vL, if_pos h]
      rw [show 128 + n % 256 % 128 = 128 + n % 128 by omega]
      simp
    · rw [if_neg h, if_pos (by omega)]
      simp only [vL, if_neg h]
theorem impl_Var_eq (n : Int) (k : Nat) (hk : 8 ≤ k) : impl_Var.f k n = some (if 0 ≤ n ∧ n ≤ 562949953421311 then strOfNums (vL 6 n) else strOfNums []) := by
  unfold impl_Var.f
  rw [impl_in_eq]
  simp only [Option.bind_some, decide_eq_true_eq]
  by_cases h : 0 ≤ n ∧ n ≤ 562949953421311
  · rw [if_pos h, if_pos h, impl_Var_loop 6 k n [] (by omega) (by omega) (by simp; omega) (by omega) (by simp)]; simp
  · rw [if_neg h, if_neg h]; rfl
theorem FnExactVar : laws_FnExactVar.Pure := by
  intro n _
  refine ⟨8, ?_⟩
  unfold laws_FnExactVar.f
  rw [spec_Var_eq n 8 (by omega), impl_Var_eq n 8 (by omega)]; simp

end Go.Proofs.Ytocmiloeljjnfaa.Pure
