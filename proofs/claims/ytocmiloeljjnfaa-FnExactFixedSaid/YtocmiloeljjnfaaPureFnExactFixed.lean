/- Proved: the pure statement behind FnExactFixed: for every number and every width the law's Lean function answers true. -/
import Derived.Test.YtocmiloeljjnfaaQFnExactFixedx1
import Derived.Test.YtocmiloeljjnfaaNum
namespace Go.Proofs.Ytocmiloeljjnfaa.Pure
open Go.RowKit Go.Proofs.Ytocmiloeljjnfaa.QFnExactFixed Go.Proofs.YtocmiloeljjnfaaW.PrintWords Go.Proofs.YtocmiloeljjnfaaW.PrintLast Go.Proofs.YtocmiloeljjnfaaW.PrintMore Go.Proofs.Ytocmiloeljjnfaa.Num
set_option linter.unusedSimpArgs false
theorem spec_in_eq (a b c : Int) : spec_l1In.f a b c = some (decide (b ≤ a ∧ a ≤ c)) := by
  unfold spec_l1In.f
  by_cases h : b ≤ a <;> simp [h]
/-- The last i bytes of a number, the greatest first. -/
def fixL (n : Int) : Nat → List Int
  | 0 => []
  | i + 1 => (n / 256 ^ i % 256) :: fixL n i
theorem fixL_length (n : Int) : ∀ i, (fixL n i).length = i
  | 0 => rfl
  | i + 1 => by simp [fixL, fixL_length n i]
theorem fixL_bytes (n : Int) : ∀ i, Bytes (fixL n i)
  | 0 => Bytes.nil
  | i + 1 => Bytes.cons (by omega) (by omega) (fixL_bytes n i)
theorem two8 (n : Nat) : (2 : Int) ^ (8 * n) = 256 ^ n := by
  induction n with
  | zero => rfl
  | succ n ih => rw [show 8 * (n + 1) = 8 * n + 8 by omega, Int.pow_add, ih, Int.pow_succ]; congr 1
theorem div_pow (n : Int) (i : Nat) : n / 256 ^ i / 256 = n / 256 ^ (i + 1) := by
  rw [Int.pow_succ, Int.ediv_ediv_of_nonneg (Int.le_of_lt (Int.pow_pos (by decide)))]
theorem div_pow_nonneg {n : Int} (h : 0 ≤ n) (i : Nat) : 0 ≤ n / 256 ^ i := Int.ediv_nonneg h (Int.le_of_lt (Int.pow_pos (by decide)))
theorem div_pow_le {n : Int} (h : 0 ≤ n) (i : Nat) : n / 256 ^ i ≤ n := Int.ediv_le_self _ h
theorem shr8 (n : Int) {i : Nat} (hi : i ≤ 7) : shr .i64 n (wrap64 (8 * (i : Int))) = n / 256 ^ i := by
  unfold shr
  have : min (wrap64 (8 * (i : Int))).toNat IntKind.i64.bits = 8 * i := by
    have : IntKind.i64.bits = 64 := rfl
    rw [w64 (by omega) (by omega)]
    omega
  rw [this, two8]
/-- What Fixed answers. -/
def fixS (n w : Int) : ByteArray := if 1 ≤ w ∧ w ≤ 7 ∧ 0 ≤ n ∧ n / 256 ^ w.toNat = 0 then strOfNums (fixL n w.toNat) else strOfNums []
theorem spec_Fixed_loop (n : Int) (hn : 0 ≤ n) (hn1 : n ≤ 9223372036854775807) (w : Nat) (hw : w ≤ 7) (d : Nat) : ∀ (k i : Nat), w - i = d → i ≤ w → d < k →
    spec_Fixed.l0 k (n / 256 ^ i) w (strOfNums (fixL n i)) i = some (if n / 256 ^ w = 0 then strOfNums (fixL n w) else strOfNums []) := by
  induction d with
  | zero =>
    intro k i hd hi hk
    obtain ⟨k, rfl⟩ : ∃ m, k = m + 1 := ⟨k - 1, by omega⟩
    obtain rfl : i = w := by omega
    have := div_pow_nonneg hn i
    simp only [spec_Fixed.l0]
    rw [if_neg (by omega)]
    by_cases h : n / 256 ^ i = 0
    · rw [if_neg (by omega), if_pos h]
    · rw [if_pos (by omega), if_neg h]; rfl
  | succ d ih =>
    intro k i hd hi hk
    obtain ⟨k, rfl⟩ : ∃ m, k = m + 1 := ⟨k - 1, by omega⟩
    have h0 := div_pow_nonneg hn i
    have h1 := div_pow_le hn i
    simp only [spec_Fixed.l0]
    rw [if_pos (by omega)]
    simp only [Option.bind_some]
    rw [if_pos (by simp only [strOfNums_size, fixL_length, List.length_cons, List.length_nil]; omega), tm h0, td h0, w64 (by omega) (by omega), w64s (n := 8) (by omega) (by omega), div_pow, strOfNums_append]
    have := ih k (i + 1) (by omega) (by omega) (by omega)
    rw [show n / 256 ^ i % 256 % 256 = n / 256 ^ i % 256 by omega]
    exact this
theorem spec_Fixed_eq (n w : Int) (hn1 : n ≤ 9223372036854775807) (k : Nat) (hk : 10 ≤ k) : spec_Fixed.f k n w = some (fixS n w) := by
  obtain ⟨k, rfl⟩ : ∃ m, k = m + 1 := ⟨k - 1, by omega⟩
  unfold spec_Fixed.f fixS
  rw [spec_in_eq]
  simp only [Option.bind_some, decide_eq_true_eq]
  by_cases h : 1 ≤ w ∧ w ≤ 7
  · rw [if_pos h]
    simp only [spec_Fixed.j0]
    by_cases hn : n < 0
    · rw [if_pos (by simpa using hn), if_neg (by omega)]; rfl
    · rw [if_neg (by simpa using hn)]
      have := spec_Fixed_loop n (by omega) hn1 w.toNat (by omega) w.toNat k 0 (by omega) (by omega) (by omega)
      rw [show ((w.toNat : Nat) : Int) = w by omega] at this
      rw [show n / 256 ^ 0 = n by simp] at this
      have e : strOfNums (fixL n 0) = (⟨#[]⟩ : ByteArray) := rfl
      rw [e] at this
      refine this.trans ?_
      by_cases hz : n / 256 ^ w.toNat = 0
      · rw [if_pos hz, if_pos ⟨h.1, h.2, by omega, hz⟩]
      · rw [if_neg hz, if_neg (fun hh => hz hh.2.2.2)]
  · rw [if_neg h, if_neg (fun hh => h ⟨hh.1, hh.2.1⟩)]
    simp only [spec_Fixed.j0]; rfl
theorem impl_in_eq (a b c : Int) : impl_in.f a b c = some (decide (b ≤ a ∧ a ≤ c)) := by
  unfold impl_in.f
  by_cases h : b ≤ a <;> simp [h]
theorem impl_Fixed_loop (n : Int) (w : Nat) (hw : w ≤ 7) (d : Nat) : ∀ (k i : Nat), w - i = d → i ≤ w → d < k →
    impl_Fixed.l0 k n w (List.replicate (w - i) 0 ++ fixL n i) w i = some (strOfNums (fixL n w)) := by
  induction d with
  | zero =>
    intro k i hd hi hk
    obtain ⟨k, rfl⟩ : ∃ m, k = m + 1 := ⟨k - 1, by omega⟩
    obtain rfl : i = w := by omega
    simp only [impl_Fixed.l0]
    rw [if_neg (by omega), Nat.sub_self]; rfl
  | succ d ih =>
    intro k i hd hi hk
    obtain ⟨k, rfl⟩ : ∃ m, k = m + 1 := ⟨k - 1, by omega⟩
    have hs : (List.replicate (w - i) (0 : Int) ++ fixL n i).set (w - 1 - i) (n / 256 ^ i % 256) = List.replicate (w - (i + 1)) 0 ++ fixL n (i + 1) := by
      rw [show w - i = (w - (i + 1)) + 1 by omega, List.replicate_succ', List.append_assoc, List.set_append_right _ _ (by simp; omega)]
      rw [List.length_replicate, show w - 1 - i - (w - (i + 1)) = 0 by omega]; rfl
    have e1 : wrap64 ((wrap64 ((w : Int) - 1)) - i) = ((w - 1 - i : Nat) : Int) := by rw [w64 (n := (w : Int) - 1) (by omega) (by omega), w64 (by omega) (by omega)]; omega
    simp only [impl_Fixed.l0]
    rw [if_pos (by omega), if_pos (by rw [w64 (by omega) (by omega)]; omega), e1, if_pos (by omega), if_pos (by rw [List.length_append, List.length_replicate, fixL_length]; omega), toNat_nat, shr8 n (by omega), hs, w64s (n := 8) (by omega) (by omega)]
    exact ih k (i + 1) (by omega) (by omega) (by omega)
theorem impl_Fixed_eq (n w : Int) (k : Nat) (hk : 10 ≤ k) : impl_Fixed.f k n w = some (fixS n w) := by
  obtain ⟨k, rfl⟩ : ∃ m, k = m + 1 := ⟨k - 1, by omega⟩
  unfold impl_Fixed.f fixS
  rw [impl_in_eq]
  simp only [Option.bind_some, decide_eq_true_eq]
  by_cases h : 1 ≤ w ∧ w ≤ 7
  · rw [if_pos h]
    by_cases hn : n < 0
    · rw [if_pos hn, if_neg (by omega)]; simp only [impl_Fixed.j0]; rfl
    · rw [if_neg hn, if_pos (by rw [w64 (by omega) (by omega)]; omega)]
      have hsh := shr8 n (i := w.toNat) (by omega)
      rw [show ((w.toNat : Nat) : Int) = w by omega] at hsh
      rw [hsh]
      simp only [impl_Fixed.j0]
      by_cases hz : n / 256 ^ w.toNat = 0
      · have hr : (1 ≤ w ∧ w ≤ 7 ∧ 0 ≤ n ∧ n / 256 ^ w.toNat = 0) := ⟨h.1, h.2, by omega, hz⟩
        simp only [if_pos hr]
        rw [if_neg (by simp [hz]), if_pos (by omega), if_pos (by omega)]
        simp only [Option.bind_some]
        have := impl_Fixed_loop n w.toNat (by omega) w.toNat k 0 (by omega) (by omega) (by omega)
        rw [show ((w.toNat : Nat) : Int) = w by omega] at this
        rw [List.length_replicate, show ((w.toNat : Nat) : Int) = w by omega]
        simpa [fixL] using this
      · have hr : ¬ (1 ≤ w ∧ w ≤ 7 ∧ 0 ≤ n ∧ n / 256 ^ w.toNat = 0) := fun hh => hz hh.2.2.2
        simp only [if_neg hr]
        rw [if_pos (by simp [hz])]; rfl
  · rw [if_neg h, if_neg (fun hh => h ⟨hh.1, hh.2.1⟩)]
    simp only [impl_Fixed.j0]; rfl
theorem FnExactFixed : laws_FnExactFixed.Pure := by
  intro n w hn _
  have hb := i64_bounds hn
  refine ⟨10, ?_⟩
  unfold laws_FnExactFixed.f
  rw [spec_Fixed_eq n w (by omega) 10 (by omega), impl_Fixed_eq n w 10 (by omega)]; simp

end Go.Proofs.Ytocmiloeljjnfaa.Pure
