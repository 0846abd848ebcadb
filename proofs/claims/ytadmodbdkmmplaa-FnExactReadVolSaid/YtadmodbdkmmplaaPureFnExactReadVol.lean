/- Proved: the pure statement behind FnExactReadVol: for every string of at most 140737488351232 bytes the law's Lean function answers true. -/
import Derived.Test.YtadmodbdkmmplaaQFnExactReadVolx
import Derived.Test.YtadmodbdkmmplaaNum
namespace Go.Proofs.Ytadmodbdkmmplaa.Pure
open Go.RowKit Go.Proofs.Ytadmodbdkmmplaa.QFnExactReadVol Go.Proofs.YtadmodbdkmmplaaW.PrintWords Go.Proofs.YtadmodbdkmmplaaW.PrintLast Go.Proofs.YtadmodbdkmmplaaW.PrintMore Go.Proofs.Ytadmodbdkmmplaa.Num
set_option linter.unusedSimpArgs false
set_option linter.unusedVariables false
/-- The inner loop: from round j on both come to the outer loop at the same number. -/
theorem crc_inner (s : ByteArray) (i : Int) (d : Nat) : ∀ (k : Nat) (j c : Int), 8 - j = d → 0 ≤ j → d < k → 0 ≤ c → c < 4294967296 →
    ∃ c', 0 ≤ c' ∧ c' < 4294967296 ∧ spec_Crc.l1 k s c i j = spec_Crc.l0 (k - d - 1) s c' (wrap64 (i + 1)) ∧ impl_Crc.l1 k s c s.size i j = impl_Crc.l0 (k - d - 1) s c' s.size (wrap64 (i + 1)) := by
  induction d with
  | zero =>
    intro k j c hd h0 hk hc0 hc1
    obtain ⟨k, rfl⟩ : ∃ m, k = m + 1 := ⟨k - 1, by omega⟩
    refine ⟨c, hc0, hc1, ?_, ?_⟩
    · simp only [spec_Crc.l1]; rw [if_neg (by omega)]; simp
    · simp only [impl_Crc.l1]; rw [if_neg (by omega)]; simp
  | succ d ih =>
    intro k j c hd h0 hk hc0 hc1
    obtain ⟨k, rfl⟩ : ∃ m, k = m + 1 := ⟨k - 1, by omega⟩
    have hw : wrap64 (j + 1) = j + 1 := w64 (by omega) (by omega)
    have e1 : wrap64 (c / 2) = c / 2 := w64 (by omega) (by omega)
    simp only [spec_Crc.l1, impl_Crc.l1]
    have h8 : j < 8 := by omega
    simp only [if_pos h8]
    rw [tm hc0, td hc0, e1, u32_and1 hc0 hc1, hw]
    by_cases ho : c % 2 = 1
    · obtain ⟨x, x1, x2, x3, x4⟩ := xor_64_32 (a := c / 2) (b := 2197175160) (by omega) (by omega) (by omega) (by omega)
      simp only [if_pos ho]
      rw [x1, x2]
      obtain ⟨c', q0, q1, q2, q3⟩ := ih k (j + 1) x (by omega) (by omega) (by omega) x3 x4
      exact ⟨c', q0, q1, by rw [q2, show k + 1 - (d + 1) - 1 = k - d - 1 by omega], by rw [q3, show k + 1 - (d + 1) - 1 = k - d - 1 by omega]⟩
    · simp only [if_neg ho]
      obtain ⟨c', q0, q1, q2, q3⟩ := ih k (j + 1) (c / 2) (by omega) (by omega) (by omega) (by omega) (by omega)
      exact ⟨c', q0, q1, by rw [q2, show k + 1 - (d + 1) - 1 = k - d - 1 by omega], by rw [q3, show k + 1 - (d + 1) - 1 = k - d - 1 by omega]⟩

theorem crc_loop (s : ByteArray) (hs : s.size ≤ 1048576) (d : Nat) : ∀ (k : Nat) (i c : Int), (s.size : Int) - i = d → 0 ≤ i → 10 * d < k → 0 ≤ c → c < 4294967296 →
    ∃ r, spec_Crc.l0 k s c i = some r ∧ impl_Crc.l0 k s c s.size i = some r := by
  induction d with
  | zero =>
    intro k i c hd h0 hk hc0 hc1
    obtain ⟨k, rfl⟩ : ∃ m, k = m + 1 := ⟨k - 1, by omega⟩
    refine ⟨4294967295 - c, ?_, ?_⟩
    · simp only [spec_Crc.l0]; rw [if_neg (by omega), w64 (by omega) (by omega)]
    · simp only [impl_Crc.l0]; rw [if_neg (by omega), Int.emod_eq_of_lt (by omega) (by omega)]
  | succ d ih =>
    intro k i c hd h0 hk hc0 hc1
    obtain ⟨k, rfl⟩ : ∃ m, k = m + 1 := ⟨k - 1, by omega⟩
    have hb := bt_range s i
    have hlt : i < (s.size : Int) := by omega
    have hw : wrap64 (i + 1) = i + 1 := w64 (by omega) (by omega)
    obtain ⟨x, x1, x2, x3, x4⟩ := xor_64_32 (a := c) (b := bt s i) hc0 hb.1 hc1 (by omega)
    obtain ⟨c', q0, q1, q2, q3⟩ := crc_inner s i 8 k 0 x (by omega) (by omega) (by omega) x3 x4
    obtain ⟨r, r1, r2⟩ := ih (k - 8 - 1) (i + 1) c' (by omega) (by omega) (by omega) q0 q1
    refine ⟨r, ?_, ?_⟩
    · simp only [spec_Crc.l0]
      rw [if_pos hlt, if_pos h0, b64, x1, q2, hw]; exact r1
    · simp only [impl_Crc.l0]
      rw [if_pos hlt, if_pos h0, if_pos hlt, show bt s i % 4294967296 = bt s i by omega, x2, q3, hw]; exact r2
theorem crc_range (s : ByteArray) (hs : s.size ≤ 1048576) (d : Nat) : ∀ (k : Nat) (i c : Int), (s.size : Int) - i = d → 0 ≤ i → 10 * d < k → 0 ≤ c → c < 4294967296 →
    ∃ r, spec_Crc.l0 k s c i = some r ∧ 0 ≤ r ∧ r < 4294967296 := by
  induction d with
  | zero =>
    intro k i c hd h0 hk hc0 hc1
    obtain ⟨k, rfl⟩ : ∃ m, k = m + 1 := ⟨k - 1, by omega⟩
    refine ⟨4294967295 - c, ?_, by omega, by omega⟩
    simp only [spec_Crc.l0]; rw [if_neg (by omega), w64 (by omega) (by omega)]
  | succ d ih =>
    intro k i c hd h0 hk hc0 hc1
    obtain ⟨k, rfl⟩ : ∃ m, k = m + 1 := ⟨k - 1, by omega⟩
    have hb := bt_range s i
    have hlt : i < (s.size : Int) := by omega
    have hw : wrap64 (i + 1) = i + 1 := w64 (by omega) (by omega)
    obtain ⟨x, x1, x2, x3, x4⟩ := xor_64_32 (a := c) (b := bt s i) hc0 hb.1 hc1 (by omega)
    obtain ⟨c', q0, q1, q2, q3⟩ := crc_inner s i 8 k 0 x (by omega) (by omega) (by omega) x3 x4
    obtain ⟨r, r1, r2⟩ := ih (k - 8 - 1) (i + 1) c' (by omega) (by omega) (by omega) q0 q1
    refine ⟨r, ?_, r2⟩
    simp only [spec_Crc.l0]
    rw [if_pos hlt, if_pos h0, b64, x1, q2, hw]; exact r1
/-- The sum of a text. -/
def crcS (s : ByteArray) : Int := (spec_Crc.f (10 * s.size + 1) s).getD 0
theorem crc_eq (s : ByteArray) (hs : s.size ≤ 1048576) (k : Nat) (hk : 10 * s.size + 1 ≤ k) : spec_Crc.f k s = some (crcS s) ∧ impl_Crc.f k s = some (crcS s) ∧ 0 ≤ crcS s ∧ crcS s < 4294967296 := by
  obtain ⟨r, h1, h2⟩ := crc_loop s hs s.size (10 * s.size + 1) 0 4294967295 (by omega) (by omega) (by omega) (by omega) (by omega)
  obtain ⟨q, h3, h4, h5⟩ := crc_range s hs s.size (10 * s.size + 1) 0 4294967295 (by omega) (by omega) (by omega) (by omega) (by omega)
  have e : crcS s = r := by unfold crcS spec_Crc.f; rw [h1]; rfl
  have hq : q = r := by rw [h1] at h3; exact (Option.some.inj h3).symm
  subst hq
  rw [e]
  refine ⟨?_, ?_, h4, h5⟩
  · exact at_rounds (spec_Crc.mono s) hk (by unfold spec_Crc.f; exact h1)
  · exact at_rounds (impl_Crc.mono s) hk (by unfold impl_Crc.f; exact h2)
theorem spec_in_eq (a b c : Int) : spec_l1In.f a b c = some (decide (b ≤ a ∧ a ≤ c)) := by
  unfold spec_l1In.f
  by_cases h : b ≤ a <;> simp [h]
/-- The last i bytes of a number, the greatest first. -/
def fixL (n : Int) : Nat → List Int
  | 0 => []
  | i + 1 => (n / 256 ^ i % 256) :: fixL n i
theorem fixL_length (n : Int) : ∀ i, (fixL n i).length = i
  | 0 => rfl
  | i + 1 => by simp [fixL, fixL_length n i]
theorem fixL_bytes (n : Int) : ∀ i, Bytes (fixL n i)
  | 0 => Bytes.nil
  | i + 1 => Bytes.cons (by omega) (by omega) (fixL_bytes n i)
theorem two8 (n : Nat) : (2 : Int) ^ (8 * n) = 256 ^ n := by
  induction n with
  | zero => rfl
  | succ n ih => rw [show 8 * (n + 1) = 8 * n + 8 by omega, Int.pow_add, ih, Int.pow_succ]; congr 1
theorem div_pow (n : Int) (i : Nat) : n / 256 ^ i / 256 = n / 256 ^ (i + 1) := by
  rw [Int.pow_succ, Int.ediv_ediv_of_nonneg (Int.le_of_lt (Int.pow_pos (by decide)))]
theorem div_pow_nonneg {n : Int} (h : 0 ≤ n) (i : Nat) : 0 ≤ n / 256 ^ i := Int.ediv_nonneg h (Int.le_of_lt (Int.pow_pos (by decide)))
theorem div_pow_le {n : Int} (h : 0 ≤ n) (i : Nat) : n / 256 ^ i ≤ n := Int.ediv_le_self _ h
theorem shr8 (n : Int) {i : Nat} (hi : i ≤ 7) : shr .i64 n (wrap64 (8 * (i : Int))) = n / 256 ^ i := by
  unfold shr
  have : min (wrap64 (8 * (i : Int))).toNat IntKind.i64.bits = 8 * i := by
    have : IntKind.i64.bits = 64 := rfl
    rw [w64 (by omega) (by omega)]
    omega
  rw [this, two8]
/-- What Fixed answers. -/
def fixS (n w : Int) : ByteArray := if 1 ≤ w ∧ w ≤ 7 ∧ 0 ≤ n ∧ n / 256 ^ w.toNat = 0 then strOfNums (fixL n w.toNat) else strOfNums []
theorem spec_Fixed_loop (n : Int) (hn : 0 ≤ n) (hn1 : n ≤ 9223372036854775807) (w : Nat) (hw : w ≤ 7) (d : Nat) : ∀ (k i : Nat), w - i = d → i ≤ w → d < k →
    spec_Fixed.l0 k (n / 256 ^ i) w (strOfNums (fixL n i)) i = some (if n / 256 ^ w = 0 then strOfNums (fixL n w) else strOfNums []) := by
  induction d with
  | zero =>
    intro k i hd hi hk
    obtain ⟨k, rfl⟩ : ∃ m, k = m + 1 := ⟨k - 1, by omega⟩
    obtain rfl : i = w := by omega
    have := div_pow_nonneg hn i
    simp only [spec_Fixed.l0]
    rw [if_neg (by omega)]
    by_cases h : n / 256 ^ i = 0
    · rw [if_neg (by omega), if_pos h]
    · rw [if_pos (by omega), if_neg h]; rfl
  | succ d ih =>
    intro k i hd hi hk
    obtain ⟨k, rfl⟩ : ∃ m, k = m + 1 := ⟨k - 1, by omega⟩
    have h0 := div_pow_nonneg hn i
    have h1 := div_pow_le hn i
    simp only [spec_Fixed.l0]
    rw [if_pos (by omega)]
    simp only [Option.bind_some]
    rw [if_pos (by simp only [strOfNums_size, fixL_length, List.length_cons, List.length_nil]; omega), tm h0, td h0, w64 (by omega) (by omega), w64s (n := 8) (by omega) (by omega), div_pow, strOfNums_append]
    have := ih k (i + 1) (by omega) (by omega) (by omega)
    rw [show n / 256 ^ i % 256 % 256 = n / 256 ^ i % 256 by omega]
    exact this
theorem spec_Fixed_eq (n w : Int) (hn1 : n ≤ 9223372036854775807) (k : Nat) (hk : 10 ≤ k) : spec_Fixed.f k n w = some (fixS n w) := by
  obtain ⟨k, rfl⟩ : ∃ m, k = m + 1 := ⟨k - 1, by omega⟩
  unfold spec_Fixed.f fixS
  rw [spec_in_eq]
  simp only [Option.bind_some, decide_eq_true_eq]
  by_cases h : 1 ≤ w ∧ w ≤ 7
  · rw [if_pos h]
    simp only [spec_Fixed.j0]
    by_cases hn : n < 0
    · rw [if_pos (by simpa using hn), if_neg (by omega)]; rfl
    · rw [if_neg (by simpa using hn)]
      have := spec_Fixed_loop n (by omega) hn1 w.toNat (by omega) w.toNat k 0 (by omega) (by omega) (by omega)
      rw [show ((w.toNat : Nat) : Int) = w by omega] at this
      rw [show n / 256 ^ 0 = n by simp] at this
      have e : strOfNums (fixL n 0) = (⟨#[]⟩ : ByteArray) := rfl
      rw [e] at this
      refine this.trans ?_
      by_cases hz : n / 256 ^ w.toNat = 0
      · rw [if_pos hz, if_pos ⟨h.1, h.2, by omega, hz⟩]
      · rw [if_neg hz, if_neg (fun hh => hz hh.2.2.2)]
  · rw [if_neg h, if_neg (fun hh => h ⟨hh.1, hh.2.1⟩)]
    simp only [spec_Fixed.j0]; rfl
theorem impl_in_eq (a b c : Int) : impl_in.f a b c = some (decide (b ≤ a ∧ a ≤ c)) := by
  unfold impl_in.f
  by_cases h : b ≤ a <;> simp [h]
theorem impl_Fixed_loop (n : Int) (w : Nat) (hw : w ≤ 7) (d : Nat) : ∀ (k i : Nat), w - i = d → i ≤ w → d < k →
    impl_Fixed.l0 k n w (List.replicate (w - i) 0 ++ fixL n i) w i = some (strOfNums (fixL n w)) := by
  induction d with
  | zero =>
    intro k i hd hi hk
    obtain ⟨k, rfl⟩ : ∃ m, k = m + 1 := ⟨k - 1, by omega⟩
    obtain rfl : i = w := by omega
    simp only [impl_Fixed.l0]
    rw [if_neg (by omega), Nat.sub_self]; rfl
  | succ d ih =>
    intro k i hd hi hk
    obtain ⟨k, rfl⟩ : ∃ m, k = m + 1 := ⟨k - 1, by omega⟩
    have hs : (List.replicate (w - i) (0 : Int) ++ fixL n i).set (w - 1 - i) (n / 256 ^ i % 256) = List.replicate (w - (i + 1)) 0 ++ fixL n (i + 1) := by
      rw [show w - i = (w - (i + 1)) + 1 by omega, List.replicate_succ', List.append_assoc, List.set_append_right _ _ (by simp; omega)]
      rw [List.length_replicate, show w - 1 - i - (w - (i + 1)) = 0 by omega]; rfl
    have e1 : wrap64 ((wrap64 ((w : Int) - 1)) - i) = ((w - 1 - i : Nat) : Int) := by rw [w64 (n := (w : Int) - 1) (by omega) (by omega), w64 (by omega) (by omega)]; omega
    simp only [impl_Fixed.l0]
    rw [if_pos (by omega), if_pos (by rw [w64 (by omega) (by omega)]; omega), e1, if_pos (by omega), if_pos (by rw [List.length_append, List.length_replicate, fixL_length]; omega), toNat_nat, shr8 n (by omega), hs, w64s (n := 8) (by omega) (by omega)]
    exact ih k (i + 1) (by omega) (by omega) (by omega)
theorem impl_Fixed_eq (n w : Int) (k : Nat) (hk : 10 ≤ k) : impl_Fixed.f k n w = some (fixS n w) := by
  obtain ⟨k, rfl⟩ : ∃ m, k = m + 1 := ⟨k - 1, by omega⟩
  unfold impl_Fixed.f fixS
  rw [impl_in_eq]
  simp only [Option.bind_some, decide_eq_true_eq]
  by_cases h : 1 ≤ w ∧ w ≤ 7
  · rw [if_pos h]
    by_cases hn : n < 0
    · rw [if_pos hn, if_neg (by omega)]; simp only [impl_Fixed.j0]; rfl
    · rw [if_neg hn, if_pos (by rw [w64 (by omega) (by omega)]; omega)]
      have hsh := shr8 n (i := w.toNat) (by omega)
      rw [show ((w.toNat : Nat) : Int) = w by omega] at hsh
      rw [hsh]
      simp only [impl_Fixed.j0]
      by_cases hz : n / 256 ^ w.toNat = 0
      · have hr : (1 ≤ w ∧ w ≤ 7 ∧ 0 ≤ n ∧ n / 256 ^ w.toNat = 0) := ⟨h.1, h.2, by omega, hz⟩
        simp only [if_pos hr]
        rw [if_neg (by simp [hz]), if_pos (by omega), if_pos (by omega)]
        simp only [Option.bind_some]
        have := impl_Fixed_loop n w.toNat (by omega) w.toNat k 0 (by omega) (by omega) (by omega)
        rw [show ((w.toNat : Nat) : Int) = w by omega] at this
        rw [List.length_replicate, show ((w.toNat : Nat) : Int) = w by omega]
        simpa [fixL] using this
      · have hr : ¬ (1 ≤ w ∧ w ≤ 7 ∧ 0 ≤ n ∧ n / 256 ^ w.toNat = 0) := fun hh => hz hh.2.2.2
        simp only [if_neg hr]
        rw [if_pos (by simp [hz])]; rfl
  · rw [if_neg h, if_neg (fun hh => h ⟨hh.1, hh.2.1⟩)]
    simp only [impl_Fixed.j0]; rfl
theorem div4 {n : Int} (h0 : 0 ≤ n) (h1 : n < 4294967296) : n / 256 ^ (4 : Int).toNat = 0 := by
  have : (256 : Int) ^ (4 : Int).toNat = 4294967296 := by decide
  rw [this]; omega
/-- A text with its sum ahead. -/
def sumS (s : ByteArray) : ByteArray := strOfNums (fixL (crcS s) 4) ++ s
theorem fixS4 {n : Int} (h0 : 0 ≤ n) (h1 : n < 4294967296) : fixS n 4 = strOfNums (fixL n 4) := by
  unfold fixS
  rw [if_pos ⟨by omega, by omega, h0, div4 h0 h1⟩]; rfl
theorem size_append_le {a b : ByteArray} : (a ++ b).size = a.size + b.size := ByteArray.size_append
theorem spec_Sum_eq (s : ByteArray) (hs : s.size ≤ 100000) (k : Nat) (hk : 1000010 ≤ k) : spec_l4Sum.f k s = some (sumS s) := by
  obtain ⟨h1, _, h3, h4⟩ := crc_eq s (by omega) k (by omega)
  unfold spec_l4Sum.f sumS
  rw [h1]; simp only [Option.bind_some]
  rw [spec_Fixed_eq _ 4 (by omega) k (by omega), fixS4 h3 h4]; simp only [Option.bind_some]
  rw [if_pos (by rw [strOfNums_size, fixL_length]; omega)]
theorem impl_Sum_eq (s : ByteArray) (hs : s.size ≤ 100000) (k : Nat) (hk : 1000010 ≤ k) : impl_packed.f k s = some (sumS s) := by
  obtain ⟨_, h2, h3, h4⟩ := crc_eq s (by omega) k (by omega)
  unfold impl_packed.f sumS
  rw [h2]; simp only [Option.bind_some]
  rw [impl_Fixed_eq _ 4 k (by omega), fixS4 h3 h4]; simp only [Option.bind_some]
  rw [if_pos (by rw [strOfNums_size, fixL_length]; omega)]
theorem sumS_size (s : ByteArray) : (sumS s).size = 4 + s.size := by unfold sumS; rw [size_append_le, strOfNums_size, fixL_length]
theorem rd_nat (l : List Int) (i : Nat) : rd l (i : Int) = l.getD i 0 := by unfold rd; rw [toNat_nat]
theorem spec_Var_loop (f : Nat) : ∀ (k : Nat) (n : Int) (xs : List Int), 0 ≤ n → n < 562949953421312 → n < 128 ^ (f + 1) → f < k → xs.length < 1000000 - f → spec_Var.l0 k n xs = some (strOfNums (xs ++ vL f n)) := by
  induction f with
  | zero =>
    intro k n xs h0 h1 h2 hk hx
    obtain ⟨k, rfl⟩ : ∃ m, k = m + 1 := ⟨k - 1, by omega⟩
    simp only [spec_Var.l0]
    rw [if_neg (by omega), if_pos (by omega)]; rfl
  | succ f ih =>
    intro k n xs h0 h1 h2 hk hx
    obtain ⟨k, rfl⟩ : ∃ m, k = m + 1 := ⟨k - 1, by omega⟩
    simp only [spec_Var.l0]
    by_cases h : 128 ≤ n
    · rw [if_pos h, if_pos (by omega), td h0, tm h0, w64 (by omega) (by omega), w64 (by omega) (by omega), ih k (n / 128) _ (by omega) (by omega) (by rw [Int.pow_succ] at h2; omega) (by omega) (by simp; omega)]
      simp only [vL, if_pos h]
      rw [show (128 + n % 128) % 256 = 128 + n % 128 by omega]
      simp
    · rw [if_neg h, if_pos (by omega)]
      simp only [vL, if_neg h]
theorem spec_Var_eq (n : Int) (k : Nat) (hk : 8 ≤ k) : spec_Var.f k n = some (if 0 ≤ n ∧ n ≤ 562949953421311 then strOfNums (vL 6 n) else strOfNums []) := by
  unfold spec_Var.f
  rw [spec_in_eq]
  simp only [Option.bind_some, decide_eq_true_eq]
  by_cases h : 0 ≤ n ∧ n ≤ 562949953421311
  · rw [if_pos h, if_pos h, spec_Var_loop 6 k n [] (by omega) (by omega) (by simp; omega) (by omega) (by simp)]; simp
  · rw [if_neg h, if_neg h]; rfl
theorem impl_Var_loop (f : Nat) : ∀ (k : Nat) (n : Int) (xs : List Int), 0 ≤ n → n < 562949953421312 → n < 128 ^ (f + 1) → f < k → xs.length < 1000000 - f → impl_Var.l0 k n xs = some (strOfNums (xs ++ vL f n)) := by
  induction f with
  | zero =>
    intro k n xs h0 h1 h2 hk hx
    obtain ⟨k, rfl⟩ : ∃ m, k = m + 1 := ⟨k - 1, by omega⟩
    simp only [impl_Var.l0]
    rw [if_neg (by omega), if_pos (by omega)]; rfl
  | succ f ih =>
    intro k n xs h0 h1 h2 hk hx
    obtain ⟨k, rfl⟩ : ∃ m, k = m + 1 := ⟨k - 1, by omega⟩
    simp only [impl_Var.l0]
    by_cases h : 128 ≤ n
    · rw [if_pos h, if_pos (by omega), u8_or_128 (by omega) (by omega), ih k (n / 128) _ (by omega) (by omega) (by rw [Int.pow_succ] at h2; omega) (by omega) (by simp; omega)]
      simp only [vL, if_pos h]
      rw [show 128 + n % 256 % 128 = 128 + n % 128 by omega]
      simp
    · rw [if_neg h, if_pos (by omega)]
      simp only [vL, if_neg h]
theorem impl_Var_eq (n : Int) (k : Nat) (hk : 8 ≤ k) : impl_Var.f k n = some (if 0 ≤ n ∧ n ≤ 562949953421311 then strOfNums (vL 6 n) else strOfNums []) := by
  unfold impl_Var.f
  rw [impl_in_eq]
  simp only [Option.bind_some, decide_eq_true_eq]
  by_cases h : 0 ≤ n ∧ n ≤ 562949953421311
  · rw [if_pos h, if_pos h, impl_Var_loop 6 k n [] (by omega) (by omega) (by simp; omega) (by omega) (by simp)]; simp
  · rw [if_neg h, if_neg h]; rfl
/-- A number's bytes. -/
def varS (n : Int) : ByteArray := if 0 ≤ n ∧ n ≤ 562949953421311 then strOfNums (vL 6 n) else strOfNums []
theorem varS_size (n : Int) : (varS n).size ≤ 7 := by
  unfold varS
  have := vL_len 6 n
  split <;> rw [strOfNums_size]
  · omega
  · simp
theorem varS_pos {n : Int} (h0 : 0 ≤ n) (h1 : n ≤ 562949953421311) : varS n = strOfNums (vL 6 n) := by unfold varS; rw [if_pos ⟨h0, h1⟩]
/-- Is a lease right? -/
def leaseB (h e : Int) : Bool := decide (h = -1 ∧ e = 0) || decide ((0 ≤ h ∧ h < 3) ∧ 1 ≤ e ∧ e ≤ 100000)
/-- A lease's bytes. -/
def leaseS (h e : Int) : ByteArray := varS (h + 1) ++ varS e
theorem leaseS_size (h e : Int) : (leaseS h e).size ≤ 14 := by
  unfold leaseS
  have := varS_size (h + 1)
  have := varS_size e
  rw [ByteArray.size_append]; omega
theorem leaseB_range {h e : Int} (hl : leaseB h e = true) : -1 ≤ h ∧ h < 3 ∧ 0 ≤ e ∧ e ≤ 100000 := by
  unfold leaseB at hl
  simp only [Bool.or_eq_true, decide_eq_true_eq] at hl
  omega
theorem l3Host_eq (a : Int) : spec_l3Host.f a = some (decide (0 ≤ a ∧ a < 3)) := by
  unfold spec_l3Host.f
  by_cases h : a ≥ 0
  · rw [if_pos h]; simp only [Option.some.injEq, decide_eq_decide]; omega
  · rw [if_neg h]; simp; omega
theorem isHost_eq (a : Int) : impl_isHost.f a = some (decide (0 ≤ a ∧ a < 3)) := by
  unfold impl_isHost.f
  rw [impl_in_eq]; simp only [Option.bind_some, Option.some.injEq, decide_eq_decide]; omega
theorem spec_Lease_eq (h e : Int) : spec_l4Lease.f h e = some (leaseB h e) := by
  unfold spec_l4Lease.f spec_l4Nobody.f leaseB
  simp only [Option.bind_some, l3Host_eq, spec_in_eq]
  by_cases c : h = -1 ∧ e = 0
  · obtain ⟨rfl, rfl⟩ := c; simp
  · have : ¬ ((h == -1 && (e == 0)) = true) := by simp; omega
    rw [if_neg this, decide_eq_false c]
    by_cases c2 : 0 ≤ h ∧ h < 3
    · simp [c2]
    · simp [c2]
theorem impl_Lease_eq (h e : Int) : impl_isLease.f h e = some (leaseB h e) := by
  unfold impl_isLease.f impl_nobody.f leaseB
  simp only [Option.bind_some, isHost_eq, impl_in_eq]
  by_cases c : h = -1 ∧ e = 0
  · obtain ⟨rfl, rfl⟩ := c; simp
  · have : ¬ ((h == -1 && (e == 0)) = true) := by simp; omega
    rw [if_neg this, decide_eq_false c]
    by_cases c2 : 0 ≤ h ∧ h < 3
    · simp [c2]
    · simp [c2]
theorem spec_Var_S (n : Int) (k : Nat) (hk : 8 ≤ k) : spec_Var.f k n = some (varS n) := by unfold varS; exact spec_Var_eq n k hk
theorem impl_Var_S (n : Int) (k : Nat) (hk : 8 ≤ k) : impl_Var.f k n = some (varS n) := by unfold varS; exact impl_Var_eq n k hk
theorem spec_ShowLease_eq (h e : Int) (h0 : -10 ≤ h) (h1 : h ≤ 1000000000000) (k : Nat) (hk : 8 ≤ k) : spec_l4ShowLease.f k h e = some (leaseS h e) := by
  unfold spec_l4ShowLease.f leaseS
  have := varS_size (h + 1)
  have := varS_size e
  rw [w64 (by omega) (by omega), spec_Var_S _ k hk, spec_Var_S _ k hk]
  simp only [Option.bind_some]
  rw [if_pos (by omega)]
/-- A loop that tests each element and stops at the first that falls. -/
theorem testLoop {α : Type} (q : α → Bool) (l : List α) (F : Nat → Int → Option Bool) (K : Nat)
    (stop : ∀ k, F (k + 1) (l.length : Int) = some true)
    (step : ∀ k (i : Nat) (hi : i < l.length), K ≤ k → F (k + 1) i = if q l[i] = true then F k ((i + 1 : Nat) : Int) else some false) :
    ∀ (d k i : Nat), l.length - i = d → i ≤ l.length → K + d < k → F k i = some ((l.drop i).all q) := by
  intro d
  induction d with
  | zero =>
    intro k i hd hi hk
    obtain ⟨k, rfl⟩ : ∃ m, k = m + 1 := ⟨k - 1, by omega⟩
    have e : i = l.length := by omega
    subst e
    rw [stop, List.drop_eq_nil_of_le (Nat.le_refl _)]; rfl
  | succ d ih =>
    intro k i hd hi hk
    obtain ⟨k, rfl⟩ : ∃ m, k = m + 1 := ⟨k - 1, by omega⟩
    have hil : i < l.length := by omega
    rw [step k i hil (by omega), List.drop_eq_getElem_cons hil, List.all_cons]
    cases hq : q l[i] with
    | true => rw [if_pos rfl, ih k (i + 1) (by omega) (by omega) (by omega)]; simp
    | false => rw [if_neg (by simp)]; simp
theorem getD_get' {α : Type} {l : List α} {i : Nat} (h : i < l.length) (z : α) : l.getD i z = l[i] := by
  simp [List.getD, h]
/-- Is one place of a volume's map right? -/
def mapB (o : Bool) (b : Int) : Bool := Any.inB b (-1) 17 && (o || decide (b = -1))
/-- Is a volume's sector right? -/
def volB (h e : Int) (o : Bool) (l : List Int) : Bool := leaseB h e && decide (l.length = 4) && l.all (mapB o)
theorem Block_eq (a : Int) : spec_l4Block.f a = some (Any.inB a 0 17) := by
  unfold spec_l4Block.f Any.inB
  by_cases h : a ≥ 0
  · rw [if_pos h, show decide (0 ≤ a) = true from decide_eq_true h, Bool.true_and, Option.some.injEq, decide_eq_decide]; omega
  · rw [if_neg h, show decide (0 ≤ a) = false from decide_eq_false h]; rfl
theorem spec_Vol_eq (h e : Int) (o : Bool) (l : List Int) (k : Nat) (hk : 20 ≤ k) : spec_l4VolOk.f k h e o l = some (volB h e o l) := by
  obtain ⟨k, rfl⟩ : ∃ m, k = m + 1 := ⟨k - 1, by omega⟩
  unfold spec_l4VolOk.f volB
  simp only [spec_Lease_eq, Option.bind_some]
  cases leaseB h e with
  | false => simp [spec_l4VolOk.j0]
  | true =>
    by_cases c : l.length = 4
    · have : ((l.length : Int) != 4) = false := by simp; omega
      rw [if_pos rfl, this, decide_eq_true c]
      simp only [spec_l4VolOk.j0, Bool.false_eq_true, if_false, Bool.true_and]
      exact testLoop (mapB o) l (fun k i => spec_l4VolOk.l0 k i h e o l) 0
        (fun k => by simp only [spec_l4VolOk.l0]; rw [if_neg (by omega)])
        (fun k i hi _ => by
          simp only [spec_l4VolOk.l0]
          rw [if_pos (by omega), if_pos (by omega), Block_eq, rd_nat, getD_get' hi, w64s hi (by omega)]
          generalize l[i] = b
          unfold mapB
          simp only [Option.bind_some]
          by_cases c1 : b = -1
          · rw [if_pos c1, c1]; rw [if_pos (by simp [Any.inB])]
          · rw [if_neg c1]
            have c2 : Any.inB b (-1) 17 = Any.inB b 0 17 := by
              unfold Any.inB
              congr 1
              rw [decide_eq_decide]; omega
            rw [c2]
            cases o <;> simp [c1])
        l.length k 0 (by omega) (by omega) (by omega)
    · have : ((l.length : Int) != 4) = true := by simp; omega
      rw [if_pos rfl, this]
      simp [spec_l4VolOk.j0, c]
theorem any_not {α : Type} (q : α → Bool) (l : List α) : (!(l.any fun x => !q x)) = l.all q := by
  rw [List.not_any_eq_all_not]; simp
theorem impl_Vol_eq (h e : Int) (o : Bool) (l : List Int) : impl_isVol.f h e o l = some (volB h e o l) := by
  unfold impl_isVol.f volB
  rw [impl_Lease_eq]
  simp only [Option.bind_some]
  have : (fun x : Int => !Any.inB x (-1) 17 || (!o && x != -1)) = fun x => !mapB o x := by
    funext x
    unfold mapB
    cases Any.inB x (-1) 17 <;> cases o <;> simp [bne, BEq.beq]
  rw [this, any_not]
theorem volB_len {h e : Int} {o : Bool} {l : List Int} (hg : volB h e o l = true) : l.length = 4 ∧ leaseB h e = true ∧ ∀ x ∈ l, -1 ≤ x ∧ x ≤ 17 := by
  unfold volB at hg
  simp only [Bool.and_eq_true, decide_eq_true_eq, List.all_eq_true] at hg
  refine ⟨hg.1.2, hg.1.1, fun x hx => ?_⟩
  have := hg.2 x hx
  unfold mapB Any.inB at this
  simp only [Bool.and_eq_true, decide_eq_true_eq] at this
  exact this.1
/-- The bytes of numbers, one behind the other. -/
def varsS : List Int → ByteArray
  | [] => strOfNums []
  | n :: l => varS n ++ varsS l
theorem nil_append (s : ByteArray) : strOfNums [] ++ s = s := by rw [← strOfNums_L s, strOfNums_append]; rfl
theorem append_nil_ (s : ByteArray) : s ++ strOfNums [] = s := by rw [← strOfNums_L s, strOfNums_append, List.append_nil]
theorem append_assoc_ (a b c : ByteArray) : a ++ b ++ c = a ++ (b ++ c) := by
  rw [← strOfNums_L a, ← strOfNums_L b, ← strOfNums_L c]
  simp only [strOfNums_append, List.append_assoc]
theorem varsS_size : ∀ l : List Int, (varsS l).size ≤ 7 * l.length
  | [] => by simp [varsS, strOfNums_size]
  | n :: l => by
    have := varsS_size l
    have := varS_size n
    unfold varsS
    rw [ByteArray.size_append, List.length_cons]; omega
theorem impl_vars_loop (l : List Int) (hl : l.length ≤ 100000) (d : Nat) : ∀ (k i : Nat) (out : ByteArray), l.length - i = d → i ≤ l.length → d + 10 < k → out.size ≤ 7 * i → impl_vars.l0 k out l l.length i = some (out ++ varsS (l.drop i)) := by
  induction d with
  | zero =>
    intro k i out hd hi hk ho
    obtain ⟨k, rfl⟩ : ∃ m, k = m + 1 := ⟨k - 1, by omega⟩
    simp only [impl_vars.l0]
    rw [if_neg (by omega), List.drop_eq_nil_of_le (by omega)]
    unfold varsS
    rw [append_nil_]
  | succ d ih =>
    intro k i out hd hi hk ho
    obtain ⟨k, rfl⟩ : ∃ m, k = m + 1 := ⟨k - 1, by omega⟩
    have hil : i < l.length := by omega
    have hv := varS_size (l.getD i 0)
    simp only [impl_vars.l0]
    rw [if_pos (by omega), if_pos (by omega), if_pos (by omega), rd_nat, impl_Var_eq _ k (by omega)]
    simp only [Option.bind_some]
    rw [show (if 0 ≤ l.getD i 0 ∧ l.getD i 0 ≤ 562949953421311 then strOfNums (vL 6 (l.getD i 0)) else strOfNums []) = varS (l.getD i 0) from rfl, if_pos (by omega), w64s hil (by omega), ih k (i + 1) _ (by omega) (by omega) (by omega) (by rw [ByteArray.size_append]; omega)]
    rw [List.drop_eq_getElem_cons hil]
    have : l.getD i 0 = l[i] := by simp [List.getD, List.getElem?_eq_getElem hil]
    rw [this, append_assoc_]; rfl
theorem impl_vars_eq (l : List Int) (hl : l.length ≤ 100000) (k : Nat) (hk : l.length + 11 ≤ k) : impl_vars.f k l = some (varsS l) := by
  unfold impl_vars.f
  have := impl_vars_loop l hl l.length k 0 (strOfNums []) (by omega) (by omega) (by omega) (by simp [strOfNums_size])
  rw [nil_append, List.drop_zero] at this
  exact this
theorem impl_leaseText_eq (h e : Int) (h0 : -10 ≤ h) (h1 : h ≤ 1000000000000) (k : Nat) (hk : 20 ≤ k) : impl_leaseText.f k h e = some (leaseS h e) := by
  unfold impl_leaseText.f leaseS
  rw [w64 (by omega) (by omega), impl_vars_eq _ (by simp) k (by simp; omega)]
  simp only [Option.bind_some, varsS, append_nil_]
def flagS (b : Bool) : ByteArray := varS (if b = true then 1 else 0)
theorem flagS_size (h : Bool) : (flagS h).size ≤ 7 := by unfold flagS; exact varS_size _
theorem spec_Flag_eq (b : Bool) (k : Nat) (hk : 8 ≤ k) : spec_l4Flag.f k b = some (flagS b) := by
  unfold spec_l4Flag.f flagS
  have h0 : spec_Var.f k 0 = some (varS 0) := by unfold varS; exact spec_Var_eq 0 k hk
  have h1 : spec_Var.f k 1 = some (varS 1) := by unfold varS; exact spec_Var_eq 1 k hk
  cases b <;> simp [h0, h1]
theorem impl_Flag_eq (b : Bool) (k : Nat) (hk : 8 ≤ k) : impl_flagText.f k b = some (flagS b) := by
  unfold impl_flagText.f flagS
  have h0 : impl_Var.f k 0 = some (varS 0) := by unfold varS; exact impl_Var_eq 0 k hk
  have h1 : impl_Var.f k 1 = some (varS 1) := by unfold varS; exact impl_Var_eq 1 k hk
  cases b <;> simp [h0, h1]
/-- The texts of the elements, one behind the other. -/
def catS {α : Type} (g : α → ByteArray) : List α → ByteArray
  | [] => strOfNums []
  | x :: l => g x ++ catS g l
theorem catS_size {α : Type} (g : α → ByteArray) (b : Nat) : ∀ l : List α, (∀ x ∈ l, (g x).size ≤ b) → (catS g l).size ≤ b * l.length
  | [], _ => by simp [catS, strOfNums_size]
  | x :: l, h => by
    have := catS_size g b l (fun y hy => h y (by simp [hy]))
    have := h x (by simp)
    unfold catS
    rw [ByteArray.size_append, List.length_cons, Nat.mul_succ]; omega
/-- A loop that writes text after text; a round takes c steps. -/
theorem catLoop {α : Type} (g : α → ByteArray) (l : List α) (b B c : Nat) (hc : 1 ≤ c) (hg : ∀ x ∈ l, (g x).size ≤ b) (hB : B + b * l.length ≤ 1000000) (fin : ByteArray → Option ByteArray) (F : Nat → ByteArray → Int → Option ByteArray) (K : Nat)
    (stop : ∀ k out, K ≤ k → out.size ≤ B + b * l.length → F (k + 1) out (l.length : Int) = fin out)
    (step : ∀ k out (i : Nat) (hi : i < l.length), K ≤ k → out.size ≤ 1000000 → F (k + c) out i = F k (out ++ g l[i]) ((i + 1 : Nat) : Int)) :
    ∀ (d k i : Nat) (out : ByteArray), l.length - i = d → i ≤ l.length → K + c * d < k → out.size ≤ B + b * i → F k out i = fin (out ++ catS g (l.drop i)) := by
  intro d
  induction d with
  | zero =>
    intro k i out hd hi hk ho
    obtain ⟨k, rfl⟩ : ∃ m, k = m + 1 := ⟨k - 1, by omega⟩
    have e : i = l.length := by omega
    subst e
    rw [stop k out (by omega) ho, List.drop_eq_nil_of_le (Nat.le_refl _)]
    unfold catS
    rw [append_nil_]
  | succ d ih =>
    intro k i out hd hi hk ho
    rw [Nat.mul_succ] at hk
    obtain ⟨k, rfl⟩ : ∃ m, k = m + c := ⟨k - c, by omega⟩
    have hil : i < l.length := by omega
    have hv := hg _ (List.getElem_mem hil)
    have hm : b * i ≤ b * l.length := Nat.mul_le_mul_left b hi
    have hs : b * (i + 1) = b * i + b := Nat.mul_succ b i
    rw [step k out i hil (by omega) (by omega), ih k (i + 1) _ (by omega) (by omega) (by omega) (by rw [ByteArray.size_append]; omega), List.drop_eq_getElem_cons hil, append_assoc_]; rfl
/-- A loop that fills a slice of `l.length` places. -/
theorem fillLoop {α β : Type} (g : α → β) (l : List α) (hl : l.length ≤ 1048576) (F : Nat → List β → Int → Option (List β)) (K : Nat)
    (stop : ∀ k xs, F (k + 1) xs (l.length : Int) = some xs)
    (step : ∀ k xs (i : Nat) (hi : i < l.length), xs.length = l.length → K ≤ k → F (k + 1) xs i = F k (xs.set i (g l[i])) ((i + 1 : Nat) : Int)) :
    ∀ (d k i : Nat) (xs : List β), l.length - i = d → i ≤ l.length → K + d < k → xs.length = l.length → (∀ j, j < i → xs[j]? = (l.map g)[j]?) → F k xs i = some (l.map g) := by
  intro d
  induction d with
  | zero =>
    intro k i xs hd hi hk hx h
    obtain ⟨k, rfl⟩ : ∃ m, k = m + 1 := ⟨k - 1, by omega⟩
    have e : i = l.length := by omega
    subst e
    rw [stop, prefix_all (l := l.map g) (by simpa using hx) (fun j hj => h j (by simpa using hj))]
  | succ d ih =>
    intro k i xs hd hi hk hx h
    obtain ⟨k, rfl⟩ : ∃ m, k = m + 1 := ⟨k - 1, by omega⟩
    have hil : i < l.length := by omega
    rw [step k xs i hil hx (by omega)]
    refine ih k (i + 1) _ (by omega) (by omega) (by omega) (by simpa using hx) ?_
    have := set_prefix (xs := xs) (l := l.map g) (i := i) (g l[i]) (by simpa using hx) (by simpa using hil) h
    simpa [List.getD, hil] using this
/-- A loop that goes through and answers true. -/
theorem allLoop (n : Nat) (F : Nat → Int → Option Bool) (K : Nat)
    (stop : ∀ k, F (k + 1) (n : Int) = some true)
    (step : ∀ k (i : Nat), i < n → K ≤ k → F (k + 1) i = F k ((i + 1 : Nat) : Int)) :
    ∀ (d k i : Nat), n - i = d → i ≤ n → K + d < k → F k i = some true := by
  intro d
  induction d with
  | zero =>
    intro k i hd hi hk
    obtain ⟨k, rfl⟩ : ∃ m, k = m + 1 := ⟨k - 1, by omega⟩
    have e : i = n := by omega
    subst e
    exact stop k
  | succ d ih =>
    intro k i hd hi hk
    obtain ⟨k, rfl⟩ : ∃ m, k = m + 1 := ⟨k - 1, by omega⟩
    rw [step k i (by omega) (by omega)]
    exact ih k (i + 1) (by omega) (by omega) (by omega)
/-- A loop that takes sizes off `a`. -/
theorem szLoop {α : Type} (P : α → Prop) (l : List α) (F : Nat → Int → Int → Option Int) (K : Nat)
    (stop : ∀ k a, F (k + 1) a (l.length : Int) = some a)
    (step : ∀ k a (i : Nat) (hi : i < l.length), 0 ≤ a → a ≤ 1048576 → K ≤ k → F (k + 1) a i = some (-1) ∨ ∃ r, 0 ≤ r ∧ r ≤ a ∧ P l[i] ∧ F (k + 1) a i = F k r ((i + 1 : Nat) : Int)) :
    ∀ (d k i : Nat) (a : Int), l.length - i = d → i ≤ l.length → K + d < k → 0 ≤ a → a ≤ 1048576 → F k a i = some (-1) ∨ ∃ r, 0 ≤ r ∧ r ≤ a ∧ (∀ j (hj : j < l.length), i ≤ j → P l[j]) ∧ F k a i = some r := by
  intro d
  induction d with
  | zero =>
    intro k i a hd hi hk h0 h1
    obtain ⟨k, rfl⟩ : ∃ m, k = m + 1 := ⟨k - 1, by omega⟩
    have e : i = l.length := by omega
    subst e
    exact .inr ⟨a, h0, Int.le_refl a, fun j hj hij => by omega, stop k a⟩
  | succ d ih =>
    intro k i a hd hi hk h0 h1
    obtain ⟨k, rfl⟩ : ∃ m, k = m + 1 := ⟨k - 1, by omega⟩
    have hil : i < l.length := by omega
    rcases step k a i hil h0 h1 (by omega) with e | ⟨r, r0, r1, hP, e⟩
    · exact .inl e
    · rcases ih k (i + 1) r (by omega) (by omega) (by omega) r0 (by omega) with e2 | ⟨r2, q0, q1, hq, e2⟩
      · exact .inl (e.trans e2)
      · refine .inr ⟨r2, q0, by omega, fun j hj hij => ?_, e.trans e2⟩
        by_cases hji : j = i
        · subst hji; exact hP
        · exact hq j hj (by omega)
theorem getD_get {α : Type} {l : List α} {i : Nat} (h : i < l.length) (z : α) : l.getD ((i : Int)).toNat z = l[i] := by
  simp [List.getD, h]
theorem mem_of_all {α : Type} {P : α → Prop} {l : List α} (h : ∀ j (hj : j < l.length), 0 ≤ j → P l[j]) : ∀ x ∈ l, P x := by
  intro x hx
  obtain ⟨j, hj, rfl⟩ := List.getElem_of_mem hx
  exact h j hj (by omega)
theorem map_same {α β : Type} {f g : α → β} {l : List α} (h : ∀ x ∈ l, f x = g x) : l.map f = l.map g := List.map_congr_left h
/-- The text of a volume's sector. -/
def volS (h e : Int) (o : Bool) (l : List Int) : ByteArray := if volB h e o l = true then sumS (((strOfNums [118] ++ leaseS h e) ++ flagS o) ++ catS (fun x => varS (x + 1)) l) else strOfNums []
theorem spec_ShowVol_eq (h e : Int) (o : Bool) (l : List Int) (k : Nat) (hk : 1000030 ≤ k) : spec_ShowVol.f k h e o l = some (volS h e o l) := by
  unfold spec_ShowVol.f volS
  rw [spec_Vol_eq h e o l k (by omega)]
  simp only [Option.bind_some]
  cases hf : volB h e o l with
  | false => simp; rfl
  | true =>
    obtain ⟨hl, hle, hx⟩ := volB_len hf
    have hr := leaseB_range hle
    have h1 := leaseS_size h e
    have h2 := flagS_size o
    have e1 : (⟨#[118]⟩ : ByteArray) = strOfNums [118] := rfl
    have e2 : (strOfNums [118]).size = 1 := rfl
    have h3 : (strOfNums [118] ++ leaseS h e).size = 1 + (leaseS h e).size := by rw [ByteArray.size_append, e2]
    have h4 : (strOfNums [118] ++ leaseS h e ++ flagS o).size = (strOfNums [118] ++ leaseS h e).size + (flagS o).size := ByteArray.size_append
    rw [if_pos rfl, if_pos rfl, spec_ShowLease_eq h e (by omega) (by omega) k (by omega)]
    simp only [Option.bind_some, e1]
    rw [if_pos (by omega), spec_Flag_eq o k (by omega)]
    simp only [Option.bind_some]
    rw [if_pos (by omega)]
    exact catLoop (fun x => varS (x + 1)) l 7 30 1 (by omega) (fun x _ => varS_size _) (by omega) (fun out => some (sumS out)) (fun k out i => spec_ShowVol.l0 k out i h e o l) 1000010
      (fun k out hk ho => by
        simp only [spec_ShowVol.l0]
        rw [if_neg (by omega), spec_Sum_eq _ (by omega) k (by omega)]; rfl)
      (fun k out i hi hk ho => by
        have hv := varS_size (l[i] + 1)
        have hxi := hx _ (List.getElem_mem hi)
        simp only [spec_ShowVol.l0]
        rw [if_pos (by omega), if_pos (by omega), rd_nat, getD_get' hi, w64 (by omega) (by omega), spec_Var_S _ k (by omega)]
        simp only [Option.bind_some]
        rw [if_pos (by omega), w64s hi (by omega)])
      l.length k 0 _ (by omega) (by omega) (by omega) (by omega)
theorem impl_ShowVol_eq (h e : Int) (o : Bool) (l : List Int) (k : Nat) (hk : 1000030 ≤ k) : impl_ShowVol.f k h e o l = some (volS h e o l) := by
  unfold impl_ShowVol.f impl_showVol.f volS
  rw [impl_Vol_eq h e o l]
  simp only [Option.bind_some]
  cases hf : volB h e o l with
  | false => simp; rfl
  | true =>
    obtain ⟨hl, hle, hx⟩ := volB_len hf
    have hr := leaseB_range hle
    have h1 := leaseS_size h e
    have h2 := flagS_size o
    have e1 : (⟨#[118]⟩ : ByteArray) = strOfNums [118] := rfl
    have e2 : (strOfNums [118]).size = 1 := rfl
    have h3 : (strOfNums [118] ++ leaseS h e).size = 1 + (leaseS h e).size := by rw [ByteArray.size_append, e2]
    have h4 : (strOfNums [118] ++ leaseS h e ++ flagS o).size = (strOfNums [118] ++ leaseS h e).size + (flagS o).size := ByteArray.size_append
    rw [if_pos rfl, if_pos rfl, impl_leaseText_eq h e (by omega) (by omega) k (by omega)]
    simp only [Option.bind_some, e1]
    rw [if_pos (by omega), impl_Flag_eq o k (by omega)]
    simp only [Option.bind_some]
    rw [if_pos (by omega)]
    have := catLoop (fun x => varS (x + 1)) l 7 30 1 (by omega) (fun x _ => varS_size _) (by omega) (fun out => some (sumS out)) (fun k out i => impl_showVol.l0 k out l (l.length : Int) i) 1000010
      (fun k out hk ho => by
        simp only [impl_showVol.l0]
        rw [if_neg (by omega), impl_Sum_eq _ (by omega) k (by omega)]; rfl)
      (fun k out i hi hk ho => by
        have hv := varS_size (l[i] + 1)
        have hxi := hx _ (List.getElem_mem hi)
        simp only [impl_showVol.l0]
        rw [if_pos (by omega), if_pos (by omega), if_pos (by omega), rd_nat, getD_get' hi, w64 (by omega) (by omega), impl_Var_S _ k (by omega)]
        simp only [Option.bind_some]
        rw [if_pos (by omega), w64s hi (by omega)])
      l.length k 0 ((strOfNums [118] ++ leaseS h e) ++ flagS o) (by omega) (by omega) (by omega) (by omega)
    have t : impl_showVol.l0 k (strOfNums [118] ++ leaseS h e ++ flagS o) l (l.length : Int) 0 = _ := this
    rw [t]; rfl
/-- What ReadVar answers, from byte i on, all bytes ahead of it being great. -/
def rvL (l : List Int) : Nat → Nat → Int × Int
  | 0, _ => (0, 0)
  | d + 1, i => if i < l.length then (if l.getD i 0 < 128 then (if l.getD i 0 = 0 ∧ 0 < i then (0, 0) else (val (l.take (i + 1)), (i : Int) + 1)) else rvL l d (i + 1)) else (0, 0)
theorem take_snoc_getD (l : List Int) (i : Nat) (h : i < l.length) : l.take (i + 1) = l.take i ++ [l.getD i 0] := by
  rw [List.take_succ_eq_append_getElem h]
  simp [List.getD, List.getElem?_eq_getElem h]
theorem val_take_succ (l : List Int) (i : Nat) (h : i < l.length) : val (l.take (i + 1)) = val (l.take i) + 128 ^ i * (l.getD i 0 % 128) := by
  rw [take_snoc_getD l i h, val_append]
  simp [val, List.length_take, Nat.min_eq_left (Nat.le_of_lt h)]
theorem p128 {n : Nat} (h : n ≤ 7) : (128 : Int) ^ n ≤ 562949953421312 := by
  have : n = 0 ∨ n = 1 ∨ n = 2 ∨ n = 3 ∨ n = 4 ∨ n = 5 ∨ n = 6 ∨ n = 7 := by omega
  rcases this with rfl | rfl | rfl | rfl | rfl | rfl | rfl | rfl <;> decide
theorem val_take_lt (l : List Int) (i : Nat) (h7 : i ≤ 7) : val (l.take i) < 562949953421312 := by
  have h1 := val_lt (l.take i)
  have h2 : (l.take i).length ≤ 7 := Nat.le_trans (List.length_take_le _ _) h7
  exact Int.lt_of_lt_of_le h1 (p128 h2)
theorem two7 (n : Nat) : (2 : Int) ^ (7 * n) = 128 ^ n := by
  induction n with
  | zero => rfl
  | succ n ih => rw [show 7 * (n + 1) = 7 * n + 7 by omega, Int.pow_add, ih, Int.pow_succ]; congr 1
theorem rv_acc (s : ByteArray) (i : Nat) (hi : i < 7) (his : i < s.size) :
    Go.bits .or .i64 (val ((L s).take i)) (shl .i64 (wrap64 (Go.bits .and .u8 (bt s i) 127)) (wrap64 (7 * (i : Int)))) = val ((L s).take (i + 1)) := by
  have hb := bt_range s i
  have hl : i < (L s).length := by rw [L_length]; exact his
  have hn := val_nonneg ((L s).take i)
  have hv := val_lt ((L s).take i)
  rw [List.length_take, Nat.min_eq_left (Nat.le_of_lt hl)] at hv
  have hp := p128 (n := i + 1) (by omega)
  have hp0 : (0 : Int) < 128 ^ i := Int.pow_pos (by decide)
  rw [Int.pow_succ] at hp
  have hm0 : 0 ≤ 128 ^ i * (bt s i % 128) := Int.mul_nonneg (by omega) (by omega)
  have hm1 : 128 ^ i * (bt s i % 128) ≤ 128 ^ i * 127 := Int.mul_le_mul_of_nonneg_left (by omega) (by omega)
  have hsh : shl .i64 (wrap64 (Go.bits .and .u8 (bt s i) 127)) (wrap64 (7 * (i : Int))) = 128 ^ i * (bt s i % 128) := by
    unfold shl
    rw [u8_and127 hb.1 (by omega), w64 (by omega) (by omega), w64 (by omega) (by omega)]
    have : min (7 * (i : Int)).toNat IntKind.i64.bits = 7 * i := by
      have : IntKind.i64.bits = 64 := rfl
      omega
    rw [this, two7, Int.mul_comm]
    exact wraps_i64 _ hm0 (by omega)
  rw [hsh, i64_or_comm, i64_join (7 * i) hm0 (by rw [two7]; exact Int.mul_emod_right _ _) (by omega) hn (by rw [two7]; exact hv) (by omega), val_take_succ _ _ hl, ← show bt s i = (L s).getD i 0 from bt_L s i]
  omega
theorem impl_ReadVar_loop (s : ByteArray) (d : Nat) : ∀ (k i : Nat), i + d = 7 → d < k → impl_ReadVar.l0 k s (val ((L s).take i)) (mn (s.size : Int) 7) i = some (rvL (L s) d i) := by
  induction d with
  | zero =>
    intro k i hi hk
    obtain ⟨k, rfl⟩ : ∃ m, k = m + 1 := ⟨k - 1, by omega⟩
    simp only [impl_ReadVar.l0]
    rw [if_neg (by unfold mn; split <;> omega)]; rfl
  | succ d ih =>
    intro k i hi hk
    obtain ⟨k, rfl⟩ : ∃ m, k = m + 1 := ⟨k - 1, by omega⟩
    simp only [impl_ReadVar.l0, rvL, L_length]
    by_cases his : i < s.size
    · have hb := bt_range s i
      have hm : (i : Int) < mn (s.size : Int) 7 := by unfold mn; split <;> omega
      have hw : wrap64 ((i : Int) + 1) = ((i + 1 : Nat) : Int) := by rw [w64 (by omega) (by omega)]; rfl
      have hlt := val_take_lt (L s) (i + 1) (by omega)
      rw [rv_acc s i (by omega) his, if_pos hm, if_pos (by omega), if_pos (by omega), if_pos (by rw [w64 (by omega) (by omega)]; omega), if_pos his, ← show bt s i = (L s).getD i 0 from bt_L s i]
      by_cases h : bt s i < 128
      · rw [if_pos h, if_pos h]
        have hmax : ¬ val ((L s).take (i + 1)) > 562949953421311 := by omega
        by_cases hz : bt s i = 0
        · rw [if_pos hz]
          by_cases h0 : 0 < i
          · rw [if_pos (by omega), if_pos ⟨hz, h0⟩]
          · rw [if_neg (by omega), if_neg hmax, if_neg (by omega), hw]; rfl
        · rw [if_neg hz, if_neg hmax, if_neg (by omega), hw]; rfl
      · rw [if_neg h, if_neg h, hw]
        exact ih k (i + 1) (by omega) (by omega)
    · rw [if_neg (by unfold mn; split <;> omega), if_neg his]
theorem impl_ReadVar_eq (s : ByteArray) (k : Nat) (hk : 8 ≤ k) : impl_ReadVar.f k s = some (rvL (L s) 7 0) := by
  unfold impl_ReadVar.f
  have := impl_ReadVar_loop s 7 k 0 (by omega) (by omega)
  simpa [val] using this
theorem spec_rv_inner (s : ByteArray) (c q : Nat) (hc7 : c ≤ 7) (hcs : c ≤ s.size) (d : Nat) : ∀ (n x : Int), x = (d : Int) - 1 → d ≤ c → n = val (((L s).take c).drop d) →
    spec_ReadVar.l1 (q + d + 1) s c n x = spec_ReadVar.l1 (q + 1) s c (val ((L s).take c)) (-1) := by
  induction d with
  | zero => intro n x hx hd hn; subst hx; subst hn; simp
  | succ d ih =>
    intro n x hx hd hn
    subst hx; subst hn
    have hl : d < ((L s).take c).length := by rw [List.length_take, L_length]; omega
    have hb := bt_range s (d : Int)
    have hn := val_nonneg (((L s).take c).drop (d + 1))
    have hlt : val (((L s).take c).drop d) < 562949953421312 := by
      have h1 := val_lt (((L s).take c).drop d)
      have h2 : (((L s).take c).drop d).length ≤ 7 := by rw [List.length_drop, List.length_take]; omega
      exact Int.lt_of_lt_of_le h1 (p128 h2)
    have hg : ((L s).take c).drop d = bt s d :: ((L s).take c).drop (d + 1) := by
      rw [List.drop_eq_getElem_cons hl]
      congr 1
      rw [show bt s d = (L s).getD d 0 from bt_L s d, List.getElem_take]
      have hl2 : d < (L s).length := by rw [L_length]; omega
      simp [List.getD, List.getElem?_eq_getElem hl2]
    have hv : val (((L s).take c).drop d) = bt s d % 128 + 128 * val (((L s).take c).drop (d + 1)) := by
      conv => lhs; rw [hg]
      rfl
    obtain ⟨K, hK⟩ : ∃ K, K = q + d + 1 := ⟨_, rfl⟩
    rw [show q + (d + 1) + 1 = K + 1 by omega]
    conv => lhs; simp only [spec_ReadVar.l1]
    rw [show (((d + 1 : Nat) : Int) - 1) = (d : Int) by omega, if_pos (by omega), if_pos (by omega), if_pos (by omega), b64, tm hb.1, w64 (n := val (((L s).take c).drop (d + 1)) * 128) (by omega) (by omega), w64 (by omega) (by omega), w64 (by omega) (by omega)]
    rw [hK]
    exact ih _ _ (by omega) (by omega) (by rw [hv]; omega)
theorem bytes_eq (s : ByteArray) (c f : Nat) (hc : c ≤ s.size) (hf : c ≤ f) : ((strOfNums (vL f (val ((L s).take c)))).toList = (s.extract 0 c).toList) ↔ canon ((L s).take c) = true := by
  rw [toList_inj, ← vL_val f ((L s).take c) ((L_bytes s).take c) (by rw [List.length_take, L_length]; omega)]
  have he : s.extract 0 c = strOfNums ((L s).take c) := by
    apply L_inj
    rw [L_extract, L_strOfNums ((L_bytes s).take c)]; simp
  rw [he]
  constructor
  · intro h
    have := congrArg L h
    rwa [L_strOfNums (vL_bytes _ _), L_strOfNums ((L_bytes s).take c)] at this
  · intro h; rw [h]
theorem spec_rv_step (s : ByteArray) (c q : Nat) (hc1 : 1 ≤ c) (hc7 : c ≤ 7) (hcs : c ≤ s.size) (hq : 8 ≤ q) :
    spec_ReadVar.l0 (q + c + 3) s c = if canon ((L s).take c) = true then some (val ((L s).take c), (c : Int)) else spec_ReadVar.l0 q s ((c + 1 : Nat) : Int) := by
  have hvl := val_take_lt (L s) c hc7
  have hvn := val_nonneg ((L s).take c)
  rw [show q + c + 3 = (q + c + 1) + 1 + 1 by omega]
  conv => lhs; simp only [spec_ReadVar.l0]
  rw [if_pos (by omega), decide_eq_true (by omega : (c : Int) ≤ (s.size : Int))]
  conv => lhs; simp only [spec_ReadVar.j1]
  rw [if_pos trivial, w64 (by omega) (by omega), spec_rv_inner s c q hc7 hcs c 0 ((c : Int) - 1) rfl (Nat.le_refl _) (by
    have : ((L s).take c).drop c = [] := List.drop_eq_nil_of_le (by rw [List.length_take]; omega)
    rw [this]; rfl)]
  conv => lhs; simp only [spec_ReadVar.l1]
  rw [if_neg (by omega), spec_Var_eq _ q hq]
  simp only [Option.bind_some]
  rw [if_pos (⟨hvn, by omega⟩ : 0 ≤ val ((L s).take c) ∧ val ((L s).take c) ≤ 562949953421311), if_pos (by omega), if_pos (by omega), w64 (by omega) (by omega)]
  have he := bytes_eq s c 6
  by_cases h7 : c = 7
  · subst h7
    have hm : vL 6 (val ((L s).take 7)) = vL 7 (val ((L s).take 7)) := (vL_more hvn 6 7 (by simp; omega) (by omega)).symm
    rw [hm]
    have he := bytes_eq s 7 7 hcs (by omega)
    by_cases hcn : canon ((L s).take 7) = true
    · rw [if_pos hcn, if_pos (by simpa using he.mpr hcn)]
    · rw [if_neg hcn, if_neg (by intro hh; exact hcn (he.mp (by simpa using hh)))]; rfl
  · have he := bytes_eq s c 6 hcs (by omega)
    by_cases hcn : canon ((L s).take c) = true
    · rw [if_pos hcn, if_pos (by simpa using he.mpr hcn)]
    · rw [if_neg hcn, if_neg (by intro hh; exact hcn (he.mp (by simpa using hh)))]; rfl
theorem spec_rv_end (s : ByteArray) (c q : Nat) (h : ¬ (c ≤ 7 ∧ c ≤ s.size)) : spec_ReadVar.l0 (q + 2) s c = some (0, 0) := by
  simp only [spec_ReadVar.l0]
  by_cases h7 : c ≤ 7
  · rw [if_pos (by omega), decide_eq_false (by omega)]; simp only [spec_ReadVar.j1]; simp
  · rw [if_neg (by omega)]; simp only [spec_ReadVar.j1]; simp
theorem spec_rv_bad (s : ByteArray) (j : Nat) (hj : (L s).getD j 0 < 128) (d : Nat) : ∀ (k c : Nat), 8 ≤ c + d → j + 1 < c → 12 * d + 8 ≤ k → spec_ReadVar.l0 k s c = some (0, 0) := by
  induction d with
  | zero =>
    intro k c hc hjc hk
    rw [show k = (k - 2) + 2 by omega]
    exact spec_rv_end s c _ (by omega)
  | succ d ih =>
    intro k c hc hjc hk
    by_cases h : c ≤ 7 ∧ c ≤ s.size
    · rw [show k = (k - c - 3) + c + 3 by omega, spec_rv_step s c _ (by omega) h.1 h.2 (by omega)]
      have : canon ((L s).take c) = false := canon_small _ j (by rw [List.length_take, L_length]; omega) (by
        have : ((L s).take c).getD j 0 = (L s).getD j 0 := by simp [List.getD, show j < c by omega]
        rw [this]; exact hj)
      rw [this]
      simp only [Bool.false_eq_true, if_false]
      exact ih _ (c + 1) (by omega) (by omega) (by omega)
    · rw [show k = (k - 2) + 2 by omega]
      exact spec_rv_end s c _ h
theorem spec_ReadVar_loop (s : ByteArray) (d : Nat) : ∀ (k i : Nat), i + d = 7 → 12 * d + 20 ≤ k → (∀ x ∈ (L s).take i, 128 ≤ x) → spec_ReadVar.l0 k s ((i + 1 : Nat) : Int) = some (rvL (L s) d i) := by
  induction d with
  | zero =>
    intro k i hi hk hx
    rw [show k = (k - 2) + 2 by omega]
    exact spec_rv_end s (i + 1) _ (by omega)
  | succ d ih =>
    intro k i hi hk hx
    simp only [rvL, L_length]
    by_cases his : i < s.size
    · have hl : i < (L s).length := by rw [L_length]; exact his
      have hb : 0 ≤ (L s).getD i 0 := by
        have := bt_range s i
        rw [bt_L] at this
        exact this.1
      rw [if_pos his, show k = (k - (i + 1) - 3) + (i + 1) + 3 by omega, spec_rv_step s (i + 1) _ (by omega) (by omega) (by omega) (by omega)]
      have hs : (L s).take (i + 1) = (L s).take i ++ [(L s).getD i 0] := take_snoc_getD _ _ hl
      have hcn : canon ((L s).take (i + 1)) = (decide ((L s).getD i 0 < 128) && (((L s).take i).isEmpty || decide (0 < (L s).getD i 0))) := by
        rw [hs]; exact canon_snoc _ _ hx hb
      have hem : ((L s).take i).isEmpty = decide (i = 0) := by
        cases i with
        | zero => rfl
        | succ i =>
          have : (L s).take (i + 1) ≠ [] := by
            intro h
            have := congrArg List.length h
            rw [List.length_take, List.length_nil] at this
            omega
          cases h : (L s).take (i + 1) with
          | nil => exact absurd h this
          | cons a b => simp
      rw [hcn, hem]
      by_cases h : (L s).getD i 0 < 128
      · rw [if_pos h]
        by_cases hz : (L s).getD i 0 = 0 ∧ 0 < i
        · rw [if_pos hz, if_neg (by simp only [Bool.and_eq_true, Bool.or_eq_true, decide_eq_true_eq]; omega)]
          exact spec_rv_bad s i h d _ (i + 1 + 1) (by omega) (by omega) (by omega)
        · rw [if_neg hz, if_pos (by simp only [Bool.and_eq_true, Bool.or_eq_true, decide_eq_true_eq]; omega)]; rfl
      · rw [if_neg h, if_neg (by simp only [Bool.and_eq_true, Bool.or_eq_true, decide_eq_true_eq]; omega)]
        exact ih _ (i + 1) (by omega) (by omega) (by
          rw [hs]
          intro x hm
          rcases List.mem_append.mp hm with hm | hm
          · exact hx x hm
          · simp only [List.mem_singleton] at hm; omega)
    · rw [if_neg his, show k = (k - 2) + 2 by omega]
      exact spec_rv_end s (i + 1) _ (by omega)
theorem spec_ReadVar_eq (s : ByteArray) (k : Nat) (hk : 104 ≤ k) : spec_ReadVar.f k s = some (rvL (L s) 7 0) := by
  unfold spec_ReadVar.f
  exact spec_ReadVar_loop s 7 k 0 (by omega) (by omega) (by simp)
/-- What ReadVar answers. -/
def rvS (s : ByteArray) : Int × Int := rvL (L s) 7 0
theorem rvL_range (l : List Int) (hl : Bytes l) : ∀ (d i : Nat), i + d ≤ 7 → 0 ≤ (rvL l d i).1 ∧ (rvL l d i).1 ≤ 562949953421311 ∧ 0 ≤ (rvL l d i).2 ∧ (rvL l d i).2 ≤ l.length ∧ ((rvL l d i).2 = 0 → (rvL l d i).1 = 0)
  | 0, i, _ => by simp [rvL]
  | d + 1, i, h => by
    unfold rvL
    split
    · rename_i hi
      split
      · split
        · simp
        · have h1 := val_nonneg (l.take (i + 1))
          have h2 := val_take_lt l (i + 1) (by omega)
          refine ⟨h1, ?_, ?_, ?_, ?_⟩ <;> simp only <;> omega
      · exact rvL_range l hl d (i + 1) (by omega)
    · simp
theorem rvS_range (s : ByteArray) : 0 ≤ (rvS s).1 ∧ (rvS s).1 ≤ 562949953421311 ∧ 0 ≤ (rvS s).2 ∧ (rvS s).2 ≤ s.size ∧ ((rvS s).2 = 0 → (rvS s).1 = 0) := by
  have := rvL_range (L s) (L_bytes s) 7 0 (by omega)
  rw [L_length] at this
  exact this
/-- So many numbers, one behind the other: they, what is left, and was each of them there. -/
def numsS : Nat → ByteArray → List Int × ByteArray × Bool
  | 0, s => ([], s, true)
  | n + 1, s => ((rvS s).1 :: (numsS n (s.extract (rvS s).2.toNat s.size)).1, (numsS n (s.extract (rvS s).2.toNat s.size)).2.1, decide ((rvS s).2 ≠ 0) && (numsS n (s.extract (rvS s).2.toNat s.size)).2.2)
theorem numsS_length : ∀ n s, (numsS n s).1.length = n
  | 0, s => rfl
  | n + 1, s => by simp [numsS, numsS_length n]
theorem numsS_range : ∀ n s x, x ∈ (numsS n s).1 → 0 ≤ x ∧ x ≤ 562949953421311
  | 0, s, x, h => by simp [numsS] at h
  | n + 1, s, x, h => by
    simp only [numsS, List.mem_cons] at h
    rcases h with rfl | h
    · exact ⟨(rvS_range s).1, (rvS_range s).2.1⟩
    · exact numsS_range n _ x h
theorem extract_size (s : ByteArray) (a : Nat) (h : a ≤ s.size) : (s.extract a s.size).size = s.size - a := by
  rw [ByteArray.size_extract]; omega
theorem extract_extract (s : ByteArray) (a b : Nat) (ha : a ≤ s.size) : (s.extract a s.size).extract b (s.extract a s.size).size = s.extract (a + b) s.size := by
  apply L_inj
  rw [L_extract, L_extract, L_extract, extract_size s a ha, List.take_of_length_le (l := (L s).drop a) (by rw [List.length_drop, L_length]; omega), List.drop_drop, List.take_of_length_le, List.take_of_length_le]
  · rw [List.length_drop, L_length]; omega
  · rw [List.length_drop, L_length]; omega
theorem extract_zero (s : ByteArray) : s.extract 0 s.size = s := by
  apply L_inj
  rw [L_extract, List.drop_zero, List.take_of_length_le (by rw [L_length]; omega)]
theorem numsS_rest : ∀ n s, (numsS n s).2.1.size ≤ s.size
  | 0, s => Nat.le_refl _
  | n + 1, s => by
    have := numsS_rest n (s.extract (rvS s).2.toNat s.size)
    have hr := rvS_range s
    rw [extract_size s _ (by omega)] at this
    simp only [numsS]; omega
theorem aux_le {a p n e : Nat} (ha : a ≤ n) (he : e = n - a) (h : (p : Int) ≤ (e : Int)) : a + p ≤ n := by omega
theorem spec_Vars_loop (s : ByteArray) (hs : s.size ≤ 1048576) (m : Nat) (hm : m ≤ 100) (n : Nat) : ∀ (k a i : Nat) (xs : List Int), a ≤ s.size → m - i = n → i ≤ m → 3 * n + 110 ≤ k → xs.length = i →
    ∃ r, spec_l4Vars.l0 k s a m xs i = some r ∧ (if (numsS n (s.extract a s.size)).2.2 = true then r.1 = xs ++ (numsS n (s.extract a s.size)).1 ∧ r.2 = (s.size : Int) - (numsS n (s.extract a s.size)).2.1.size ∧ s.extract (s.size - (numsS n (s.extract a s.size)).2.1.size) s.size = (numsS n (s.extract a s.size)).2.1 else r.2 = -1) := by
  induction n with
  | zero =>
    intro k a i xs ha hn hi hk hx
    obtain ⟨k, rfl⟩ : ∃ m, k = m + 1 := ⟨k - 1, by omega⟩
    refine ⟨(xs, (a : Int)), by simp only [spec_l4Vars.l0]; rw [if_neg (by omega)], ?_⟩
    simp only [numsS, if_true, List.append_nil]
    have := extract_size s a ha
    refine ⟨trivial, by omega, by rw [this, show s.size - (s.size - a) = a by omega]⟩
  | succ n ih =>
    intro k a i xs ha hn hi hk hx
    obtain ⟨k, rfl⟩ : ∃ m, k = m + 2 := ⟨k - 2, by omega⟩
    have hrv := rvS_range (s.extract a s.size)
    have hes := extract_size s a ha
    have hN : numsS (n + 1) (s.extract a s.size) = ((rvS (s.extract a s.size)).1 :: (numsS n (s.extract (a + (rvS (s.extract a s.size)).2.toNat) s.size)).1, (numsS n (s.extract (a + (rvS (s.extract a s.size)).2.toNat) s.size)).2.1, decide ((rvS (s.extract a s.size)).2 ≠ 0) && (numsS n (s.extract (a + (rvS (s.extract a s.size)).2.toNat) s.size)).2.2) := by
      rw [numsS, extract_extract s a _ ha]
    rw [hN]
    have hR : spec_ReadVar.f k (s.extract a s.size) = some (rvS (s.extract a s.size)) := spec_ReadVar_eq _ k (by omega)
    have q2 : m - (i + 1) = n := by clear hrv hN hR hes ih; omega
    have q3 : i + 1 ≤ m := by clear hrv hN hR hes ih; omega
    generalize rvS (s.extract a s.size) = p at hrv hR ⊢
    obtain ⟨p1, p2⟩ := p
    simp only at hrv hR ⊢
    obtain ⟨p2, rfl⟩ := Int.eq_ofNat_of_zero_le hrv.2.2.1
    have q1 : a + p2 ≤ s.size := aux_le ha hes hrv.2.2.2.1
    have q4 : 3 * n + 110 ≤ k := by clear hrv hN hR hes ih; omega
    simp only [Int.toNat_natCast]
    simp only [spec_l4Vars.l0]
    rw [if_pos (by omega), if_neg (by omega), decide_eq_false (by omega)]
    simp only [spec_l4Vars.j1, Bool.false_eq_true, if_false]
    rw [if_pos (by omega), if_pos (by omega), toNat_nat, hR]
    simp only [Option.bind_some]
    by_cases h0 : (p2 : Int) = 0
    · rw [if_pos h0]
      exact ⟨_, rfl, by simp [h0]⟩
    · rw [if_neg h0, if_pos (by omega)]
      have e1 : wrap64 ((a : Int) + (p2 : Int)) = ((a + p2 : Nat) : Int) := by rw [w64 (by omega) (by omega)]; rfl
      have e2 : wrap64 ((i : Int) + 1) = ((i + 1 : Nat) : Int) := by rw [w64 (by omega) (by omega)]; rfl
      rw [e1, e2]
      obtain ⟨r, hr1, hr2⟩ := ih k (a + p2) (i + 1) (xs ++ [p1]) q1 q2 q3 q4 (by simp [hx])
      refine ⟨r, hr1, ?_⟩
      rw [decide_eq_true h0, Bool.true_and]
      rw [List.append_assoc] at hr2
      exact hr2
theorem spec_Vars_eq (s : ByteArray) (hs : s.size ≤ 1048576) (a n : Nat) (hn : n ≤ 100) (ha : a ≤ s.size) (k : Nat) (hk : 500 ≤ k) :
    ∃ r, spec_l4Vars.f k s a n = some r ∧ (if (numsS n (s.extract a s.size)).2.2 = true then r.1 = (numsS n (s.extract a s.size)).1 ∧ r.2 = (s.size : Int) - (numsS n (s.extract a s.size)).2.1.size ∧ s.extract (s.size - (numsS n (s.extract a s.size)).2.1.size) s.size = (numsS n (s.extract a s.size)).2.1 else r.2 = -1) := by
  obtain ⟨r, h1, h2⟩ := spec_Vars_loop s hs n hn n k a 0 [] ha (by omega) (by omega) (by omega) rfl
  exact ⟨r, by unfold spec_l4Vars.f; exact h1, by simpa using h2⟩
theorem spec_Vars_past (s : ByteArray) (a n : Nat) (h : s.size < a) (hn : 0 < n) (k : Nat) (hk : 5 ≤ k) : ∃ r, spec_l4Vars.f k s a n = some r ∧ r.2 = -1 := by
  obtain ⟨k, rfl⟩ : ∃ m, k = m + 2 := ⟨k - 2, by omega⟩
  refine ⟨([], -1), ?_, rfl⟩
  unfold spec_l4Vars.f
  simp only [spec_l4Vars.l0]
  rw [if_pos (by omega), if_neg (by omega), decide_eq_true (by omega)]
  simp [spec_l4Vars.j1]
/-- How a reader begins. -/
def readS (s : ByteArray) (c : Int) : ByteArray × Bool := if s.size < 5 ∨ 700 < s.size then (strOfNums [], true) else (s.extract 5 s.size, bt s 4 != c)
theorem impl_readerOf_eq (s : ByteArray) (c : Int) : impl_readerOf.f s c = some (readS s c) := by
  unfold impl_readerOf.f readS
  by_cases h : (s.size : Int) < 5
  · rw [if_pos h, if_pos (by omega)]; rfl
  · rw [if_neg h]
    by_cases h7 : (s.size : Int) > 700
    · rw [if_pos h7, if_pos (by omega), decide_eq_true h7]; rfl
    · rw [if_neg h7, if_pos (by omega), if_pos (by omega), if_neg (by omega)]
theorem impl_number_eq (s : ByteArray) (b : Bool) (k : Nat) (hk : 8 ≤ k) : impl_reader_number.f k s b = some ((rvS s).1, s.extract (rvS s).2.toNat s.size, b || decide ((rvS s).2 = 0)) := by
  have hr := rvS_range s
  unfold impl_reader_number.f
  rw [impl_ReadVar_eq s k hk]
  simp only [Option.bind_some]
  rw [show rvL (L s) 7 0 = rvS s from rfl]
  by_cases h : (rvS s).2 = 0
  · rw [if_pos h, if_pos (by omega), if_pos (by omega), decide_eq_true h]; simp
  · rw [if_neg h, if_pos (by omega), if_pos (by omega), decide_eq_false h]; simp
/-- A text with its sum ahead and a letter behind it. -/
theorem sumS_letter (c : Int) (h0 : 0 ≤ c) (h1 : c < 256) (x : ByteArray) : bt (sumS (strOfNums [c] ++ x)) 4 = c := by
  rw [bt_L]
  unfold sumS
  rw [L_append, L_append, L_strOfNums (fixL_bytes _ _), L_strOfNums (Bytes.cons h0 h1 Bytes.nil)]
  have hl := fixL_length (crcS (strOfNums [c] ++ x)) 4
  show ((fixL (crcS (strOfNums [c] ++ x)) 4) ++ ([c] ++ L x)).getD 4 0 = c
  simp [List.getD, List.getElem?_append_right, hl]
theorem impl_numbers_loop (m : Nat) (hm : m ≤ 1000) (n : Nat) : ∀ (k i : Nat) (xs : List Int) (s : ByteArray) (b : Bool), m - i = n → i ≤ m → n + 10 < k → xs.length = i →
    ∃ r, impl_reader_numbers.l0 k xs m i s b = some r ∧ (if b = false ∧ (numsS n s).2.2 = true then r = (xs ++ (numsS n s).1, (numsS n s).2.1, false) else r.2.2 = true) := by
  induction n with
  | zero =>
    intro k i xs s b hn hi hk hx
    obtain ⟨k, rfl⟩ : ∃ m, k = m + 1 := ⟨k - 1, by omega⟩
    refine ⟨(xs, s, b), by simp only [impl_reader_numbers.l0]; rw [if_neg (by omega)], ?_⟩
    cases b <;> simp [numsS]
  | succ n ih =>
    intro k i xs s b hn hi hk hx
    obtain ⟨k, rfl⟩ : ∃ m, k = m + 1 := ⟨k - 1, by omega⟩
    simp only [impl_reader_numbers.l0]
    rw [if_pos (by omega)]
    cases b with
    | true => exact ⟨_, by rw [if_pos rfl], by simp⟩
    | false =>
      rw [if_neg (by simp), impl_number_eq s false k (by omega)]
      simp only [Option.bind_some, Bool.false_or]
      rw [if_pos (by omega), w64s (show i < m by omega) (by omega)]
      obtain ⟨r, e1, e2⟩ := ih k (i + 1) (xs ++ [(rvS s).1]) (s.extract (rvS s).2.toNat s.size) (decide ((rvS s).2 = 0)) (by omega) (by omega) (by omega) (by simp [hx])
      refine ⟨r, e1, ?_⟩
      simp only [numsS]
      by_cases h0 : (rvS s).2 = 0
      · simp [h0] at e2 ⊢; exact e2
      · simp [h0] at e2 ⊢; exact e2
theorem impl_numbers_eq (s : ByteArray) (b : Bool) (n : Nat) (hn : n ≤ 1000) (k : Nat) (hk : 1020 ≤ k) :
    ∃ r, impl_reader_numbers.f k s b n = some r ∧ (if b = false ∧ (numsS n s).2.2 = true then r = ((numsS n s).1, (numsS n s).2.1, false) else r.2.2 = true) := by
  obtain ⟨r, e1, e2⟩ := impl_numbers_loop n hn n k 0 [] s b (by omega) (by omega) (by omega) rfl
  exact ⟨r, by unfold impl_reader_numbers.f; exact e1, by simpa using e2⟩
theorem impl_numbers_len (m : Nat) : ∀ (k i : Nat) (xs : List Int) (s : ByteArray) (b : Bool) (r : List Int × ByteArray × Bool), xs.length = i → i ≤ m → m ≤ 1000 → impl_reader_numbers.l0 k xs m i s b = some r → r.1.length ≤ m
  | 0, i, xs, s, b, r, hx, hi, hm, h => by simp [impl_reader_numbers.l0] at h
  | k + 1, i, xs, s, b, r, hx, hi, hm, h => by
    simp only [impl_reader_numbers.l0] at h
    by_cases c : i < m
    · rw [if_pos (by omega)] at h
      cases b with
      | true => simp at h; subst h; simp
      | false =>
        simp only [Bool.false_eq_true, if_false] at h
        obtain ⟨t, e1, e2⟩ := Option.bind_eq_some_iff.mp h
        rw [if_pos (by omega), w64s c (by omega)] at e2
        exact impl_numbers_len m k (i + 1) _ _ _ r (by simp [hx]) (by omega) hm e2
    · rw [if_neg (by omega)] at h
      have := Option.some.inj h
      subst this
      show xs.length ≤ m
      omega
/-- A loop that appends one element each round. -/
theorem pushLoop {α β γ : Type} (g : α → β) (l : List α) (hl : l.length ≤ 1048576) (fin : List β → γ) (F : Nat → List β → Int → γ) (K : Nat)
    (stop : ∀ k acc, K ≤ k → F (k + 1) acc (l.length : Int) = fin acc)
    (step : ∀ k acc (i : Nat) (hi : i < l.length), K ≤ k → acc.length ≤ 2097152 → F (k + 1) acc i = F k (acc ++ [g l[i]]) ((i + 1 : Nat) : Int)) :
    ∀ (d k i : Nat) (acc : List β), l.length - i = d → i ≤ l.length → K + d < k → acc.length ≤ 1048576 + i → F k acc i = fin (acc ++ (l.drop i).map g) := by
  intro d
  induction d with
  | zero =>
    intro k i acc hd hi hk ha
    obtain ⟨k, rfl⟩ : ∃ m, k = m + 1 := ⟨k - 1, by omega⟩
    have e : i = l.length := by omega
    subst e
    rw [stop k acc (by omega), List.drop_eq_nil_of_le (Nat.le_refl _)]; simp
  | succ d ih =>
    intro k i acc hd hi hk ha
    obtain ⟨k, rfl⟩ : ∃ m, k = m + 1 := ⟨k - 1, by omega⟩
    have hil : i < l.length := by omega
    rw [step k acc i hil (by omega) (by omega), ih k (i + 1) _ (by omega) (by omega) (by omega) (by simp; omega), List.drop_eq_getElem_cons hil, List.map_cons, List.append_assoc]; rfl
theorem catS_le {l : List Int} : (catS (fun x => varS (x + 1)) l).size ≤ 7 * l.length := catS_size _ 7 l (fun x _ => varS_size _)
theorem volS_size (h e : Int) (o : Bool) (l : List Int) : (volS h e o l).size ≤ 60 := by
  unfold volS
  split
  · rename_i hg
    have hl := (volB_len hg).1
    have h1 := leaseS_size h e
    have h2 := flagS_size o
    have h3 := @catS_le l
    have e2 : (strOfNums [118]).size = 1 := rfl
    rw [sumS_size, ByteArray.size_append, ByteArray.size_append, ByteArray.size_append, e2]
    omega
  · rw [strOfNums_size]; simp
theorem volS_letter {h e : Int} {o : Bool} {l : List Int} {s : ByteArray} (hs : 5 ≤ s.size) (he : volS h e o l = s) : s.size ≤ 700 ∧ bt s 4 = 118 := by
  have h1 := volS_size h e o l
  rw [he] at h1
  refine ⟨by omega, ?_⟩
  unfold volS at he
  split at he
  · rw [← he]
    simp only [append_assoc_]
    exact sumS_letter 118 (by omega) (by omega) _
  · rw [← he, strOfNums_size] at hs; simp at hs
/-- The volume that a text says. -/
def vol4 (l : List Int) : Int × Int × Bool × List Int := (l.getD 0 0 - 1, l.getD 1 0, l.getD 2 0 == 1, (l.drop 3).map fun x => x - 1)
def zeroVol : Int × Int × Bool × List Int × Bool := (0, 0, false, [], false)
/-- What ReadVol answers. -/
def readVol (s : ByteArray) : Int × Int × Bool × List Int × Bool :=
  if 5 ≤ s.size ∧ (numsS 7 (s.extract 5 s.size)).2.2 = true ∧ volS (vol4 (numsS 7 (s.extract 5 s.size)).1).1 (vol4 (numsS 7 (s.extract 5 s.size)).1).2.1 (vol4 (numsS 7 (s.extract 5 s.size)).1).2.2.1 (vol4 (numsS 7 (s.extract 5 s.size)).1).2.2.2 = s then
    ((vol4 (numsS 7 (s.extract 5 s.size)).1).1, (vol4 (numsS 7 (s.extract 5 s.size)).1).2.1, (vol4 (numsS 7 (s.extract 5 s.size)).1).2.2.1, (vol4 (numsS 7 (s.extract 5 s.size)).1).2.2.2, true) else zeroVol
theorem getD_range {l : List Int} (h : ∀ x ∈ l, 0 ≤ x ∧ x ≤ 562949953421311) (i : Nat) : 0 ≤ l.getD i 0 ∧ l.getD i 0 ≤ 562949953421311 := by
  rcases Nat.lt_or_ge i l.length with hi | hi
  · simp only [List.getD, List.getElem?_eq_getElem hi, Option.getD_some]
    exact h _ (List.getElem_mem hi)
  · simp only [List.getD, List.getElem?_eq_none hi, Option.getD_none]; omega
theorem spec_ReadVol_eq (s : ByteArray) (hs : s.size ≤ 1048576) (k : Nat) (hk : 1000060 ≤ k) : spec_ReadVol.f k s = some (readVol s) := by
  unfold spec_ReadVol.f readVol
  by_cases h5 : 5 ≤ s.size
  · obtain ⟨r, h1, h2⟩ := spec_Vars_eq s hs 5 7 (by omega) h5 k (by omega)
    have h1' : spec_l4Vars.f k s 5 7 = some r := h1
    rw [h1']
    simp only [Option.bind_some]
    have hlen := numsS_length 7 (s.extract 5 s.size)
    have hrg := numsS_range 7 (s.extract 5 s.size)
    have hle := numsS_rest 7 (s.extract 5 s.size)
    rw [extract_size s 5 h5] at hle
    cases hok : (numsS 7 (s.extract 5 s.size)).2.2 with
    | false =>
      rw [hok] at h2
      simp only [Bool.false_eq_true, if_false] at h2
      rw [if_pos (by omega), if_neg (fun hh => Bool.false_ne_true hh.2.1)]; rfl
    | true =>
      rw [hok, if_pos rfl] at h2
      obtain ⟨g1, g2, g3⟩ := h2
      rw [if_neg (by omega), g1]
      generalize (numsS 7 (s.extract 5 s.size)).1 = l at hlen hrg ⊢
      have hg0 := getD_range hrg 0
      rw [if_pos (by omega), if_pos (by omega), if_pos (by omega), show rd l 0 = _ from rd_nat l 0, show rd l 1 = _ from rd_nat l 1, show rd l 2 = _ from rd_nat l 2, w64 (by omega) (by omega)]
      have := pushLoop (fun x : Int => x - 1) l (by omega) (fun acc => if volS (l.getD 0 0 - 1) (l.getD 1 0) (l.getD 2 0 == 1) acc = s then some (l.getD 0 0 - 1, l.getD 1 0, (l.getD 2 0 == 1), acc, true) else some zeroVol)
        (fun k acc i => spec_ReadVol.l0 k s l i (l.getD 0 0 - 1) (l.getD 1 0) (l.getD 2 0 == 1) acc) 1000030
        (fun k acc hk => by
          simp only [spec_ReadVol.l0]
          rw [if_neg (by omega), spec_ShowVol_eq _ _ _ _ k hk]
          simp only [Option.bind_some, toList_inj]; rfl)
        (fun k acc i hi hk ha => by
          have hr := hrg _ (List.getElem_mem hi)
          simp only [spec_ReadVol.l0]
          rw [if_pos (by omega), if_pos (by omega), if_pos (by omega), rd_nat, getD_get' hi, w64s hi (by omega), w64 (by omega) (by omega)])
        (l.length - 3) k 3 [] rfl (by omega) (by omega) (by simp)
      refine this.trans ?_
      simp only [List.nil_append, vol4]
      by_cases hq : volS (l.getD 0 0 - 1) (l.getD 1 0) (l.getD 2 0 == 1) ((l.drop 3).map fun x => x - 1) = s
      · rw [if_pos hq, if_pos ⟨h5, trivial, hq⟩]
      · rw [if_neg hq, if_neg (fun hh => hq hh.2.2)]
  · obtain ⟨r, h1, h2⟩ := spec_Vars_past s 5 7 (by omega) (by omega) k (by omega)
    have h1' : spec_l4Vars.f k s 5 7 = some r := h1
    rw [h1']
    simp only [Option.bind_some]
    rw [if_pos (by omega), if_neg (fun hh => h5 hh.1)]; rfl
theorem impl_lease_eq (s : ByteArray) (b : Bool) (k : Nat) (hk : 8 ≤ k) : impl_reader_lease.f k s b = some ((rvS s).1 - 1, (rvS (s.extract (rvS s).2.toNat s.size)).1, (numsS 2 s).2.1, b || !(numsS 2 s).2.2) := by
  unfold impl_reader_lease.f
  have h1 := rvS_range s
  rw [impl_number_eq s b k hk]
  simp only [Option.bind_some]
  rw [impl_number_eq _ _ k hk]
  simp only [Option.bind_some]
  rw [w64 (by omega) (by omega)]
  simp only [numsS]
  congr 1
  simp [Bool.or_assoc]
theorem impl_ReadVol_loop (s : ByteArray) (l : List Int) (hl : l.length ≤ 1000) (x : ByteArray) (b : Bool) (h e : Int) (o : Bool) (k : Nat) (hk : 1001100 ≤ k) :
    impl_ReadVol.l0 k s l (l.length : Int) 0 x b h e o [] = if b = true then some zeroVol else if volS h e o (l.map fun x => wrap64 (x - 1)) = s then some (h, e, o, l.map (fun x => wrap64 (x - 1)), true) else some zeroVol := by
  have := pushLoop (fun x : Int => wrap64 (x - 1)) l (by omega) (fun acc => if b = true then some zeroVol else if volS h e o acc = s then some (h, e, o, acc, true) else some zeroVol)
    (fun k acc i => impl_ReadVol.l0 k s l (l.length : Int) i x b h e o acc) 1000030
    (fun k acc hk => by
      simp only [impl_ReadVol.l0]
      rw [if_neg (by omega), impl_ShowVol_eq _ _ _ _ k hk]
      simp only [Option.bind_some, toList_inj]; rfl)
    (fun k acc i hi hk ha => by
      simp only [impl_ReadVol.l0]
      rw [if_pos (by omega), if_pos (by omega), if_pos (by omega), if_pos (by omega), rd_nat, getD_get' hi, w64s hi (by omega)])
    l.length k 0 [] (by omega) (by omega) (by omega) (by simp)
  simpa using this
theorem map_w64 {l : List Int} (h : ∀ x ∈ l, 0 ≤ x ∧ x ≤ 562949953421311) : l.map (fun x => wrap64 (x - 1)) = l.map fun x => x - 1 := by
  apply List.map_congr_left
  intro x hx
  have := h x hx
  exact w64 (by omega) (by omega)
theorem impl_ReadVol_eq (s : ByteArray) (k : Nat) (hk : 1001200 ≤ k) : impl_ReadVol.f k s = some (readVol s) := by
  unfold impl_ReadVol.f readVol
  rw [impl_readerOf_eq]
  simp only [Option.bind_some]
  rw [impl_lease_eq _ _ k (by omega)]
  simp only [Option.bind_some]
  rw [impl_number_eq _ _ k (by omega)]
  simp only [Option.bind_some]
  generalize hbo : (readS s 118).1 = body
  generalize hfl : (readS s 118).2 = fl
  generalize hf3 : ((fl || !(numsS 2 body).2.2) || decide ((rvS (numsS 2 body).2.1).2 = 0)) = f3
  generalize hs3 : (numsS 2 body).2.1.extract (rvS (numsS 2 body).2.1).2.toNat (numsS 2 body).2.1.size = s3
  obtain ⟨r, e1, e2⟩ := impl_numbers_eq s3 f3 4 (by omega) k (by omega)
  have e1' : impl_reader_numbers.f k s3 f3 4 = some r := e1
  have hrl : r.1.length ≤ 4 := by
    unfold impl_reader_numbers.f at e1'
    exact impl_numbers_len 4 k 0 [] s3 f3 r rfl (by omega) (by omega) e1'
  rw [e1']
  simp only [Option.bind_some]
  rw [impl_ReadVol_loop s r.1 (by omega) _ _ _ _ _ k (by omega)]
  by_cases hz : s.size < 5 ∨ 700 < s.size
  · have e : readS s 118 = (strOfNums [], true) := by unfold readS; rw [if_pos hz]
    have hfl' : fl = true := by rw [← hfl, e]
    have hf3' : f3 = true := by rw [← hf3, hfl']; rfl
    rw [hf3', if_neg (by simp)] at e2
    rw [if_pos e2, if_neg]
    intro hh
    have := volS_letter hh.1 hh.2.2
    omega
  · have e : readS s 118 = (s.extract 5 s.size, bt s 4 != 118) := by unfold readS; rw [if_neg hz]
    have hbo' : body = s.extract 5 s.size := by rw [← hbo, e]
    have hfl' : fl = (bt s 4 != 118) := by rw [← hfl, e]
    have hN : numsS 7 (s.extract 5 s.size) = ((rvS body).1 :: (rvS (body.extract (rvS body).2.toNat body.size)).1 :: (rvS (numsS 2 body).2.1).1 :: (numsS 4 s3).1, (numsS 4 s3).2.1, (numsS 2 body).2.2 && (decide ((rvS (numsS 2 body).2.1).2 ≠ 0) && (numsS 4 s3).2.2)) := by
      rw [← hs3, ← hbo']
      simp only [numsS]
      congr 2
      simp [Bool.and_assoc]
    rw [hN]
    have hrg := numsS_range 4 s3
    have hv : vol4 ((rvS body).1 :: (rvS (body.extract (rvS body).2.toNat body.size)).1 :: (rvS (numsS 2 body).2.1).1 :: (numsS 4 s3).1) = ((rvS body).1 - 1, (rvS (body.extract (rvS body).2.toNat body.size)).1, ((rvS (numsS 2 body).2.1).1 == 1), (numsS 4 s3).1.map fun x => x - 1) := rfl
    rw [hv]
    simp only
    by_cases hb : bt s 4 = 118
    · have hb' : (bt s 4 != 118) = false := by simp [hb]
      rw [hfl', hb'] at hf3
      by_cases hok : (numsS 2 body).2.2 = true ∧ (rvS (numsS 2 body).2.1).2 ≠ 0
      · have hf3' : f3 = false := by rw [← hf3, hok.1]; simp [hok.2]
        rw [hf3'] at e2
        cases hok2 : (numsS 4 s3).2.2 with
        | false =>
          rw [hok2, if_neg (by simp)] at e2
          rw [if_pos e2, if_neg (fun hh => by simp at hh)]
        | true =>
          rw [hok2, if_pos ⟨rfl, rfl⟩] at e2
          subst e2
          simp only [Bool.false_eq_true, if_false]
          rw [map_w64 hrg]
          by_cases hq : volS ((rvS body).1 - 1) (rvS (body.extract (rvS body).2.toNat body.size)).1 ((rvS (numsS 2 body).2.1).1 == 1) ((numsS 4 s3).1.map fun x => x - 1) = s
          · rw [if_pos hq, if_pos ⟨by omega, by simp [hok.1, hok.2], hq⟩]
          · rw [if_neg hq, if_neg (fun hh => hq hh.2.2)]
      · have hf3' : f3 = true := by
          rw [← hf3]
          cases h2 : (numsS 2 body).2.2 with
          | false => rfl
          | true =>
            have : (rvS (numsS 2 body).2.1).2 = 0 := by
              by_cases h0 : (rvS (numsS 2 body).2.1).2 = 0
              · exact h0
              · exact absurd ⟨h2, h0⟩ hok
            simp [this]
        rw [hf3', if_neg (by simp)] at e2
        rw [if_pos e2, if_neg]
        intro hh
        have h2 := hh.2.1
        simp only [Bool.and_eq_true, decide_eq_true_eq] at h2
        exact hok ⟨h2.1, h2.2.1⟩
    · have hb' : (bt s 4 != 118) = true := by simp [hb]
      have hf3' : f3 = true := by rw [← hf3, hfl', hb']; rfl
      rw [hf3', if_neg (by simp)] at e2
      rw [if_pos e2, if_neg]
      intro hh
      exact hb (volS_letter hh.1 hh.2.2).2
theorem readVol_len (s : ByteArray) : (readVol s).2.2.2.1.length ≤ 4 := by
  unfold readVol
  split
  · simp only [vol4]
    rw [List.length_map, List.length_drop, numsS_length]; omega
  · simp [zeroVol]
theorem markIntS_loop (a : Int) (h0 : 0 ≤ a) (h1 : a ≤ 1048576) (d : Nat) : ∀ (k i : Nat) (xs : List Int), xs.length ≤ 1048576 → xs.length - i = d → i ≤ xs.length → d < k → (∀ j, j < i → xs[j]? = some (a + j)) →
    ∃ ys, laws_markIntS.l0 k xs (a + i) i = some (a + xs.length, ys) ∧ ys.length = xs.length ∧ ∀ j, j < xs.length → ys[j]? = some (a + j) := by
  induction d with
  | zero =>
    intro k i xs hl hd hi hk h
    obtain ⟨k, rfl⟩ : ∃ m, k = m + 1 := ⟨k - 1, by omega⟩
    have e : i = xs.length := by omega
    subst e
    refine ⟨xs, ?_, rfl, h⟩
    simp only [laws_markIntS.l0]
    rw [if_neg (by omega)]
  | succ d ih =>
    intro k i xs hl hd hi hk h
    obtain ⟨k, rfl⟩ : ∃ m, k = m + 1 := ⟨k - 1, by omega⟩
    have hil : i < xs.length := by omega
    simp only [laws_markIntS.l0]
    rw [if_pos (by omega), if_pos (by omega), toNat_nat, w64s hil hl, show wrap64 (a + (i : Int) + 1) = a + ((i + 1 : Nat) : Int) by rw [w64 (by omega) (by omega)]; omega]
    obtain ⟨ys, e1, e2, e3⟩ := ih k (i + 1) (xs.set i (a + i)) (by simpa using hl) (by simp; omega) (by simp; omega) (by omega) (fun j hj => by
      by_cases hji : j = i
      · subst hji; simp [hil]
      · rw [List.getElem?_set_ne (by omega)]; exact h j (by omega))
    simp only [List.length_set] at e1 e2 e3
    exact ⟨ys, e1, e2, e3⟩
theorem heldIntS_loop (a : Int) (h0 : 0 ≤ a) (h1 : a ≤ 1048576) (xs : List Int) (hl : xs.length ≤ 1048576) (h : ∀ j, j < xs.length → xs[j]? = some (a + j)) (d : Nat) : ∀ (k i : Nat), xs.length - i = d → i ≤ xs.length → d < k → laws_heldIntS.l0 k xs (a + i) i = some (a + xs.length) := by
  induction d with
  | zero =>
    intro k i hd hi hk
    obtain ⟨k, rfl⟩ : ∃ m, k = m + 1 := ⟨k - 1, by omega⟩
    have e : i = xs.length := by omega
    subst e
    simp only [laws_heldIntS.l0]
    rw [if_neg (by omega)]
  | succ d ih =>
    intro k i hd hi hk
    obtain ⟨k, rfl⟩ : ∃ m, k = m + 1 := ⟨k - 1, by omega⟩
    have hil : i < xs.length := by omega
    simp only [laws_heldIntS.l0]
    have e : rd xs (i : Int) = a + i := by rw [rd_nat]; simp [List.getD, h i hil]
    rw [if_pos (by omega), if_pos (by omega), e, if_pos rfl, w64s hil hl, show wrap64 (a + (i : Int) + 1) = a + ((i + 1 : Nat) : Int) by rw [w64 (by omega) (by omega)]; omega]
    exact ih k (i + 1) (by omega) (by omega) (by omega)
/-- A marked list holds its marks. -/
theorem markIntS_eq (xs : List Int) (hl : xs.length ≤ 1048576) (a : Int) (h0 : 0 ≤ a) (h1 : a ≤ 1048576) (k : Nat) (hk : 1048577 ≤ k) :
    ∃ ys, laws_markIntS.f k xs a = some (a + xs.length, ys) ∧ ∀ k', 1048577 ≤ k' → laws_heldIntS.f k' ys a = some (a + xs.length) := by
  obtain ⟨ys, e1, e2, e3⟩ := markIntS_loop a h0 h1 xs.length k 0 xs hl (by omega) (by omega) (by omega) (fun j hj => by omega)
  refine ⟨ys, ?_, fun k' hk' => ?_⟩
  · unfold laws_markIntS.f
    have : a + ((0 : Nat) : Int) = a := by omega
    rw [this] at e1
    exact e1
  · unfold laws_heldIntS.f
    have := heldIntS_loop a h0 h1 ys (by omega) (fun j hj => e3 j (by omega)) ys.length k' 0 (by omega) (by omega) (by omega)
    rw [show a + ((0 : Nat) : Int) = a by omega, e2] at this
    exact this
theorem eqIntS_loop (l : List Int) (hl : l.length ≤ 1048576) (d : Nat) : ∀ (k i : Nat), l.length - i = d → i ≤ l.length → d < k → laws_eqIntS.l0 k l l i = some true := by
  induction d with
  | zero =>
    intro k i hd hi hk
    obtain ⟨k, rfl⟩ : ∃ m, k = m + 1 := ⟨k - 1, by omega⟩
    simp only [laws_eqIntS.l0]
    rw [if_neg (by omega)]
  | succ d ih =>
    intro k i hd hi hk
    obtain ⟨k, rfl⟩ : ∃ m, k = m + 1 := ⟨k - 1, by omega⟩
    simp only [laws_eqIntS.l0]
    rw [if_pos (by omega), if_pos (by omega), if_pos (by omega), if_pos trivial, w64s (show i < l.length by omega) hl]
    exact ih k (i + 1) (by omega) (by omega) (by omega)
theorem eqIntS_eq (l : List Int) (k : Nat) (hl : l.length ≤ 1048576) (hk : 1048577 ≤ k) : laws_eqIntS.f k l l = some true := by
  unfold laws_eqIntS.f
  rw [if_pos rfl]
  exact eqIntS_loop l hl l.length k 0 (by omega) (by omega) (by omega)
theorem eqVol_eq (h e : Int) (o : Bool) (l : List Int) (hl : l.length ≤ 1048576) (k : Nat) (hk : 1048577 ≤ k) : laws_eqVolSec.f k h e o l h e o l = some true := by
  unfold laws_eqVolSec.f laws_eqLease.f
  rw [if_pos rfl, if_pos rfl]
  simp only [Option.bind_some, if_true, bne_self_eq_false, Bool.false_eq_true, if_false]
  rw [eqIntS_eq l k hl hk]
  simp
theorem markVol_eq (h e : Int) (o : Bool) (l : List Int) (hl : l.length ≤ 1048576) (k : Nat) (hk : 1048577 ≤ k) :
    ∃ ys, laws_markVolSec.f k h e o l 1 = some (1 + (l.length : Int), ys) ∧ ∀ k', 1048577 ≤ k' → laws_heldVolSec.f k' h e o ys 1 = some (1 + (l.length : Int)) := by
  obtain ⟨ys, e1, e2⟩ := markIntS_eq l hl 1 (by omega) (by omega) k hk
  refine ⟨ys, ?_, fun k' hk' => ?_⟩
  · unfold laws_markVolSec.f
    rw [e1]; simp
  · unfold laws_heldVolSec.f
    rw [e2 k' hk']
    simp only [Option.bind_some]
    first | rfl | (rw [if_neg (show ¬ (1 + (l.length : Int)) < 0 by omega)])
theorem FnExactReadVol : laws_FnExactReadVol.Pure := by
  intro s _
  refine ⟨1048602, ?_⟩
  unfold laws_FnExactReadVol.f
  by_cases hs : (s.size : Int) > 1048576
  · rw [if_pos hs]
  · have hl := readVol_len s
    rw [if_neg hs, spec_ReadVol_eq s (by omega) _ (by omega), impl_ReadVol_eq s _ (by omega)]
    simp only [Option.bind_some]
    rw [eqVol_eq _ _ _ _ (by omega) _ (by omega)]
    simp only [Option.bind_some, if_true, bne_self_eq_false]
    generalize hk : 1048602 = k
    obtain ⟨k, rfl⟩ : ∃ m, k = m + 2 := ⟨k - 2, by omega⟩
    have hk2 : 1048600 ≤ k := by omega
    clear hk
    obtain ⟨ys, e1, e2⟩ := markVol_eq (readVol s).1 (readVol s).2.1 (readVol s).2.2.1 (readVol s).2.2.2.1 (by omega) (k + 1) (by omega)
    simp only [laws_FnExactReadVol.j0, Bool.false_eq_true, if_false]
    rw [e1]; simp only [Option.bind_some]
    rw [e2 (k + 1) (by omega)]; simp only [Option.bind_some]
    rw [if_neg (show ¬ 1 + ((readVol s).2.2.2.1.length : Int) < 0 by omega), if_pos trivial, impl_ReadVol_eq s _ (by omega)]
    simp only [Option.bind_some]
    rw [eqVol_eq _ _ _ _ (by omega) _ (by omega)]
    simp only [Option.bind_some, if_true, bne_self_eq_false]
    simp only [laws_FnExactReadVol.j1, Bool.false_eq_true, if_false]
    rw [e2 k (by omega)]; simp only [Option.bind_some]
    rw [if_neg (show ¬ 1 + ((readVol s).2.2.2.1.length : Int) < 0 by omega), if_pos trivial]

end Go.Proofs.Ytadmodbdkmmplaa.Pure
