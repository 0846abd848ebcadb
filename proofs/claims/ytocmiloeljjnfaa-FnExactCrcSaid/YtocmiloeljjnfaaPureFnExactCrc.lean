/- Proved: the pure statement behind FnExactCrc: for every string of at most 140737488351232 bytes the law's Lean function answers true. -/
import Derived.Test.YtocmiloeljjnfaaPFnExactCrcx1
import Derived.Test.YtocmiloeljjnfaaNum
namespace Go.Proofs.Ytocmiloeljjnfaa.Pure
open Go.RowKit Go.Proofs.Ytocmiloeljjnfaa.PFnExactCrc Go.Proofs.YtocmiloeljjnfaaW.PrintWords Go.Proofs.YtocmiloeljjnfaaW.PrintLast Go.Proofs.Ytocmiloeljjnfaa.Num

/-- The inner loop: from round j on both come to the outer loop at the same number. -/
theorem crc_inner (s : ByteArray) (i : Int) (d : Nat) : ∀ (k : Nat) (j c : Int), 8 - j = d → 0 ≤ j → d < k → 0 ≤ c → c < 4294967296 →
    ∃ c', 0 ≤ c' ∧ c' < 4294967296 ∧ spec_Crc.l1 k s c i j = spec_Crc.l0 (k - d - 1) s c' (wrap64 (i + 1)) ∧ impl_Crc.l1 k s c s.size i j = impl_Crc.l0 (k - d - 1) s c' s.size (wrap64 (i + 1)) := by
  induction d with
  | zero =>
    intro k j c hd h0 hk hc0 hc1
    obtain ⟨k, rfl⟩ : ∃ m, k = m + 1 := ⟨k - 1, by omega⟩
    refine ⟨c, hc0, hc1, ?_, ?_⟩
    · simp only [spec_Crc.l1]; rw [if_neg (by omega)]; simp
    · simp only [impl_Crc.l1]; rw [if_neg (by omega)]; simp
  | succ d ih =>
    intro k j c hd h0 hk hc0 hc1
    obtain ⟨k, rfl⟩ : ∃ m, k = m + 1 := ⟨k - 1, by omega⟩
    have hw : wrap64 (j + 1) = j + 1 := w64 (by omega) (by omega)
    have e1 : wrap64 (c / 2) = c / 2 := w64 (by omega) (by omega)
    simp only [spec_Crc.l1, impl_Crc.l1]
    have h8 : j < 8 := by omega
    simp only [if_pos h8]
    rw [tm hc0, td hc0, e1, u32_and1 hc0 hc1, hw]
    by_cases ho : c % 2 = 1
    · obtain ⟨x, x1, x2, x3, x4⟩ := xor_64_32 (a := c / 2) (b := 2197175160) (by omega) (by omega) (by omega) (by omega)
      simp only [if_pos ho]
      rw [x1, x2]
      obtain ⟨c', q0, q1, q2, q3⟩ := ih k (j + 1) x (by omega) (by omega) (by omega) x3 x4
      exact ⟨c', q0, q1, by rw [q2, show k + 1 - (d + 1) - 1 = k - d - 1 by omega], by rw [q3, show k + 1 - (d + 1) - 1 = k - d - 1 by omega]⟩
    · simp only [if_neg ho]
      obtain ⟨c', q0, q1, q2, q3⟩ := ih k (j + 1) (c / 2) (by omega) (by omega) (by omega) (by omega) (by omega)
      exact ⟨c', q0, q1, by rw [q2, show k + 1 - (d + 1) - 1 = k - d - 1 by omega], by rw [q3, show k + 1 - (d + 1) - 1 = k - d - 1 by omega]⟩

theorem crc_loop (s : ByteArray) (hs : s.size ≤ 1048576) (d : Nat) : ∀ (k : Nat) (i c : Int), (s.size : Int) - i = d → 0 ≤ i → 10 * d < k → 0 ≤ c → c < 4294967296 →
    ∃ r, spec_Crc.l0 k s c i = some r ∧ impl_Crc.l0 k s c s.size i = some r := by
  induction d with
  | zero =>
    intro k i c hd h0 hk hc0 hc1
    obtain ⟨k, rfl⟩ : ∃ m, k = m + 1 := ⟨k - 1, by omega⟩
    refine ⟨4294967295 - c, ?_, ?_⟩
    · simp only [spec_Crc.l0]; rw [if_neg (by omega), w64 (by omega) (by omega)]
    · simp only [impl_Crc.l0]; rw [if_neg (by omega), Int.emod_eq_of_lt (by omega) (by omega)]
  | succ d ih =>
    intro k i c hd h0 hk hc0 hc1
    obtain ⟨k, rfl⟩ : ∃ m, k = m + 1 := ⟨k - 1, by omega⟩
    have hb := bt_range s i
    have hlt : i < (s.size : Int) := by omega
    have hw : wrap64 (i + 1) = i + 1 := w64 (by omega) (by omega)
    obtain ⟨x, x1, x2, x3, x4⟩ := xor_64_32 (a := c) (b := bt s i) hc0 hb.1 hc1 (by omega)
    obtain ⟨c', q0, q1, q2, q3⟩ := crc_inner s i 8 k 0 x (by omega) (by omega) (by omega) x3 x4
    obtain ⟨r, r1, r2⟩ := ih (k - 8 - 1) (i + 1) c' (by omega) (by omega) (by omega) q0 q1
    refine ⟨r, ?_, ?_⟩
    · simp only [spec_Crc.l0]
      rw [if_pos hlt, if_pos h0, b64, x1, q2, hw]; exact r1
    · simp only [impl_Crc.l0]
      rw [if_pos hlt, if_pos h0, if_pos hlt, show bt s i % 4294967296 = bt s i by omega, x2, q3, hw]; exact r2

theorem FnExactCrc : laws_FnExactCrc.Pure := by
  intro s _
  by_cases hs : (s.size : Int) > 1048576
  · exact ⟨0, by unfold laws_FnExactCrc.f; rw [if_pos hs]⟩
  · obtain ⟨r, h1, h2⟩ := crc_loop s (by omega) s.size (10 * s.size + 1) 0 4294967295 (by omega) (by omega) (by omega) (by omega) (by omega)
    refine ⟨10 * s.size + 1, ?_⟩
    unfold laws_FnExactCrc.f spec_Crc.f impl_Crc.f
    rw [if_neg hs, h1, h2]; simp

end Go.Proofs.Ytocmiloeljjnfaa.Pure
