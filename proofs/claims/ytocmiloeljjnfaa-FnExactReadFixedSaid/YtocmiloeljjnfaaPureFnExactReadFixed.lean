/- Proved: the pure statement behind FnExactReadFixed: for every string and every width the law's Lean function answers true. -/
import Derived.Test.YtocmiloeljjnfaaPFnExactReadFixedx1
import Derived.Test.YtocmiloeljjnfaaNum
namespace Go.Proofs.Ytocmiloeljjnfaa.Pure
open Go.RowKit Go.Proofs.Ytocmiloeljjnfaa.PFnExactReadFixed Go.Proofs.YtocmiloeljjnfaaW.PrintWords Go.Proofs.YtocmiloeljjnfaaW.PrintLast Go.Proofs.Ytocmiloeljjnfaa.Num

theorem pow256_le {n : Nat} (h : n ≤ 6) : (256 : Int) ^ n ≤ 281474976710656 := by
  have : n = 0 ∨ n = 1 ∨ n = 2 ∨ n = 3 ∨ n = 4 ∨ n = 5 ∨ n = 6 := by omega
  rcases this with rfl | rfl | rfl | rfl | rfl | rfl | rfl <;> decide

theorem rf_in (a b c : Int) : impl_in.f a b c = some (decide (b ≤ a ∧ a ≤ c)) ∧ spec_l1In.f a b c = some (decide (b ≤ a ∧ a ≤ c)) := by
  unfold impl_in.f spec_l1In.f
  by_cases h : b ≤ a <;> simp [h]

theorem rf_loop (s : ByteArray) (wd : Int) (h7 : wd ≤ 7) (hl : wd ≤ s.size) (d : Nat) : ∀ (k : Nat) (i n : Int), wd - i = d → 0 ≤ i → d < k → 0 ≤ n → n < 256 ^ i.toNat →
    ∃ r, spec_ReadFixed.l0 k s wd n i = some r ∧ impl_ReadFixed.l0 k s n wd i = some r := by
  induction d with
  | zero =>
    intro k i n hd h0 hk hn0 hn
    obtain ⟨k, rfl⟩ : ∃ m, k = m + 1 := ⟨k - 1, by omega⟩
    refine ⟨(n, true), ?_, ?_⟩
    · simp only [spec_ReadFixed.l0]; rw [if_neg (by omega)]
    · simp only [impl_ReadFixed.l0]; rw [if_neg (by omega)]
  | succ d ih =>
    intro k i n hd h0 hk hn0 hn
    obtain ⟨k, rfl⟩ : ∃ m, k = m + 1 := ⟨k - 1, by omega⟩
    have hb := bt_range s i
    have hlt : i < (s.size : Int) := by omega
    have hw : wrap64 (i + 1) = i + 1 := w64 (by omega) (by omega)
    have hp := pow256_le (n := i.toNat) (by omega)
    have e1 : wrap64 (n * 256) = n * 256 := w64 (by omega) (by omega)
    have e2 : wrap64 (n * 256 + bt s i) = n * 256 + bt s i := w64 (by omega) (by omega)
    have e3 : Go.bits .or .i64 (n * 256) (bt s i) = n * 256 + bt s i := i64_join 8 (by omega) (by omega) (by omega) hb.1 (by omega) (by omega)
    have hp1 : (256 : Int) ^ (i + 1).toNat = 256 ^ i.toNat * 256 := by
      rw [show (i + 1).toNat = i.toNat + 1 by omega, Int.pow_succ]
    obtain ⟨r, h1, h2⟩ := ih k (i + 1) (n * 256 + bt s i) (by omega) (by omega) (by omega) (by omega) (by omega)
    refine ⟨r, ?_, ?_⟩
    · simp only [spec_ReadFixed.l0]
      rw [if_pos (by omega), if_pos h0, if_pos hlt, b64, e1, e2, hw]; exact h1
    · simp only [impl_ReadFixed.l0]
      rw [if_pos (by omega), if_pos h0, if_pos hlt, b64, e1, e3, hw]; exact h2

theorem rf_same (s : ByteArray) (wd : Int) : ∃ k r, spec_ReadFixed.f k s wd = some r ∧ impl_ReadFixed.f k s wd = some r := by
  unfold spec_ReadFixed.f impl_ReadFixed.f
  rw [(rf_in wd 1 7).1, (rf_in wd 1 7).2]
  simp only [Option.bind_some, decide_eq_true_eq]
  by_cases h : 1 ≤ wd ∧ wd ≤ 7
  · simp only [if_pos h]
    by_cases hl : (s.size : Int) < wd
    · exact ⟨1, (0, false), by simp [spec_ReadFixed.j0, hl], by simp [impl_ReadFixed.j0, hl]⟩
    · obtain ⟨r, h1, h2⟩ := rf_loop s wd h.2 (by omega) wd.toNat (wd.toNat + 1) 0 0 (by omega) (by omega) (by omega) (by omega) (by simp)
      refine ⟨wd.toNat + 2, r, ?_, ?_⟩
      · rw [decide_eq_false hl]; simp only [spec_ReadFixed.j0]; simpa using h1
      · rw [decide_eq_false hl]; simp only [impl_ReadFixed.j0]; simpa using h2
  · simp only [if_neg h]
    exact ⟨1, (0, false), by simp [spec_ReadFixed.j0], by simp [impl_ReadFixed.j0]⟩

theorem FnExactReadFixed : laws_FnExactReadFixed.Pure := by
  intro s wd _ _
  by_cases hs : (s.size : Int) > 1048576
  · exact ⟨0, by unfold laws_FnExactReadFixed.f; rw [if_pos hs]⟩
  · obtain ⟨k, r, h1, h2⟩ := rf_same s wd
    refine ⟨k, ?_⟩
    unfold laws_FnExactReadFixed.f
    rw [if_neg hs, h1, h2]; simp

end Go.Proofs.Ytocmiloeljjnfaa.Pure
