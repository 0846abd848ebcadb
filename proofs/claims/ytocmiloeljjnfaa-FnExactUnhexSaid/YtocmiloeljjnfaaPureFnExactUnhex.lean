/- Proved: the pure statement behind FnExactUnhex: for every string of at most 140737488351232 bytes the law's Lean function answers true. -/
import Derived.Test.YtocmiloeljjnfaaQFnExactUnhexx1
import Derived.Test.YtocmiloeljjnfaaNum
namespace Go.Proofs.Ytocmiloeljjnfaa.Pure
open Go.RowKit Go.Proofs.Ytocmiloeljjnfaa.QFnExactUnhex Go.Proofs.YtocmiloeljjnfaaW.PrintWords Go.Proofs.YtocmiloeljjnfaaW.PrintLast Go.Proofs.YtocmiloeljjnfaaW.PrintMore Go.Proofs.Ytocmiloeljjnfaa.Num
set_option linter.unusedSimpArgs false
/-- The number of a digit, or -1. -/
def hx (c : Int) : Int := if 48 ≤ c ∧ c ≤ 57 then c - 48 else if 97 ≤ c ∧ c ≤ 102 then c - 87 else -1
theorem hx_range (c : Int) : -1 ≤ hx c ∧ hx c < 16 := by
  unfold hx
  split
  · omega
  · split <;> omega
theorem spec_hx_all : ∀ c : Fin 256, spec_l1FromHex.f 20 (c.val : Int) = some (hx c.val) := by decide +kernel
theorem impl_hx_all : ∀ c : Fin 256, strings_IndexByte.f (⟨#[48, 49, 50, 51, 52, 53, 54, 55, 56, 57, 97, 98, 99, 100, 101, 102]⟩ : ByteArray) (c.val : Int) = some (hx c.val) := by decide +kernel
theorem spec_hx (c : Int) (h0 : 0 ≤ c) (h1 : c < 256) (k : Nat) (hk : 20 ≤ k) : spec_l1FromHex.f k c = some (hx c) := by
  have := spec_hx_all ⟨c.toNat, by omega⟩
  simp only [Int.toNat_of_nonneg h0] at this
  exact at_rounds (spec_l1FromHex.mono c) hk this
theorem impl_hx (c : Int) (h0 : 0 ≤ c) (h1 : c < 256) : strings_IndexByte.f (⟨#[48, 49, 50, 51, 52, 53, 54, 55, 56, 57, 97, 98, 99, 100, 101, 102]⟩ : ByteArray) c = some (hx c) := by
  have := impl_hx_all ⟨c.toNat, by omega⟩
  simp only [Int.toNat_of_nonneg h0] at this
  exact this
theorem unhex_loop (s : ByteArray) (hs : s.size ≤ 1048576) (he : (s.size : Int) % 2 = 0) (d : Nat) : ∀ (k : Nat) (i : Int) (xs : List Int), (s.size : Int) - i = 2 * d → 0 ≤ i → d + 20 < k → (xs.length : Int) ≤ i →
    ∃ r, spec_Unhex.l0 k s xs i = some r ∧ impl_Unhex.l0 k s xs i = some r := by
  induction d with
  | zero =>
    intro k i xs hd h0 hk hxl
    obtain ⟨k, rfl⟩ : ∃ m, k = m + 1 := ⟨k - 1, by omega⟩
    refine ⟨(strOfNums xs, true), ?_, ?_⟩
    · simp only [spec_Unhex.l0]; rw [if_neg (by omega)]
    · simp only [impl_Unhex.l0]; rw [if_neg (by omega)]
  | succ d ih =>
    intro k i xs hd h0 hk hxl
    obtain ⟨k, rfl⟩ : ∃ m, k = m + 1 := ⟨k - 1, by omega⟩
    have hb := bt_range s i
    have hb1 := bt_range s (i + 1)
    have hlt : i < (s.size : Int) := by omega
    have e1 : wrap64 (i + 1) = i + 1 := w64 (by omega) (by omega)
    have e2 : wrap64 (i + 2) = i + 2 := w64 (by omega) (by omega)
    have r1 := hx_range (bt s i)
    have r2 := hx_range (bt s (i + 1))
    simp only [spec_Unhex.l0, impl_Unhex.l0]
    simp only [if_pos hlt, if_pos h0, e1, e2, spec_hx _ hb.1 (by omega : bt s i < 256) k (by omega), spec_hx _ hb1.1 (by omega : bt s (i + 1) < 256) k (by omega), impl_hx _ hb.1 (by omega : bt s i < 256), impl_hx _ hb1.1 (by omega : bt s (i + 1) < 256), Option.bind_some,
      if_pos (by omega : 0 ≤ i + 1), if_pos (by omega : i + 1 < (s.size : Int))]
    by_cases c1 : hx (bt s i) < 0
    · simp only [if_pos c1]; exact ⟨_, rfl, rfl⟩
    · simp only [if_neg c1]
      by_cases c2 : hx (bt s (i + 1)) < 0
      · simp only [if_pos c2]; exact ⟨_, rfl, rfl⟩
      · simp only [if_neg c2, if_pos (by omega : xs.length < 140737488355328)]
        rw [w64 (n := 16 * hx (bt s i)) (by omega) (by omega), w64 (by omega) (by omega), w64 (by omega) (by omega), i64_join 4 (by omega) (by omega) (by omega) (by omega) (by omega) (by omega), Int.mul_comm 16]
        obtain ⟨r, q1, q2⟩ := ih k (i + 2) (xs ++ [(hx (bt s i) * 16 + hx (bt s (i + 1))) % 256]) (by omega) (by omega) (by omega) (by simp; omega)
        exact ⟨r, q1, q2⟩
theorem FnExactUnhex : laws_FnExactUnhex.Pure := by
  intro s _
  by_cases hs : (s.size : Int) > 1048576
  · exact ⟨0, by unfold laws_FnExactUnhex.f; rw [if_pos hs]⟩
  · refine ⟨s.size + 30, ?_⟩
    unfold laws_FnExactUnhex.f spec_Unhex.f impl_Unhex.f
    rw [if_neg hs]
    by_cases he : (s.size : Int) % 2 = 0
    · obtain ⟨r, h1, h2⟩ := unhex_loop s (by omega) he (s.size / 2) (s.size + 30) 0 [] (by omega) (by omega) (by omega) (by simp)
      rw [if_neg (by omega), if_pos he, h1, h2]; simp
    · rw [if_pos (by omega), if_neg he]; simp

end Go.Proofs.Ytocmiloeljjnfaa.Pure
