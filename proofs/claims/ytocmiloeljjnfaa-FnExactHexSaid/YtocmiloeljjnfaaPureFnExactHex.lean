/- Proved: the pure statement behind FnExactHex: for every string of at most 140737488351232 bytes the law's Lean function answers true. -/
import Derived.Test.YtocmiloeljjnfaaPFnExactHexx1
import Derived.Test.YtocmiloeljjnfaaNum
namespace Go.Proofs.Ytocmiloeljjnfaa.Pure
open Go.RowKit Go.Proofs.Ytocmiloeljjnfaa.PFnExactHex Go.Proofs.YtocmiloeljjnfaaW.PrintWords Go.Proofs.YtocmiloeljjnfaaW.PrintLast Go.Proofs.Ytocmiloeljjnfaa.Num

theorem hex_digit {n : Int} (h0 : 0 ≤ n) (h1 : n < 16) : spec_l1Digit.f n = some (bt (⟨#[48, 49, 50, 51, 52, 53, 54, 55, 56, 57, 97, 98, 99, 100, 101, 102]⟩ : ByteArray) n) := by
  unfold spec_l1Digit.f; rw [if_pos h0, if_pos h1]

theorem hex_loop (s : ByteArray) (hs : s.size ≤ 1048576) (d : Nat) : ∀ (k : Nat) (i : Int) (xs : List Int), (s.size : Int) - i = d → 0 ≤ i → d < k → (xs.length : Int) ≤ 2 * i →
    ∃ r, spec_Hex.l0 k s xs i = some r ∧ impl_Hex.l0 k s xs s.size i = some r := by
  induction d with
  | zero =>
    intro k i xs hd h0 hk hx
    obtain ⟨k, rfl⟩ : ∃ m, k = m + 1 := ⟨k - 1, by omega⟩
    refine ⟨strOfNums xs, ?_, ?_⟩
    · simp only [spec_Hex.l0]; rw [if_neg (by omega)]
    · simp only [impl_Hex.l0]; rw [if_neg (by omega)]
  | succ d ih =>
    intro k i xs hd h0 hk hx
    obtain ⟨k, rfl⟩ : ∃ m, k = m + 1 := ⟨k - 1, by omega⟩
    have hb := bt_range s i
    have hlt : i < (s.size : Int) := by omega
    have hw : wrap64 (i + 1) = i + 1 := w64 (by omega) (by omega)
    obtain ⟨r, h1, h2⟩ := ih k (i + 1) (xs ++ [bt (⟨#[48, 49, 50, 51, 52, 53, 54, 55, 56, 57, 97, 98, 99, 100, 101, 102]⟩ : ByteArray) (bt s i / 16), bt (⟨#[48, 49, 50, 51, 52, 53, 54, 55, 56, 57, 97, 98, 99, 100, 101, 102]⟩ : ByteArray) (bt s i % 16)])
      (by omega) (by omega) (by omega) (by simp; omega)
    refine ⟨r, ?_, ?_⟩
    · simp only [spec_Hex.l0]
      rw [if_pos hlt, if_pos h0, b64, td hb.1, tm hb.1, w64 (by omega) (by omega), hex_digit (by omega) (by omega), hex_digit (by omega) (by omega)]
      simp only [Option.bind_some]
      rw [if_pos (by simp; omega), hw]; exact h1
    · simp only [impl_Hex.l0]
      rw [u8_and15 _ hb.1 (by omega), if_pos hlt, if_pos h0, if_pos hlt, if_pos (by omega), if_pos (by omega), if_pos (by omega), if_pos (by omega)]
      simp only [Option.bind_some]
      rw [if_pos (by simp; omega), hw]; exact h2

theorem FnExactHex : laws_FnExactHex.Pure := by
  intro s _
  by_cases hs : (s.size : Int) > 1048576
  · exact ⟨0, by unfold laws_FnExactHex.f; rw [if_pos hs]⟩
  · obtain ⟨r, h1, h2⟩ := hex_loop s (by omega) s.size (s.size + 1) 0 [] (by omega) (by omega) (by omega) (by simp)
    refine ⟨s.size + 1, ?_⟩
    unfold laws_FnExactHex.f spec_Hex.f impl_Hex.f
    rw [if_neg hs, h1, h2]; simp

end Go.Proofs.Ytocmiloeljjnfaa.Pure
