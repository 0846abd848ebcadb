/- Proved: the pure statement behind FnExactDead: for every watch, host and now whose parts can be read the law's Lean function answers true. -/
import Derived.Test.YtccgoaljeeghcaaArgFnExactDead
import Derived.Test.YtccgoaljeeghcaaNum
namespace Go.Proofs.Ytccgoaljeeghcaa.Pure
open Go.RowKit Go.Proofs.Ytccgoaljeeghcaa.QFnExactDead Go.Proofs.YtccgoaljeeghcaaW.PrintWords Go.Proofs.YtccgoaljeeghcaaW.PrintLast Go.Proofs.YtccgoaljeeghcaaW.PrintMore Go.Proofs.Ytccgoaljeeghcaa.Num
set_option linter.unusedSimpArgs false
theorem rd_nat (l : List Int) (i : Nat) : rd l (i : Int) = l.getD i 0 := by unfold rd; rw [toNat_nat]
theorem toIntS_loop (l : List Int) (hl : l.length ≤ 1048576) (d : Nat) : ∀ (k i : Nat) (xs : List Int), l.length - i = d → i ≤ l.length → d < k → xs.length = l.length → (∀ j, j < i → xs[j]? = l[j]?) → laws_toIntS.l0 k l xs i = some l := by
  induction d with
  | zero =>
    intro k i xs hd hi hk hx h
    obtain ⟨k, rfl⟩ : ∃ m, k = m + 1 := ⟨k - 1, by omega⟩
    simp only [laws_toIntS.l0]
    rw [if_neg (by omega), prefix_all hx (fun j hj => h j (by omega))]
  | succ d ih =>
    intro k i xs hd hi hk hx h
    obtain ⟨k, rfl⟩ : ∃ m, k = m + 1 := ⟨k - 1, by omega⟩
    have hil : i < l.length := by omega
    simp only [laws_toIntS.l0]
    rw [if_pos (by omega), if_pos (by omega), if_pos (by omega), toNat_nat, rd_nat, w64s hil hl]
    exact ih k (i + 1) _ (by omega) (by omega) (by omega) (by simpa using hx) (set_prefix 0 hx hil h)
theorem toIntS_eq (l : List Int) (k : Nat) (hl : l.length ≤ 1048576) (hk : 1048577 ≤ k) : laws_toIntS.f k l = some l := by
  unfold laws_toIntS.f
  rw [if_pos (by omega), toNat_nat, if_pos (by omega)]
  exact toIntS_loop l hl l.length k 0 _ (by omega) (by omega) (by omega) (by simp) (fun j hj => by omega)
theorem eqIntS_loop (l : List Int) (hl : l.length ≤ 1048576) (d : Nat) : ∀ (k i : Nat), l.length - i = d → i ≤ l.length → d < k → laws_eqIntS.l0 k l l i = some true := by
  induction d with
  | zero =>
    intro k i hd hi hk
    obtain ⟨k, rfl⟩ : ∃ m, k = m + 1 := ⟨k - 1, by omega⟩
    simp only [laws_eqIntS.l0]
    rw [if_neg (by omega)]
  | succ d ih =>
    intro k i hd hi hk
    obtain ⟨k, rfl⟩ : ∃ m, k = m + 1 := ⟨k - 1, by omega⟩
    simp only [laws_eqIntS.l0]
    rw [if_pos (by omega), if_pos (by omega), if_pos (by omega), if_pos trivial, w64s (show i < l.length by omega) hl]
    exact ih k (i + 1) (by omega) (by omega) (by omega)
theorem eqIntS_eq (l : List Int) (k : Nat) (hl : l.length ≤ 1048576) (hk : 1048577 ≤ k) : laws_eqIntS.f k l l = some true := by
  unfold laws_eqIntS.f
  rw [if_pos rfl]
  exact eqIntS_loop l hl l.length k 0 (by omega) (by omega) (by omega)
theorem szIntS_eq (l : List Int) (a : Int) (hl : l.length ≤ 9223372036854775807) (h0 : 0 ≤ a) (h1 : a ≤ 1048576) : laws_szIntS.f l a = some (if a - l.length < 0 then -1 else a - l.length) := by
  unfold laws_szIntS.f
  rw [w64 (by omega) (by omega)]
  split <;> rfl
theorem spec_in_eq (a b c : Int) : spec_l1In.f a b c = some (decide (b ≤ a ∧ a ≤ c)) := by
  unfold spec_l1In.f
  by_cases h : b ≤ a <;> simp [h]
theorem szWatch_eq (a : Int) (l1 l2 : List Int) (h1 : l1.length ≤ 9223372036854775807) (h2 : l2.length ≤ 9223372036854775807) :
    (∃ r : Int, r < 0 ∧ laws_szWatch.f a l1 l2 1048576 = some r) ∨ (∃ r : Int, 0 ≤ r ∧ laws_szWatch.f a l1 l2 1048576 = some r ∧ l1.length ≤ 1048576 ∧ l2.length ≤ 1048576) := by
  unfold laws_szWatch.f
  rw [szIntS_eq l1 1048576 h1 (by omega) (by omega)]
  simp only [Option.bind_some]
  by_cases c1 : (1048576 : Int) - l1.length < 0
  · rw [if_pos c1]; exact .inl ⟨-1, by omega, by simp⟩
  · rw [if_neg c1, if_neg c1, szIntS_eq l2 _ h2 (by omega) (by omega)]
    simp only [Option.bind_some]
    by_cases c2 : (1048576 : Int) - l1.length - l2.length < 0
    · rw [if_pos c2]; exact .inl ⟨-1, by omega, by simp⟩
    · rw [if_neg c2, if_neg c2]; exact .inr ⟨_, by omega, rfl, by omega, by omega⟩
theorem toWatch_eq (a : Int) (l1 l2 : List Int) (k : Nat) (h1 : l1.length ≤ 1048576) (h2 : l2.length ≤ 1048576) (hk : 1048577 ≤ k) : laws_toWatch.f k a l1 l2 = some (a, l1, l2) := by
  unfold laws_toWatch.f
  rw [toIntS_eq l1 k h1 hk, toIntS_eq l2 k h2 hk]; rfl
theorem eqWatch_eq (a : Int) (l1 l2 : List Int) (k : Nat) (h1 : l1.length ≤ 1048576) (h2 : l2.length ≤ 1048576) (hk : 1048577 ≤ k) : laws_eqWatch.f k a l1 l2 a l1 l2 = some true := by
  unfold laws_eqWatch.f
  rw [if_pos rfl, eqIntS_eq l1 k h1 hk, eqIntS_eq l2 k h2 hk]; rfl
theorem three {α : Type} {l : List α} (h : l.length = 3) : ∃ a b c, l = [a, b, c] := by
  match l, h with
  | [a, b, c], _ => exact ⟨a, b, c, rfl⟩
theorem spec_WatchOk_eq (a : Int) (l1 l2 : List Int) (k : Nat) (hk : 10 ≤ k) : spec_WatchOk.f k a l1 l2 = impl_isWatch.f a l1 l2 := by
  obtain ⟨k, rfl⟩ : ∃ m, k = m + 5 := ⟨k - 5, by omega⟩
  unfold spec_WatchOk.f impl_isWatch.f Any.inB
  simp only [spec_in_eq, Option.bind_some, decide_eq_true_eq]
  by_cases h0 : 0 ≤ a ∧ a ≤ 1000000
  · simp only [if_pos h0]
    by_cases h1 : l1.length = 3
    · rw [if_pos (by omega)]
      by_cases h2 : l2.length = 3
      · obtain ⟨x, y, z, rfl⟩ := three h1
        obtain ⟨u, v, w, rfl⟩ := three h2
        have e0 : wrap64 1 = 1 := w64 (by omega) (by omega)
        have e1 : wrap64 2 = 2 := w64 (by omega) (by omega)
        have e2 : wrap64 3 = 3 := w64 (by omega) (by omega)
        simp [spec_WatchOk.j0, spec_WatchOk.l0, spec_in_eq, rd, e0, e1, e2]
        repeat' split
        all_goals simp_all
        all_goals omega
      · have : ((l2.length : Int) != 3) = true := by simp; omega
        rw [this]
        simp [spec_WatchOk.j0, h2]
    · rw [if_neg (by omega)]
      simp [spec_WatchOk.j0, h1]
  · simp only [if_neg h0]
    simp [spec_WatchOk.j0]
    intro p q
    omega
theorem impl_in_eq (a b c : Int) : impl_in.f a b c = some (decide (b ≤ a ∧ a ≤ c)) := by
  unfold impl_in.f
  by_cases h : b ≤ a <;> simp [h]
theorem l3Host_eq (a : Int) : spec_l3Host.f a = some (decide (0 ≤ a ∧ a < 3)) := by
  unfold spec_l3Host.f
  by_cases h : a ≥ 0
  · rw [if_pos h]; simp; omega
  · rw [if_neg h]; simp; omega
theorem isHost_eq (a : Int) : impl_isHost.f a = some (decide (0 ≤ a ∧ a < 3)) := by
  unfold impl_isHost.f
  rw [impl_in_eq]; simp only [Option.bind_some, Option.some.injEq, decide_eq_decide]; omega
theorem isWatch_len {a : Int} {l1 l2 : List Int} (h : impl_isWatch.f a l1 l2 = some true) : l2.length = 3 := by
  unfold impl_isWatch.f at h
  simp at h
  exact h.1.1.2
theorem dead_same (a : Int) (l1 l2 : List Int) (h n : Int) (k : Nat) (hk : 10 ≤ k) : ∃ b, spec_Dead.f k a l1 l2 h n = some b ∧ impl_Dead.f a l1 l2 h n = some b := by
  unfold spec_Dead.f impl_Dead.f
  rw [spec_WatchOk_eq a l1 l2 k hk, l3Host_eq, isHost_eq]
  obtain ⟨b, hb⟩ : ∃ b, impl_isWatch.f a l1 l2 = some b := ⟨_, rfl⟩
  rw [hb]
  simp only [Option.bind_some]
  cases b with
  | false => exact ⟨false, by simp, by simp⟩
  | true =>
    have hl := isWatch_len hb
    by_cases c : 0 ≤ h ∧ h < 3
    · by_cases d : n ≥ 0
      · refine ⟨decide (wrap64 (a - rd l2 h) > n), ?_, ?_⟩
        · rw [if_pos rfl, if_pos (by simpa using c), if_pos d, if_pos c.1, if_pos (by omega)]
        · rw [if_pos rfl, if_pos (by simpa using c), if_pos d, if_pos c.1, if_pos (by omega)]
      · exact ⟨false, by simp [d], by simp [d]⟩
    · exact ⟨false, by simp [c], by simp [c]⟩
theorem FnExactDead : laws_FnExactDead.Pure := by
  intro a l1 l2 h n _ ⟨h1, _⟩ ⟨h2, _⟩ _ _
  refine ⟨1048577, ?_⟩
  unfold laws_FnExactDead.f
  unfold maxLen at h1 h2
  rcases szWatch_eq a l1 l2 h1 h2 with ⟨r, hr, e⟩ | ⟨r, hr, e, g1, g2⟩
  · rw [e]; simp only [Option.bind_some]; rw [if_pos hr]
  · rw [e]; simp only [Option.bind_some]
    rw [if_neg (by omega), toWatch_eq a l1 l2 _ g1 g2 (by omega)]
    simp only [Option.bind_some]
    obtain ⟨b, e1, e2⟩ := dead_same a l1 l2 h n 1048577 (by omega)
    rw [e1]; simp only [Option.bind_some]
    rw [e2]; simp only [Option.bind_some]
    rw [eqWatch_eq a l1 l2 _ g1 g2 (by omega)]
    simp

end Go.Proofs.Ytccgoaljeeghcaa.Pure
