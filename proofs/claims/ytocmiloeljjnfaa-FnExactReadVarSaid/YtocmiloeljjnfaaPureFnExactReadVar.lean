/- Proved: the pure statement behind FnExactReadVar: for every string of at most 140737488351232 bytes the law's Lean function answers true. -/
import Derived.Test.YtocmiloeljjnfaaPFnExactReadVarx1
import Derived.Test.YtocmiloeljjnfaaNum
namespace Go.Proofs.Ytocmiloeljjnfaa.Pure
open Go.RowKit Go.Proofs.Ytocmiloeljjnfaa.PFnExactReadVar Go.Proofs.YtocmiloeljjnfaaW.PrintWords Go.Proofs.YtocmiloeljjnfaaW.PrintLast Go.Proofs.YtocmiloeljjnfaaW.PrintMore Go.Proofs.Ytocmiloeljjnfaa.Num
/-- What ReadVar answers, from byte i on, all bytes ahead of it being great. -/
def rvL (l : List Int) : Nat → Nat → Int × Int
  | 0, _ => (0, 0)
  | d + 1, i => if i < l.length then (if l.getD i 0 < 128 then (if l.getD i 0 = 0 ∧ 0 < i then (0, 0) else (val (l.take (i + 1)), (i : Int) + 1)) else rvL l d (i + 1)) else (0, 0)
theorem take_snoc_getD (l : List Int) (i : Nat) (h : i < l.length) : l.take (i + 1) = l.take i ++ [l.getD i 0] := by
  rw [List.take_succ_eq_append_getElem h]
  simp [List.getD, List.getElem?_eq_getElem h]
theorem val_take_succ (l : List Int) (i : Nat) (h : i < l.length) : val (l.take (i + 1)) = val (l.take i) + 128 ^ i * (l.getD i 0 % 128) := by
  rw [take_snoc_getD l i h, val_append]
  simp [val, List.length_take, Nat.min_eq_left (Nat.le_of_lt h)]
theorem p128 {n : Nat} (h : n ≤ 7) : (128 : Int) ^ n ≤ 562949953421312 := by
  have : n = 0 ∨ n = 1 ∨ n = 2 ∨ n = 3 ∨ n = 4 ∨ n = 5 ∨ n = 6 ∨ n = 7 := by omega
  rcases this with rfl | rfl | rfl | rfl | rfl | rfl | rfl | rfl <;> decide
theorem val_take_lt (l : List Int) (i : Nat) (h7 : i ≤ 7) : val (l.take i) < 562949953421312 := by
  have h1 := val_lt (l.take i)
  have h2 : (l.take i).length ≤ 7 := Nat.le_trans (List.length_take_le _ _) h7
  exact Int.lt_of_lt_of_le h1 (p128 h2)
theorem two7 (n : Nat) : (2 : Int) ^ (7 * n) = 128 ^ n := by
  induction n with
  | zero => rfl
  | succ n ih => rw [show 7 * (n + 1) = 7 * n + 7 by omega, Int.pow_add, ih, Int.pow_succ]; congr 1
theorem rv_acc (s : ByteArray) (i : Nat) (hi : i < 7) (his : i < s.size) :
    Go.bits .or .i64 (val ((L s).take i)) (shl .i64 (wrap64 (Go.bits .and .u8 (bt s i) 127)) (wrap64 (7 * (i : Int)))) = val ((L s).take (i + 1)) := by
  have hb := bt_range s i
  have hl : i < (L s).length := by rw [L_length]; exact his
  have hn := val_nonneg ((L s).take i)
  have hv := val_lt ((L s).take i)
  rw [List.length_take, Nat.min_eq_left (Nat.le_of_lt hl)] at hv
  have hp := p128 (n := i + 1) (by omega)
  have hp0 : (0 : Int) < 128 ^ i := Int.pow_pos (by decide)
  rw [Int.pow_succ] at hp
  have hm0 : 0 ≤ 128 ^ i * (bt s i % 128) := Int.mul_nonneg (by omega) (by omega)
  have hm1 : 128 ^ i * (bt s i % 128) ≤ 128 ^ i * 127 := Int.mul_le_mul_of_nonneg_left (by omega) (by omega)
  have hsh : shl .i64 (wrap64 (Go.bits .and .u8 (bt s i) 127)) (wrap64 (7 * (i : Int))) = 128 ^ i * (bt s i % 128) := by
    unfold shl
    rw [u8_and127 hb.1 (by omega), w64 (by omega) (by omega), w64 (by omega) (by omega)]
    have : min (7 * (i : Int)).toNat IntKind.i64.bits = 7 * i := by
      have : IntKind.i64.bits = 64 := rfl
      omega
    rw [this, two7, Int.mul_comm]
    exact wraps_i64 _ hm0 (by omega)
  rw [hsh, i64_or_comm, i64_join (7 * i) hm0 (by rw [two7]; exact Int.mul_emod_right _ _) (by omega) hn (by rw [two7]; exact hv) (by omega), val_take_succ _ _ hl, ← show bt s i = (L s).getD i 0 from bt_L s i]
  omega
theorem impl_ReadVar_loop (s : ByteArray) (d : Nat) : ∀ (k i : Nat), i + d = 7 → d < k → impl_ReadVar.l0 k s (val ((L s).take i)) (mn (s.size : Int) 7) i = some (rvL (L s) d i) := by
  induction d with
  | zero =>
    intro k i hi hk
    obtain ⟨k, rfl⟩ : ∃ m, k = m + 1 := ⟨k - 1, by omega⟩
    simp only [impl_ReadVar.l0]
    rw [if_neg (by unfold mn; split <;> omega)]; rfl
  | succ d ih =>
    intro k i hi hk
    obtain ⟨k, rfl⟩ : ∃ m, k = m + 1 := ⟨k - 1, by omega⟩
    simp only [impl_ReadVar.l0, rvL, L_length]
    by_cases his : i < s.size
    · have hb := bt_range s i
      have hm : (i : Int) < mn (s.size : Int) 7 := by unfold mn; split <;> omega
      have hw : wrap64 ((i : Int) + 1) = ((i + 1 : Nat) : Int) := by rw [w64 (by omega) (by omega)]; rfl
      have hlt := val_take_lt (L s) (i + 1) (by omega)
      rw [rv_acc s i (by omega) his, if_pos hm, if_pos (by omega), if_pos (by omega), if_pos (by rw [w64 (by omega) (by omega)]; omega), if_pos his, ← show bt s i = (L s).getD i 0 from bt_L s i]
      by_cases h : bt s i < 128
      · rw [if_pos h, if_pos h]
        have hmax : ¬ val ((L s).take (i + 1)) > 562949953421311 := by omega
        by_cases hz : bt s i = 0
        · rw [if_pos hz]
          by_cases h0 : 0 < i
          · rw [if_pos (by omega), if_pos ⟨hz, h0⟩]
          · rw [if_neg (by omega), if_neg hmax, if_neg (by omega), hw]; rfl
        · rw [if_neg hz, if_neg hmax, if_neg (by omega), hw]; rfl
      · rw [if_neg h, if_neg h, hw]
        exact ih k (i + 1) (by omega) (by omega)
    · rw [if_neg (by unfold mn; split <;> omega), if_neg his]
theorem impl_ReadVar_eq (s : ByteArray) (k : Nat) (hk : 8 ≤ k) : impl_ReadVar.f k s = some (rvL (L s) 7 0) := by
  unfold impl_ReadVar.f
  have := impl_ReadVar_loop s 7 k 0 (by omega) (by omega)
  simpa [val] using this
theorem spec_in_eq (a b c : Int) : spec_l1In.f a b c = some (decide (b ≤ a ∧ a ≤ c)) := by
  unfold spec_l1In.f
  by_cases h : b ≤ a <;> simp [h]
theorem spec_Var_loop (f : Nat) : ∀ (k : Nat) (n : Int) (xs : List Int), 0 ≤ n → n < 562949953421312 → n < 128 ^ (f + 1) → f < k → xs.length < 1000000 - f → spec_Var.l0 k n xs = some (strOfNums (xs ++ vL f n)) := by
  induction f with
  | zero =>
    intro k n xs h0 h1 h2 hk hx
    obtain ⟨k, rfl⟩ : ∃ m, k = m + 1 := ⟨k - 1, by omega⟩
    simp only [spec_Var.l0]
    rw [if_neg (by omega), if_pos (by omega)]; rfl
  | succ f ih =>
    intro k n xs h0 h1 h2 hk hx
    obtain ⟨k, rfl⟩ : ∃ m, k = m + 1 := ⟨k - 1, by omega⟩
    simp only [spec_Var.l0]
    by_cases h : 128 ≤ n
    · rw [if_pos h, if_pos (by omega), td h0, tm h0, w64 (by omega) (by omega), w64 (by omega) (by omega), ih k (n / 128) _ (by omega) (by omega) (by rw [Int.pow_succ] at h2; omega) (by omega) (by simp; omega)]
      simp only [vL, if_pos h]
      rw [show (128 + n % 128) % 256 = 128 + n % 128 by omega]
      simp
    · rw [if_neg h, if_pos (by omega)]
      simp only [vL, if_neg h]
theorem spec_Var_eq (n : Int) (k : Nat) (hk : 8 ≤ k) : spec_Var.f k n = some (if 0 ≤ n ∧ n ≤ 562949953421311 then strOfNums (vL 6 n) else strOfNums []) := by
  unfold spec_Var.f
  rw [spec_in_eq]
  simp only [Option.bind_some, decide_eq_true_eq]
  by_cases h : 0 ≤ n ∧ n ≤ 562949953421311
  · rw [if_pos h, if_pos h, spec_Var_loop 6 k n [] (by omega) (by omega) (by simp; omega) (by omega) (by simp)]; simp
  · rw [if_neg h, if_neg h]; rfl
theorem spec_rv_inner (s : ByteArray) (c q : Nat) (hc7 : c ≤ 7) (hcs : c ≤ s.size) (d : Nat) : ∀ (n x : Int), x = (d : Int) - 1 → d ≤ c → n = val (((L s).take c).drop d) →
    spec_ReadVar.l1 (q + d + 1) s c n x = spec_ReadVar.l1 (q + 1) s c (val ((L s).take c)) (-1) := by
  induction d with
  | zero => intro n x hx hd hn; subst hx; subst hn; simp
  | succ d ih =>
    intro n x hx hd hn
    subst hx; subst hn
    have hl : d < ((L s).take c).length := by rw [List.length_take, L_length]; omega
    have hb := bt_range s (d : Int)
    have hn := val_nonneg (((L s).take c).drop (d + 1))
    have hlt : val (((L s).take c).drop d) < 562949953421312 := by
      have h1 := val_lt (((L s).take c).drop d)
      have h2 : (((L s).take c).drop d).length ≤ 7 := by rw [List.length_drop, List.length_take]; omega
      exact Int.lt_of_lt_of_le h1 (p128 h2)
    have hg : ((L s).take c).drop d = bt s d :: ((L s).take c).drop (d + 1) := by
      rw [List.drop_eq_getElem_cons hl]
      congr 1
      rw [show bt s d = (L s).getD d 0 from bt_L s d, List.getElem_take]
      have hl2 : d < (L s).length := by rw [L_length]; omega
      simp [List.getD, List.getElem?_eq_getElem hl2]
    have hv : val (((L s).take c).drop d) = bt s d % 128 + 128 * val (((L s).take c).drop (d + 1)) := by
      conv => lhs; rw [hg]
      rfl
    obtain ⟨K, hK⟩ : ∃ K, K = q + d + 1 := ⟨_, rfl⟩
    rw [show q + (d + 1) + 1 = K + 1 by omega]
    conv => lhs; simp only [spec_ReadVar.l1]
    rw [show (((d + 1 : Nat) : Int) - 1) = (d : Int) by omega, if_pos (by omega), if_pos (by omega), if_pos (by omega), b64, tm hb.1, w64 (n := val (((L s).take c).drop (d + 1)) * 128) (by omega) (by omega), w64 (by omega) (by omega), w64 (by omega) (by omega)]
    rw [hK]
    exact ih _ _ (by omega) (by omega) (by rw [hv]; omega)
theorem bytes_eq (s : ByteArray) (c f : Nat) (hc : c ≤ s.size) (hf : c ≤ f) : ((strOfNums (vL f (val ((L s).take c)))).toList = (s.extract 0 c).toList) ↔ canon ((L s).take c) = true := by
  rw [toList_inj, ← vL_val f ((L s).take c) ((L_bytes s).take c) (by rw [List.length_take, L_length]; omega)]
  have he : s.extract 0 c = strOfNums ((L s).take c) := by
    apply L_inj
    rw [L_extract, L_strOfNums ((L_bytes s).take c)]; simp
  rw [he]
  constructor
  · intro h
    have := congrArg L h
    rwa [L_strOfNums (vL_bytes _ _), L_strOfNums ((L_bytes s).take c)] at this
  · intro h; rw [h]
theorem spec_rv_step (s : ByteArray) (c q : Nat) (hc1 : 1 ≤ c) (hc7 : c ≤ 7) (hcs : c ≤ s.size) (hq : 8 ≤ q) :
    spec_ReadVar.l0 (q + c + 3) s c = if canon ((L s).take c) = true then some (val ((L s).take c), (c : Int)) else spec_ReadVar.l0 q s ((c + 1 : Nat) : Int) := by
  have hvl := val_take_lt (L s) c hc7
  have hvn := val_nonneg ((L s).take c)
  rw [show q + c + 3 = (q + c + 1) + 1 + 1 by omega]
  conv => lhs; simp only [spec_ReadVar.l0]
  rw [if_pos (by omega), decide_eq_true (by omega : (c : Int) ≤ (s.size : Int))]
  conv => lhs; simp only [spec_ReadVar.j1]
  rw [if_pos trivial, w64 (by omega) (by omega), spec_rv_inner s c q hc7 hcs c 0 ((c : Int) - 1) rfl (Nat.le_refl _) (by
    have : ((L s).take c).drop c = [] := List.drop_eq_nil_of_le (by rw [List.length_take]; omega)
    rw [this]; rfl)]
  conv => lhs; simp only [spec_ReadVar.l1]
  rw [if_neg (by omega), spec_Var_eq _ q hq]
  simp only [Option.bind_some]
  rw [if_pos (⟨hvn, by omega⟩ : 0 ≤ val ((L s).take c) ∧ val ((L s).take c) ≤ 562949953421311), if_pos (by omega), if_pos (by omega), w64 (by omega) (by omega)]
  have he := bytes_eq s c 6
  by_cases h7 : c = 7
  · subst h7
    have hm : vL 6 (val ((L s).take 7)) = vL 7 (val ((L s).take 7)) := (vL_more hvn 6 7 (by simp; omega) (by omega)).symm
    rw [hm]
    have he := bytes_eq s 7 7 hcs (by omega)
    by_cases hcn : canon ((L s).take 7) = true
    · rw [if_pos hcn, if_pos (by simpa using he.mpr hcn)]
    · rw [if_neg hcn, if_neg (by intro hh; exact hcn (he.mp (by simpa using hh)))]; rfl
  · have he := bytes_eq s c 6 hcs (by omega)
    by_cases hcn : canon ((L s).take c) = true
    · rw [if_pos hcn, if_pos (by simpa using he.mpr hcn)]
    · rw [if_neg hcn, if_neg (by intro hh; exact hcn (he.mp (by simpa using hh)))]; rfl
theorem spec_rv_end (s : ByteArray) (c q : Nat) (h : ¬ (c ≤ 7 ∧ c ≤ s.size)) : spec_ReadVar.l0 (q + 2) s c = some (0, 0) := by
  simp only [spec_ReadVar.l0]
  by_cases h7 : c ≤ 7
  · rw [if_pos (by omega), decide_eq_false (by omega)]; simp only [spec_ReadVar.j1]; simp
  · rw [if_neg (by omega)]; simp only [spec_ReadVar.j1]; simp
theorem spec_rv_bad (s : ByteArray) (j : Nat) (hj : (L s).getD j 0 < 128) (d : Nat) : ∀ (k c : Nat), 8 ≤ c + d → j + 1 < c → 12 * d + 8 ≤ k → spec_ReadVar.l0 k s c = some (0, 0) := by
  induction d with
  | zero =>
    intro k c hc hjc hk
    rw [show k = (k - 2) + 2 by omega]
    exact spec_rv_end s c _ (by omega)
  | succ d ih =>
    intro k c hc hjc hk
    by_cases h : c ≤ 7 ∧ c ≤ s.size
    · rw [show k = (k - c - 3) + c + 3 by omega, spec_rv_step s c _ (by omega) h.1 h.2 (by omega)]
      have : canon ((L s).take c) = false := canon_small _ j (by rw [List.length_take, L_length]; omega) (by
        have : ((L s).take c).getD j 0 = (L s).getD j 0 := by simp [List.getD, show j < c by omega]
        rw [this]; exact hj)
      rw [this]
      simp only [Bool.false_eq_true, if_false]
      exact ih _ (c + 1) (by omega) (by omega) (by omega)
    · rw [show k = (k - 2) + 2 by omega]
      exact spec_rv_end s c _ h
theorem spec_ReadVar_loop (s : ByteArray) (d : Nat) : ∀ (k i : Nat), i + d = 7 → 12 * d + 20 ≤ k → (∀ x ∈ (L s).take i, 128 ≤ x) → spec_ReadVar.l0 k s ((i + 1 : Nat) : Int) = some (rvL (L s) d i) := by
  induction d with
  | zero =>
    intro k i hi hk hx
    rw [show k = (k - 2) + 2 by omega]
    exact spec_rv_end s (i + 1) _ (by omega)
  | succ d ih =>
    intro k i hi hk hx
    simp only [rvL, L_length]
    by_cases his : i < s.size
    · have hl : i < (L s).length := by rw [L_length]; exact his
      have hb : 0 ≤ (L s).getD i 0 := by
        have := bt_range s i
        rw [bt_L] at this
        exact this.1
      rw [if_pos his, show k = (k - (i + 1) - 3) + (i + 1) + 3 by omega, spec_rv_step s (i + 1) _ (by omega) (by omega) (by omega) (by omega)]
      have hs : (L s).take (i + 1) = (L s).take i ++ [(L s).getD i 0] := take_snoc_getD _ _ hl
      have hcn : canon ((L s).take (i + 1)) = (decide ((L s).getD i 0 < 128) && (((L s).take i).isEmpty || decide (0 < (L s).getD i 0))) := by
        rw [hs]; exact canon_snoc _ _ hx hb
      have hem : ((L s).take i).isEmpty = decide (i = 0) := by
        cases i with
        | zero => rfl
        | succ i =>
          have : (L s).take (i + 1) ≠ [] := by
            intro h
            have := congrArg List.length h
            rw [List.length_take, List.length_nil] at this
            omega
          cases h : (L s).take (i + 1) with
          | nil => exact absurd h this
          | cons a b => simp
      rw [hcn, hem]
      by_cases h : (L s).getD i 0 < 128
      · rw [if_pos h]
        by_cases hz : (L s).getD i 0 = 0 ∧ 0 < i
        · rw [if_pos hz, if_neg (by simp only [Bool.and_eq_true, Bool.or_eq_true, decide_eq_true_eq]; omega)]
          exact spec_rv_bad s i h d _ (i + 1 + 1) (by omega) (by omega) (by omega)
        · rw [if_neg hz, if_pos (by simp only [Bool.and_eq_true, Bool.or_eq_true, decide_eq_true_eq]; omega)]; rfl
      · rw [if_neg h, if_neg (by simp only [Bool.and_eq_true, Bool.or_eq_true, decide_eq_true_eq]; omega)]
        exact ih _ (i + 1) (by omega) (by omega) (by
          rw [hs]
          intro x hm
          rcases List.mem_append.mp hm with hm | hm
          · exact hx x hm
          · simp only [List.mem_singleton] at hm; omega)
    · rw [if_neg his, show k = (k - 2) + 2 by omega]
      exact spec_rv_end s (i + 1) _ (by omega)
theorem spec_ReadVar_eq (s : ByteArray) (k : Nat) (hk : 104 ≤ k) : spec_ReadVar.f k s = some (rvL (L s) 7 0) := by
  unfold spec_ReadVar.f
  exact spec_ReadVar_loop s 7 k 0 (by omega) (by omega) (by simp)
theorem FnExactReadVar : laws_FnExactReadVar.Pure := by
  intro s _
  refine ⟨104, ?_⟩
  unfold laws_FnExactReadVar.f
  by_cases hs : (s.size : Int) > 1048576
  · rw [if_pos hs]
  · rw [if_neg hs, spec_ReadVar_eq s 104 (by omega), impl_ReadVar_eq s 104 (by omega)]; simp

end Go.Proofs.Ytocmiloeljjnfaa.Pure
