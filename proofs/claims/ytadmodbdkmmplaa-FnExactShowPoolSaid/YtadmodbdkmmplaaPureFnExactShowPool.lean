/- Proved: the pure statement behind FnExactShowPool: for every pool whose parts can be read the law's Lean function answers true. -/
import Derived.Test.YtadmodbdkmmplaaArgFnExactShowPool
import Derived.Test.YtadmodbdkmmplaaNum
namespace Go.Proofs.Ytadmodbdkmmplaa.Pure
open Go.RowKit Go.Proofs.Ytadmodbdkmmplaa.QFnExactShowPool Go.Proofs.YtadmodbdkmmplaaW.PrintWords Go.Proofs.YtadmodbdkmmplaaW.PrintLast Go.Proofs.YtadmodbdkmmplaaW.PrintMore Go.Proofs.Ytadmodbdkmmplaa.Num
set_option linter.unusedSimpArgs false
set_option linter.unusedVariables false
/-- A loop that fills a slice of `l.length` places. -/
theorem fillLoop {α β : Type} (g : α → β) (l : List α) (hl : l.length ≤ 1048576) (F : Nat → List β → Int → Option (List β)) (K : Nat)
    (stop : ∀ k xs, F (k + 1) xs (l.length : Int) = some xs)
    (step : ∀ k xs (i : Nat) (hi : i < l.length), xs.length = l.length → K ≤ k → F (k + 1) xs i = F k (xs.set i (g l[i])) ((i + 1 : Nat) : Int)) :
    ∀ (d k i : Nat) (xs : List β), l.length - i = d → i ≤ l.length → K + d < k → xs.length = l.length → (∀ j, j < i → xs[j]? = (l.map g)[j]?) → F k xs i = some (l.map g) := by
  intro d
  induction d with
  | zero =>
    intro k i xs hd hi hk hx h
    obtain ⟨k, rfl⟩ : ∃ m, k = m + 1 := ⟨k - 1, by omega⟩
    have e : i = l.length := by omega
    subst e
    rw [stop, prefix_all (l := l.map g) (by simpa using hx) (fun j hj => h j (by simpa using hj))]
  | succ d ih =>
    intro k i xs hd hi hk hx h
    obtain ⟨k, rfl⟩ : ∃ m, k = m + 1 := ⟨k - 1, by omega⟩
    have hil : i < l.length := by omega
    rw [step k xs i hil hx (by omega)]
    refine ih k (i + 1) _ (by omega) (by omega) (by omega) (by simpa using hx) ?_
    have := set_prefix (xs := xs) (l := l.map g) (i := i) (g l[i]) (by simpa using hx) (by simpa using hil) h
    simpa [List.getD, hil] using this
/-- A loop that goes through and answers true. -/
theorem allLoop (n : Nat) (F : Nat → Int → Option Bool) (K : Nat)
    (stop : ∀ k, F (k + 1) (n : Int) = some true)
    (step : ∀ k (i : Nat), i < n → K ≤ k → F (k + 1) i = F k ((i + 1 : Nat) : Int)) :
    ∀ (d k i : Nat), n - i = d → i ≤ n → K + d < k → F k i = some true := by
  intro d
  induction d with
  | zero =>
    intro k i hd hi hk
    obtain ⟨k, rfl⟩ : ∃ m, k = m + 1 := ⟨k - 1, by omega⟩
    have e : i = n := by omega
    subst e
    exact stop k
  | succ d ih =>
    intro k i hd hi hk
    obtain ⟨k, rfl⟩ : ∃ m, k = m + 1 := ⟨k - 1, by omega⟩
    rw [step k i (by omega) (by omega)]
    exact ih k (i + 1) (by omega) (by omega) (by omega)
/-- A loop that takes sizes off `a`. -/
theorem szLoop {α : Type} (P : α → Prop) (l : List α) (F : Nat → Int → Int → Option Int) (K : Nat)
    (stop : ∀ k a, F (k + 1) a (l.length : Int) = some a)
    (step : ∀ k a (i : Nat) (hi : i < l.length), 0 ≤ a → a ≤ 1048576 → K ≤ k → F (k + 1) a i = some (-1) ∨ ∃ r, 0 ≤ r ∧ r ≤ a ∧ P l[i] ∧ F (k + 1) a i = F k r ((i + 1 : Nat) : Int)) :
    ∀ (d k i : Nat) (a : Int), l.length - i = d → i ≤ l.length → K + d < k → 0 ≤ a → a ≤ 1048576 → F k a i = some (-1) ∨ ∃ r, 0 ≤ r ∧ r ≤ a ∧ (∀ j (hj : j < l.length), i ≤ j → P l[j]) ∧ F k a i = some r := by
  intro d
  induction d with
  | zero =>
    intro k i a hd hi hk h0 h1
    obtain ⟨k, rfl⟩ : ∃ m, k = m + 1 := ⟨k - 1, by omega⟩
    have e : i = l.length := by omega
    subst e
    exact .inr ⟨a, h0, Int.le_refl a, fun j hj hij => by omega, stop k a⟩
  | succ d ih =>
    intro k i a hd hi hk h0 h1
    obtain ⟨k, rfl⟩ : ∃ m, k = m + 1 := ⟨k - 1, by omega⟩
    have hil : i < l.length := by omega
    rcases step k a i hil h0 h1 (by omega) with e | ⟨r, r0, r1, hP, e⟩
    · exact .inl e
    · rcases ih k (i + 1) r (by omega) (by omega) (by omega) r0 (by omega) with e2 | ⟨r2, q0, q1, hq, e2⟩
      · exact .inl (e.trans e2)
      · refine .inr ⟨r2, q0, by omega, fun j hj hij => ?_, e.trans e2⟩
        by_cases hji : j = i
        · subst hji; exact hP
        · exact hq j hj (by omega)
theorem getD_get {α : Type} {l : List α} {i : Nat} (h : i < l.length) (z : α) : l.getD ((i : Int)).toNat z = l[i] := by
  simp [List.getD, h]
theorem mem_of_all {α : Type} {P : α → Prop} {l : List α} (h : ∀ j (hj : j < l.length), 0 ≤ j → P l[j]) : ∀ x ∈ l, P x := by
  intro x hx
  obtain ⟨j, hj, rfl⟩ := List.getElem_of_mem hx
  exact h j hj (by omega)
theorem map_same {α β : Type} {f g : α → β} {l : List α} (h : ∀ x ∈ l, f x = g x) : l.map f = l.map g := List.map_congr_left h
theorem szBoolS_eq (l : List Bool) (a : Int) (hl : l.length ≤ 9223372036854775807) (h0 : 0 ≤ a) (h1 : a ≤ 1048576) : laws_szBoolS.f l a = some (if a - l.length < 0 then -1 else a - l.length) := by
  unfold laws_szBoolS.f
  rw [w64 (by omega) (by omega)]
  split <;> rfl
theorem toBoolS_eq (l : List Bool) (k : Nat) (hl : l.length ≤ 1048576) (hk : 1048577 ≤ k) : laws_toBoolS.f k l = some l := by
  unfold laws_toBoolS.f
  rw [if_pos (by omega), toNat_nat, if_pos (by omega)]
  have := fillLoop (fun x : Bool => x) l hl (fun k xs i => laws_toBoolS.l0 k l xs i) 0
    (fun k xs => by simp only [laws_toBoolS.l0]; rw [if_neg (by omega)])
    (fun k xs i hi hx _ => by
      simp only [laws_toBoolS.l0]
      rw [if_pos (by omega), if_pos (by omega), if_pos (by omega), w64s hi hl, toNat_nat]
      unfold rdOf
      rw [getD_get hi])
    l.length k 0 (List.replicate l.length false) (by omega) (by omega) (by omega) (by simp) (fun j hj => by omega)
  simpa using this
theorem eqBoolS_eq (l : List Bool) (k : Nat) (hl : l.length ≤ 1048576) (hk : 1048577 ≤ k) : laws_eqBoolS.f k l l = some true := by
  unfold laws_eqBoolS.f
  rw [if_pos rfl]
  exact allLoop l.length (fun k i => laws_eqBoolS.l0 k l l i) 0
    (fun k => by simp only [laws_eqBoolS.l0]; rw [if_neg (by omega)])
    (fun k i hi _ => by
      simp only [laws_eqBoolS.l0]
      rw [if_pos (by omega), if_pos (by omega), if_pos (by omega), if_neg (by simp), w64s hi hl])
    l.length k 0 (by omega) (by omega) (by omega)
theorem sumz_le {l : List ByteArray} : ∀ x ∈ l, (0 : Int) ≤ x.size := fun _ _ => by omega
theorem szStringS_eq (l : List ByteArray) (a : Int) (hl : l.length ≤ 9223372036854775807) (hs : ∀ x ∈ l, x.size ≤ 9223372036854775807) (h0 : 0 ≤ a) (h1 : a ≤ 1048576) (k : Nat) (hk : 1048577 ≤ k) :
    laws_szStringS.f k l a = some (-1) ∨ ∃ r, 0 ≤ r ∧ r ≤ a ∧ l.length ≤ 1048576 ∧ (∀ x ∈ l, x.size ≤ 1048576) ∧ laws_szStringS.f k l a = some r := by
  unfold laws_szStringS.f
  rw [w64 (by omega) (by omega)]
  by_cases c : a - (l.length : Int) < 0
  · rw [if_pos c]; exact .inl rfl
  · rw [if_neg c]
    have hl' : l.length ≤ 1048576 := by omega
    rcases szLoop (fun x : ByteArray => x.size ≤ 1048576) l (fun k a i => laws_szStringS.l0 k l a i) 0
      (fun k a => by simp only [laws_szStringS.l0]; rw [if_neg (by omega)])
      (fun k a i hi a0 a1 _ => by
        simp only [laws_szStringS.l0]
        rw [if_pos (by omega), if_pos (by omega), w64s hi hl']
        unfold rdOf
        rw [getD_get hi]
        have hb := hs _ (List.getElem_mem hi)
        rw [w64 (by omega) (by omega)]
        by_cases c : a - (l[i].size : Int) < 0
        · left; rw [if_pos c]
        · right
          refine ⟨a - l[i].size, by omega, by omega, by omega, ?_⟩
          rw [if_neg c])
      l.length k 0 (a - l.length) (by omega) (by omega) (by omega) (by omega) (by omega) with e | ⟨r, r0, r1, hP, e⟩
    · exact .inl e
    · exact .inr ⟨r, r0, by omega, hl', mem_of_all hP, e⟩
theorem toStringS_eq (l : List ByteArray) (k : Nat) (hl : l.length ≤ 1048576) (hk : 1048577 ≤ k) : laws_toStringS.f k l = some l := by
  unfold laws_toStringS.f
  rw [if_pos (by omega), toNat_nat, if_pos (by omega)]
  have := fillLoop (fun x : ByteArray => x) l hl (fun k xs i => laws_toStringS.l0 k l xs i) 0
    (fun k xs => by simp only [laws_toStringS.l0]; rw [if_neg (by omega)])
    (fun k xs i hi hx _ => by
      simp only [laws_toStringS.l0]
      rw [if_pos (by omega), if_pos (by omega), if_pos (by omega), w64s hi hl, toNat_nat]
      unfold rdOf
      rw [getD_get hi])
    l.length k 0 (List.replicate l.length (⟨#[]⟩ : ByteArray)) (by omega) (by omega) (by omega) (by simp) (fun j hj => by omega)
  simpa using this
theorem eqStringS_eq (l : List ByteArray) (k : Nat) (hl : l.length ≤ 1048576) (hk : 1048577 ≤ k) : laws_eqStringS.f k l l = some true := by
  unfold laws_eqStringS.f
  rw [if_pos rfl]
  exact allLoop l.length (fun k i => laws_eqStringS.l0 k l l i) 0
    (fun k => by simp only [laws_eqStringS.l0]; rw [if_neg (by omega)])
    (fun k i hi _ => by
      simp only [laws_eqStringS.l0]
      rw [if_pos (by omega), if_pos (by omega), if_pos (by omega), if_pos trivial, w64s hi hl])
    l.length k 0 (by omega) (by omega) (by omega)
def cPV (x : S198) : S151 := ⟨x.f0, x.f1, x.f2⟩
def smallPV (b : List Bool) (t : List ByteArray) : Prop := b.length ≤ 1048576 ∧ t.length ≤ 1048576
theorem szPVol_eq (o : Bool) (b : List Bool) (t : List ByteArray) (a : Int) (hb : b.length ≤ 9223372036854775807) (ht : t.length ≤ 9223372036854775807) (hs : ∀ x ∈ t, x.size ≤ 9223372036854775807) (h0 : 0 ≤ a) (h1 : a ≤ 1048576) (k : Nat) (hk : 1048577 ≤ k) :
    laws_szPVol.f k o b t a = some (-1) ∨ ∃ r, 0 ≤ r ∧ r ≤ a ∧ smallPV b t ∧ laws_szPVol.f k o b t a = some r := by
  unfold laws_szPVol.f
  rw [szBoolS_eq b a hb h0 h1]
  simp only [Option.bind_some]
  by_cases c : a - (b.length : Int) < 0
  · left; simp [c]
  · rw [if_neg c, if_neg c]
    rcases szStringS_eq t (a - b.length) ht hs (by omega) (by omega) k hk with e | ⟨r, r0, r1, hl, _, e⟩
    · left; rw [e]; simp
    · right; refine ⟨r, r0, by omega, ⟨by omega, hl⟩, ?_⟩
      rw [e]; simp only [Option.bind_some]; rw [if_neg (show ¬ r < 0 by omega)]
theorem szPVolS_eq (l : List S198) (a : Int) (hl : l.length ≤ 9223372036854775807) (hq : ∀ x ∈ l, x.f1.length ≤ 9223372036854775807 ∧ x.f2.length ≤ 9223372036854775807 ∧ ∀ t ∈ x.f2, t.size ≤ 9223372036854775807) (h0 : 0 ≤ a) (h1 : a ≤ 1048576) (k : Nat) (hk : 2097157 ≤ k) :
    laws_szPVolS.f k l a = some (-1) ∨ ∃ r, 0 ≤ r ∧ r ≤ a ∧ l.length ≤ 1048576 ∧ (∀ x ∈ l, smallPV x.f1 x.f2) ∧ laws_szPVolS.f k l a = some r := by
  unfold laws_szPVolS.f
  rw [w64 (by omega) (by omega)]
  by_cases c : a - (l.length : Int) < 0
  · rw [if_pos c]; exact .inl rfl
  · rw [if_neg c]
    have hl' : l.length ≤ 1048576 := by omega
    rcases szLoop (fun x : S198 => smallPV x.f1 x.f2) l (fun k a i => laws_szPVolS.l0 k l a i) 1048577
      (fun k a => by simp only [laws_szPVolS.l0]; rw [if_neg (by omega)])
      (fun k a i hi a0 a1 hk => by
        simp only [laws_szPVolS.l0]
        rw [if_pos (by omega), if_pos (by omega), w64s hi hl']
        unfold rd_T198
        rw [getD_get hi]
        obtain ⟨q1, q2, q3⟩ := hq _ (List.getElem_mem hi)
        rcases szPVol_eq l[i].f0 l[i].f1 l[i].f2 a q1 q2 q3 a0 a1 k hk with e | ⟨r, r0, r1, hP, e⟩
        · left; rw [e]; simp
        · right; refine ⟨r, r0, r1, hP, ?_⟩
          rw [e]; simp only [Option.bind_some]; rw [if_neg (show ¬ r < 0 by omega)])
      l.length k 0 (a - l.length) (by omega) (by omega) (by omega) (by omega) (by omega) with e | ⟨r, r0, r1, hP, e⟩
    · exact .inl e
    · exact .inr ⟨r, r0, by omega, hl', mem_of_all hP, e⟩
theorem toPVol_eq (o : Bool) (b : List Bool) (t : List ByteArray) (h : smallPV b t) (k : Nat) (hk : 1048577 ≤ k) : laws_toPVol.f k o b t = some (o, b, t) := by
  unfold laws_toPVol.f
  rw [toBoolS_eq b k h.1 hk, toStringS_eq t k h.2 hk]; rfl
theorem toPVolS_eq (l : List S198) (k : Nat) (hl : l.length ≤ 1048576) (hb : ∀ x ∈ l, smallPV x.f1 x.f2) (hk : 2097157 ≤ k) : laws_toPVolS.f k l = some (l.map cPV) := by
  unfold laws_toPVolS.f
  rw [if_pos (by omega), toNat_nat, if_pos (by omega)]
  exact fillLoop cPV l hl (fun k xs i => laws_toPVolS.l0 k l xs i) 1048577
    (fun k xs => by simp only [laws_toPVolS.l0]; rw [if_neg (by omega)])
    (fun k xs i hi hx hK => by
      simp only [laws_toPVolS.l0]
      rw [if_pos (by omega), if_pos (by omega)]
      unfold rd_T198
      rw [getD_get hi, toPVol_eq _ _ _ (hb _ (List.getElem_mem hi)) k hK]
      simp only [Option.bind_some]
      rw [if_pos (by omega), w64s hi hl, toNat_nat]; rfl)
    l.length k 0 (List.replicate l.length z151) (by omega) (by omega) (by omega) (by simp) (fun j hj => by omega)
theorem eqPVol_eq (o : Bool) (b : List Bool) (t : List ByteArray) (h : smallPV b t) (k : Nat) (hk : 1048577 ≤ k) : laws_eqPVol.f k o b t o b t = some true := by
  unfold laws_eqPVol.f
  rw [eqBoolS_eq b k h.1 hk]
  simp only [Option.bind_some]
  rw [eqStringS_eq t k h.2 hk]
  simp
theorem eqPVolS_eq (l : List S151) (k : Nat) (hl : l.length ≤ 1048576) (hb : ∀ x ∈ l, smallPV x.f1 x.f2) (hk : 2097157 ≤ k) : laws_eqPVolS.f k l l = some true := by
  unfold laws_eqPVolS.f
  rw [if_pos rfl]
  exact allLoop l.length (fun k i => laws_eqPVolS.l0 k l l i) 1048577
    (fun k => by simp only [laws_eqPVolS.l0]; rw [if_neg (by omega)])
    (fun k i hi hK => by
      simp only [laws_eqPVolS.l0]
      rw [if_pos (by omega), if_pos (by omega), if_pos (by omega)]
      unfold rd_T151
      rw [getD_get hi, eqPVol_eq _ _ _ (hb _ (List.getElem_mem hi)) k hK]
      simp only [Option.bind_some, if_true]
      rw [w64s hi hl])
    l.length k 0 (by omega) (by omega) (by omega)
/-- A law's pool: too great, or of small parts; and what is made of it. -/
theorem szPool_eq (l : List S198) (hl : l.length ≤ 9223372036854775807) (hq : ∀ x ∈ l, x.f1.length ≤ 9223372036854775807 ∧ x.f2.length ≤ 9223372036854775807 ∧ ∀ t ∈ x.f2, t.size ≤ 9223372036854775807) (a : Int) (h0 : 0 ≤ a) (h1 : a ≤ 1048576) (k : Nat) (hk : 2097157 ≤ k) :
    laws_szPool.f k l a = some (-1) ∨ ∃ r, 0 ≤ r ∧ r ≤ a ∧ l.length ≤ 1048576 ∧ (∀ x ∈ l, smallPV x.f1 x.f2) ∧ laws_szPool.f k l a = some r := by
  unfold laws_szPool.f
  rcases szPVolS_eq l a hl hq h0 h1 k hk with e | ⟨r, r0, r1, h2, h3, e⟩
  · left; rw [e]; simp
  · right; refine ⟨r, r0, r1, h2, h3, ?_⟩
    rw [e]; simp only [Option.bind_some]; rw [if_neg (show ¬ r < 0 by omega)]
theorem toPool_eq (l : List S198) (k : Nat) (hl : l.length ≤ 1048576) (hb : ∀ x ∈ l, smallPV x.f1 x.f2) (hk : 2097157 ≤ k) : laws_toPool.f k l = some (l.map cPV) := by
  unfold laws_toPool.f
  rw [toPVolS_eq l k hl hb hk]; rfl
theorem eqPool_eq (l : List S198) (k : Nat) (hl : l.length ≤ 1048576) (hb : ∀ x ∈ l, smallPV x.f1 x.f2) (hk : 2097157 ≤ k) : laws_eqPool.f k (l.map cPV) (l.map cPV) = some true := by
  unfold laws_eqPool.f
  rw [eqPVolS_eq _ k (by simpa using hl) (by intro x hx; obtain ⟨y, hy, rfl⟩ := List.mem_map.mp hx; exact hb y hy) hk]
  simp
theorem rd_nat (l : List Int) (i : Nat) : rd l (i : Int) = l.getD i 0 := by unfold rd; rw [toNat_nat]
theorem spec_in_eq (a b c : Int) : spec_l1In.f a b c = some (decide (b ≤ a ∧ a ≤ c)) := by
  unfold spec_l1In.f
  by_cases h : b ≤ a <;> simp [h]
theorem impl_in_eq (a b c : Int) : impl_in.f a b c = some (decide (b ≤ a ∧ a ≤ c)) := by
  unfold impl_in.f
  by_cases h : b ≤ a <;> simp [h]
theorem spec_Var_loop (f : Nat) : ∀ (k : Nat) (n : Int) (xs : List Int), 0 ≤ n → n < 562949953421312 → n < 128 ^ (f + 1) → f < k → xs.length < 1000000 - f → spec_Var.l0 k n xs = some (strOfNums (xs ++ vL f n)) := by
  induction f with
  | zero =>
    intro k n xs h0 h1 h2 hk hx
    obtain ⟨k, rfl⟩ : ∃ m, k = m + 1 := ⟨k - 1, by omega⟩
    simp only [spec_Var.l0]
    rw [if_neg (by omega), if_pos (by omega)]; rfl
  | succ f ih =>
    intro k n xs h0 h1 h2 hk hx
    obtain ⟨k, rfl⟩ : ∃ m, k = m + 1 := ⟨k - 1, by omega⟩
    simp only [spec_Var.l0]
    by_cases h : 128 ≤ n
    · rw [if_pos h, if_pos (by omega), td h0, tm h0, w64 (by omega) (by omega), w64 (by omega) (by omega), ih k (n / 128) _ (by omega) (by omega) (by rw [Int.pow_succ] at h2; omega) (by omega) (by simp; omega)]
      simp only [vL, if_pos h]
      rw [show (128 + n % 128) % 256 = 128 + n % 128 by omega]
      simp
    · rw [if_neg h, if_pos (by omega)]
      simp only [vL, if_neg h]
theorem spec_Var_eq (n : Int) (k : Nat) (hk : 8 ≤ k) : spec_Var.f k n = some (if 0 ≤ n ∧ n ≤ 562949953421311 then strOfNums (vL 6 n) else strOfNums []) := by
  unfold spec_Var.f
  rw [spec_in_eq]
  simp only [Option.bind_some, decide_eq_true_eq]
  by_cases h : 0 ≤ n ∧ n ≤ 562949953421311
  · rw [if_pos h, if_pos h, spec_Var_loop 6 k n [] (by omega) (by omega) (by simp; omega) (by omega) (by simp)]; simp
  · rw [if_neg h, if_neg h]; rfl
theorem impl_Var_loop (f : Nat) : ∀ (k : Nat) (n : Int) (xs : List Int), 0 ≤ n → n < 562949953421312 → n < 128 ^ (f + 1) → f < k → xs.length < 1000000 - f → impl_Var.l0 k n xs = some (strOfNums (xs ++ vL f n)) := by
  induction f with
  | zero =>
    intro k n xs h0 h1 h2 hk hx
    obtain ⟨k, rfl⟩ : ∃ m, k = m + 1 := ⟨k - 1, by omega⟩
    simp only [impl_Var.l0]
    rw [if_neg (by omega), if_pos (by omega)]; rfl
  | succ f ih =>
    intro k n xs h0 h1 h2 hk hx
    obtain ⟨k, rfl⟩ : ∃ m, k = m + 1 := ⟨k - 1, by omega⟩
    simp only [impl_Var.l0]
    by_cases h : 128 ≤ n
    · rw [if_pos h, if_pos (by omega), u8_or_128 (by omega) (by omega), ih k (n / 128) _ (by omega) (by omega) (by rw [Int.pow_succ] at h2; omega) (by omega) (by simp; omega)]
      simp only [vL, if_pos h]
      rw [show 128 + n % 256 % 128 = 128 + n % 128 by omega]
      simp
    · rw [if_neg h, if_pos (by omega)]
      simp only [vL, if_neg h]
theorem impl_Var_eq (n : Int) (k : Nat) (hk : 8 ≤ k) : impl_Var.f k n = some (if 0 ≤ n ∧ n ≤ 562949953421311 then strOfNums (vL 6 n) else strOfNums []) := by
  unfold impl_Var.f
  rw [impl_in_eq]
  simp only [Option.bind_some, decide_eq_true_eq]
  by_cases h : 0 ≤ n ∧ n ≤ 562949953421311
  · rw [if_pos h, if_pos h, impl_Var_loop 6 k n [] (by omega) (by omega) (by simp; omega) (by omega) (by simp)]; simp
  · rw [if_neg h, if_neg h]; rfl
/-- A number's bytes. -/
def varS (n : Int) : ByteArray := if 0 ≤ n ∧ n ≤ 562949953421311 then strOfNums (vL 6 n) else strOfNums []
theorem varS_size (n : Int) : (varS n).size ≤ 7 := by
  unfold varS
  have := vL_len 6 n
  split <;> rw [strOfNums_size]
  · omega
  · simp
theorem varS_pos {n : Int} (h0 : 0 ≤ n) (h1 : n ≤ 562949953421311) : varS n = strOfNums (vL 6 n) := by unfold varS; rw [if_pos ⟨h0, h1⟩]
/-- A loop that tests each element and stops at the first that falls; a round takes c steps. -/
theorem testLoopC {α : Type} (q : α → Bool) (l : List α) (F : Nat → Int → Option Bool) (K c : Nat) (hc : 1 ≤ c)
    (stop : ∀ k, F (k + 1) (l.length : Int) = some true)
    (step : ∀ k (i : Nat) (hi : i < l.length), K ≤ k → F (k + c) i = if q l[i] = true then F k ((i + 1 : Nat) : Int) else some false) :
    ∀ (d k i : Nat), l.length - i = d → i ≤ l.length → K + c * d < k → F k i = some ((l.drop i).all q) := by
  intro d
  induction d with
  | zero =>
    intro k i hd hi hk
    obtain ⟨k, rfl⟩ : ∃ m, k = m + 1 := ⟨k - 1, by omega⟩
    have e : i = l.length := by omega
    subst e
    rw [stop, List.drop_eq_nil_of_le (Nat.le_refl _)]; rfl
  | succ d ih =>
    intro k i hd hi hk
    rw [Nat.mul_succ] at hk
    obtain ⟨k, rfl⟩ : ∃ m, k = m + c := ⟨k - c, by omega⟩
    have hil : i < l.length := by omega
    rw [step k i hil (by omega), List.drop_eq_getElem_cons hil, List.all_cons]
    cases hq : q l[i] with
    | true => rw [if_pos rfl, ih k (i + 1) (by omega) (by omega) (by omega)]; simp
    | false => rw [if_neg (by simp)]; simp
/-- A loop that tests each element and stops at the first that falls. -/
theorem testLoop {α : Type} (q : α → Bool) (l : List α) (F : Nat → Int → Option Bool) (K : Nat)
    (stop : ∀ k, F (k + 1) (l.length : Int) = some true)
    (step : ∀ k (i : Nat) (hi : i < l.length), K ≤ k → F (k + 1) i = if q l[i] = true then F k ((i + 1 : Nat) : Int) else some false) :
    ∀ (d k i : Nat), l.length - i = d → i ≤ l.length → K + d < k → F k i = some ((l.drop i).all q) := by
  intro d
  induction d with
  | zero =>
    intro k i hd hi hk
    obtain ⟨k, rfl⟩ : ∃ m, k = m + 1 := ⟨k - 1, by omega⟩
    have e : i = l.length := by omega
    subst e
    rw [stop, List.drop_eq_nil_of_le (Nat.le_refl _)]; rfl
  | succ d ih =>
    intro k i hd hi hk
    obtain ⟨k, rfl⟩ : ∃ m, k = m + 1 := ⟨k - 1, by omega⟩
    have hil : i < l.length := by omega
    rw [step k i hil (by omega), List.drop_eq_getElem_cons hil, List.all_cons]
    cases hq : q l[i] with
    | true => rw [if_pos rfl, ih k (i + 1) (by omega) (by omega) (by omega)]; simp
    | false => rw [if_neg (by simp)]; simp
theorem getD_get' {α : Type} {l : List α} {i : Nat} (h : i < l.length) (z : α) : l.getD i z = l[i] := by
  simp [List.getD, h]
/-- Is one cell of a pool's volume right? -/
def cellB (o h : Bool) (t : ByteArray) : Bool := (if h = true then o else decide (t.toList = [])) && decide ((t.size : Int) ≤ 16)
/-- Is a pool's volume right? -/
def pvolB (o : Bool) (b : List Bool) (t : List ByteArray) : Bool := decide (b.length = 4) && decide (t.length = 4) && (List.range 4).all fun i => cellB o (b.getD i false) (t.getD i ByteArray.empty)
theorem rng4 (q : Nat → Bool) : (List.range 4).all q = (q 0 && (q 1 && (q 2 && q 3))) := by simp [List.range, List.range.loop]
theorem rdOf_nat {α : Type} (d : α) (l : List α) (i : Nat) : rdOf d l (i : Int) = l.getD i d := by unfold rdOf; rw [Int.toNat_natCast]
theorem spec_cell (L : List S151) (x : Int) (o : Bool) (b : List Bool) (t : List ByteArray) (hb : b.length = 4) (ht : t.length = 4) (k i : Nat) (hi : i < 4) :
    spec_ModelOk.l1 (k + 1) x i L o b t = if cellB o (b.getD i false) (t.getD i ByteArray.empty) = true then spec_ModelOk.l1 k x ((i + 1 : Nat) : Int) L o b t else some false := by
  simp only [spec_ModelOk.l1]
  have hit : (i : Int) < (t.length : Int) := by omega
  rw [if_pos (by omega), if_pos (by omega), if_pos (by omega), rdOf_nat, rdOf_nat, w64s hi (by omega)]
  simp only [if_pos hit]
  generalize b.getD i false = h
  generalize t.getD i ByteArray.empty = s
  unfold cellB
  by_cases c : (s.size : Int) > 16
  · have c' : ¬ ((s.size : Int) ≤ 16) := by omega
    cases h <;> cases o <;> simp [c, c']
  · have c' : (s.size : Int) ≤ 16 := by omega
    cases h <;> cases o <;> simp [c, c']
theorem spec_vol (L : List S151) (k i : Nat) (x : S151) (hL : i < 1048576) (c : Bool) (hc : c = ((x.f2.length : Int) != 4)) (h1 : x.f1.length = 4) :
    spec_ModelOk.j1 (k + 6) i c L x.f0 x.f1 x.f2 = if pvolB x.f0 x.f1 x.f2 = true then spec_ModelOk.l0 k ((i + 1 : Nat) : Int) L else some false := by
  obtain ⟨o, b, t⟩ := x
  simp only at h1 hc ⊢
  subst hc
  unfold pvolB
  by_cases c : t.length = 4
  · have : ((t.length : Int) != 4) = false := by simp; omega
    rw [this, show k + 6 = k + 5 + 1 from rfl]
    simp only [spec_ModelOk.j1, Bool.false_eq_true, if_false]
    rw [decide_eq_true h1, decide_eq_true c, Bool.true_and, Bool.true_and, rng4]
    have e0 := spec_cell L i o b t h1 c (k + 4) 0 (by omega)
    have e1 := spec_cell L i o b t h1 c (k + 3) 1 (by omega)
    have e2 := spec_cell L i o b t h1 c (k + 2) 2 (by omega)
    have e3 := spec_cell L i o b t h1 c (k + 1) 3 (by omega)
    have e4 : spec_ModelOk.l1 (k + 1) i ((3 + 1 : Nat) : Int) L o b t = spec_ModelOk.l0 k ((i + 1 : Nat) : Int) L := by
      simp only [spec_ModelOk.l1]
      rw [if_neg (by omega), w64s hL (by omega)]
    generalize cellB o (b.getD 0 false) (t.getD 0 ByteArray.empty) = q0 at *
    generalize cellB o (b.getD 1 false) (t.getD 1 ByteArray.empty) = q1 at *
    generalize cellB o (b.getD 2 false) (t.getD 2 ByteArray.empty) = q2 at *
    generalize cellB o (b.getD 3 false) (t.getD 3 ByteArray.empty) = q3 at *
    refine Eq.trans e0 ?_
    cases q0 with
    | false => simp
    | true =>
      rw [if_pos rfl]; refine Eq.trans e1 ?_
      cases q1 with
      | false => simp
      | true =>
        rw [if_pos rfl]; refine Eq.trans e2 ?_
        cases q2 with
        | false => simp
        | true =>
          rw [if_pos rfl]; refine Eq.trans e3 ?_
          cases q3 with
          | false => simp
          | true => rw [if_pos rfl]; exact e4
  · have : ((t.length : Int) != 4) = true := by simp; omega
    rw [this, show k + 6 = k + 5 + 1 from rfl]
    simp [spec_ModelOk.j1, c]
/-- Is a pool right? -/
def poolB (l : List S151) : Bool := decide (l.length = 4) && l.all fun x => pvolB x.f0 x.f1 x.f2
theorem spec_Model_eq (l : List S151) (k : Nat) (hk : 100 ≤ k) : spec_ModelOk.f k l = some (poolB l) := by
  unfold spec_ModelOk.f poolB
  by_cases c : l.length = 4
  · rw [if_pos (by omega), decide_eq_true c, Bool.true_and]
    exact testLoopC (fun x : S151 => pvolB x.f0 x.f1 x.f2) l (fun k i => spec_ModelOk.l0 k i l) 0 7 (by omega)
      (fun k => by simp only [spec_ModelOk.l0]; rw [if_neg (by omega)])
      (fun k i hi _ => by
        rw [show k + 7 = k + 6 + 1 from rfl]
        simp only [spec_ModelOk.l0]
        rw [if_pos (by omega), if_pos (by omega)]
        unfold rd_T151
        rw [getD_get hi]
        by_cases h1 : l[i].f1.length = 4
        · rw [if_pos (by omega)]
          exact spec_vol l k i l[i] (by omega) _ rfl h1
        · rw [if_neg (by omega)]
          simp [spec_ModelOk.j1, pvolB, h1])
      l.length k 0 (by omega) (by omega) (by omega)
  · rw [if_neg (by omega), decide_eq_false c, Bool.false_and]
theorem impl_cell (o : Bool) (b : List Bool) (t : List ByteArray) (hb : b.length = 4) (ht : t.length = 4) (k i : Nat) (hi : i < 4) :
    impl_isPVol.l0 (k + 1) b (b.length : Int) i o b t = if cellB o (b.getD i false) (t.getD i ByteArray.empty) = true then impl_isPVol.l0 k b (b.length : Int) ((i + 1 : Nat) : Int) o b t else some false := by
  simp only [impl_isPVol.l0]
  rw [if_pos (by omega), if_pos (by omega), if_pos (by omega), if_pos (by omega), rdOf_nat, rdOf_nat, w64s hi (by omega)]
  generalize b.getD i false = h
  generalize t.getD i ByteArray.empty = s
  unfold cellB
  by_cases c : (s.size : Int) > 16
  · have c' : ¬ ((s.size : Int) ≤ 16) := by omega
    cases h <;> cases o <;> simp [c, c']
  · have c' : (s.size : Int) ≤ 16 := by omega
    cases h <;> cases o <;> simp [c, c']
theorem isPVol_eq (o : Bool) (b : List Bool) (t : List ByteArray) (k : Nat) (hk : 10 ≤ k) : impl_isPVol.f k o b t = some (pvolB o b t) := by
  obtain ⟨k, rfl⟩ : ∃ m, k = m + 6 := ⟨k - 6, by omega⟩
  unfold impl_isPVol.f pvolB
  by_cases h1 : b.length = 4
  · rw [if_pos (by omega), decide_eq_true h1, Bool.true_and]
    by_cases c : t.length = 4
    · have : ((t.length : Int) != 4) = false := by simp; omega
      rw [this, show k + 6 = k + 5 + 1 from rfl]
      simp only [impl_isPVol.j0, Bool.false_eq_true, if_false]
      rw [decide_eq_true c, Bool.true_and, rng4]
      have e0 := impl_cell o b t h1 c (k + 4) 0 (by omega)
      have e1 := impl_cell o b t h1 c (k + 3) 1 (by omega)
      have e2 := impl_cell o b t h1 c (k + 2) 2 (by omega)
      have e3 := impl_cell o b t h1 c (k + 1) 3 (by omega)
      have e4 : impl_isPVol.l0 (k + 1) b (b.length : Int) ((3 + 1 : Nat) : Int) o b t = some true := by
        simp only [impl_isPVol.l0]
        rw [if_neg (by omega)]
      generalize cellB o (b.getD 0 false) (t.getD 0 ByteArray.empty) = q0 at *
      generalize cellB o (b.getD 1 false) (t.getD 1 ByteArray.empty) = q1 at *
      generalize cellB o (b.getD 2 false) (t.getD 2 ByteArray.empty) = q2 at *
      generalize cellB o (b.getD 3 false) (t.getD 3 ByteArray.empty) = q3 at *
      refine Eq.trans e0 ?_
      cases q0 with
      | false => simp
      | true =>
        rw [if_pos rfl]; refine Eq.trans e1 ?_
        cases q1 with
        | false => simp
        | true =>
          rw [if_pos rfl]; refine Eq.trans e2 ?_
          cases q2 with
          | false => simp
          | true =>
            rw [if_pos rfl]; refine Eq.trans e3 ?_
            cases q3 with
            | false => simp
            | true => rw [if_pos rfl]; exact e4
    · have : ((t.length : Int) != 4) = true := by simp; omega
      rw [this, show k + 6 = k + 5 + 1 from rfl]
      simp [impl_isPVol.j0, c]
  · rw [if_neg (by omega), show k + 6 = k + 5 + 1 from rfl]
    simp [impl_isPVol.j0, h1]
theorem any_not {α : Type} (q : α → Bool) (l : List α) : (!(l.any fun x => !q x)) = l.all q := by
  rw [List.not_any_eq_all_not]; simp
theorem isPool_eq (l : List S151) (k : Nat) (hk : 10 ≤ k) : impl_isPool.f k l = some (poolB l) := by
  unfold impl_isPool.f poolB cf_impl_isPool_1.f
  by_cases c : l.length = 4
  · rw [if_pos (by omega), decide_eq_true c, Bool.true_and, Any.anyM_eq (q := fun x : S151 => !pvolB x.f0 x.f1 x.f2) (fun x _ => by unfold impl_isPool_1.f; rw [isPVol_eq _ _ _ k hk]; rfl)]
    simp only [Option.bind_some]
    rw [any_not (fun x : S151 => pvolB x.f0 x.f1 x.f2)]
  · rw [if_neg (by omega), decide_eq_false c, Bool.false_and]
theorem nil_append (s : ByteArray) : strOfNums [] ++ s = s := by rw [← strOfNums_L s, strOfNums_append]; rfl
theorem append_nil_ (s : ByteArray) : s ++ strOfNums [] = s := by rw [← strOfNums_L s, strOfNums_append, List.append_nil]
theorem append_assoc_ (a b c : ByteArray) : a ++ b ++ c = a ++ (b ++ c) := by
  rw [← strOfNums_L a, ← strOfNums_L b, ← strOfNums_L c]
  simp only [strOfNums_append, List.append_assoc]
/-- The texts of the elements, one behind the other. -/
def catS {α : Type} (g : α → ByteArray) : List α → ByteArray
  | [] => strOfNums []
  | x :: l => g x ++ catS g l
theorem catS_size {α : Type} (g : α → ByteArray) (b : Nat) : ∀ l : List α, (∀ x ∈ l, (g x).size ≤ b) → (catS g l).size ≤ b * l.length
  | [], _ => by simp [catS, strOfNums_size]
  | x :: l, h => by
    have := catS_size g b l (fun y hy => h y (by simp [hy]))
    have := h x (by simp)
    unfold catS
    rw [ByteArray.size_append, List.length_cons, Nat.mul_succ]; omega
/-- A loop that writes text after text; a round takes c steps. -/
theorem catLoop {α : Type} (g : α → ByteArray) (l : List α) (b B c : Nat) (hc : 1 ≤ c) (hg : ∀ x ∈ l, (g x).size ≤ b) (hB : B + b * l.length ≤ 1000000) (fin : ByteArray → Option ByteArray) (F : Nat → ByteArray → Int → Option ByteArray) (K : Nat)
    (stop : ∀ k out, K ≤ k → out.size ≤ B + b * l.length → F (k + 1) out (l.length : Int) = fin out)
    (step : ∀ k out (i : Nat) (hi : i < l.length), K ≤ k → out.size ≤ 1000000 → F (k + c) out i = F k (out ++ g l[i]) ((i + 1 : Nat) : Int)) :
    ∀ (d k i : Nat) (out : ByteArray), l.length - i = d → i ≤ l.length → K + c * d < k → out.size ≤ B + b * i → F k out i = fin (out ++ catS g (l.drop i)) := by
  intro d
  induction d with
  | zero =>
    intro k i out hd hi hk ho
    obtain ⟨k, rfl⟩ : ∃ m, k = m + 1 := ⟨k - 1, by omega⟩
    have e : i = l.length := by omega
    subst e
    rw [stop k out (by omega) ho, List.drop_eq_nil_of_le (Nat.le_refl _)]
    unfold catS
    rw [append_nil_]
  | succ d ih =>
    intro k i out hd hi hk ho
    rw [Nat.mul_succ] at hk
    obtain ⟨k, rfl⟩ : ∃ m, k = m + c := ⟨k - c, by omega⟩
    have hil : i < l.length := by omega
    have hv := hg _ (List.getElem_mem hil)
    have hm : b * i ≤ b * l.length := Nat.mul_le_mul_left b hi
    have hs : b * (i + 1) = b * i + b := Nat.mul_succ b i
    rw [step k out i hil (by omega) (by omega), ih k (i + 1) _ (by omega) (by omega) (by omega) (by rw [ByteArray.size_append]; omega), List.drop_eq_getElem_cons hil, append_assoc_]; rfl
def flagS (b : Bool) : ByteArray := varS (if b = true then 1 else 0)
def pieceS (t : ByteArray) : ByteArray := varS t.size ++ t
theorem spec_Var_S (n : Int) (k : Nat) (hk : 8 ≤ k) : spec_Var.f k n = some (varS n) := by unfold varS; exact spec_Var_eq n k hk
theorem impl_Var_S (n : Int) (k : Nat) (hk : 8 ≤ k) : impl_Var.f k n = some (varS n) := by unfold varS; exact impl_Var_eq n k hk
theorem spec_Flag_eq (b : Bool) (k : Nat) (hk : 8 ≤ k) : spec_l4Flag.f k b = some (flagS b) := by
  unfold spec_l4Flag.f flagS
  cases b <;> simp [spec_Var_S _ k hk]
theorem impl_Flag_eq (b : Bool) (k : Nat) (hk : 8 ≤ k) : impl_flagText.f k b = some (flagS b) := by
  unfold impl_flagText.f flagS
  cases b <;> simp [impl_Var_S _ k hk]
theorem spec_Piece_eq (t : ByteArray) (ht : t.size ≤ 1000000) (k : Nat) (hk : 8 ≤ k) : spec_l4Piece.f k t = some (pieceS t) := by
  have := varS_size t.size
  unfold spec_l4Piece.f pieceS
  rw [spec_Var_S _ k hk]
  simp only [Option.bind_some]
  rw [if_pos (by omega)]
theorem impl_Piece_eq (t : ByteArray) (ht : t.size ≤ 1000000) (k : Nat) (hk : 8 ≤ k) : impl_pieceText.f k t = some (pieceS t) := by
  have := varS_size t.size
  unfold impl_pieceText.f pieceS
  rw [impl_Var_S _ k hk]
  simp only [Option.bind_some]
  rw [if_pos (by omega)]
/-- A cell's text. -/
def cellS (h : Bool) (t : ByteArray) : ByteArray := flagS h ++ pieceS t
theorem flagS_size (h : Bool) : (flagS h).size ≤ 7 := by unfold flagS; exact varS_size _
theorem pieceS_size (t : ByteArray) : (pieceS t).size ≤ 7 + t.size := by
  have := varS_size t.size
  unfold pieceS; rw [ByteArray.size_append]; omega
theorem cellS_size (h : Bool) (t : ByteArray) : (cellS h t).size ≤ 14 + t.size := by
  have := flagS_size h
  have := pieceS_size t
  unfold cellS; rw [ByteArray.size_append]; omega
/-- The text of a pool's volume. -/
def pvS (x : S151) : ByteArray :=
  flagS x.f0 ++ (cellS (x.f1.getD 0 false) (x.f2.getD 0 ByteArray.empty) ++ (cellS (x.f1.getD 1 false) (x.f2.getD 1 ByteArray.empty) ++ (cellS (x.f1.getD 2 false) (x.f2.getD 2 ByteArray.empty) ++ cellS (x.f1.getD 3 false) (x.f2.getD 3 ByteArray.empty))))
/-- What a right volume is. -/
structure Right (x : S151) : Prop where
  a : x.f1.length = 4
  b : x.f2.length = 4
  c : ∀ i, (x.f2.getD i ByteArray.empty).size ≤ 16
theorem right_of {x : S151} (h : pvolB x.f0 x.f1 x.f2 = true) : Right x := by
  unfold pvolB at h
  rw [rng4] at h
  simp only [Bool.and_eq_true, decide_eq_true_eq] at h
  obtain ⟨⟨h1, h2⟩, c0, c1, c2, c3⟩ := h
  have hc : ∀ o hh t, cellB o hh t = true → t.size ≤ 16 := by
    intro o hh t h
    unfold cellB at h
    simp only [Bool.and_eq_true, decide_eq_true_eq] at h
    omega
  refine ⟨h1, h2, fun i => ?_⟩
  match i with
  | 0 => exact hc _ _ _ c0
  | 1 => exact hc _ _ _ c1
  | 2 => exact hc _ _ _ c2
  | 3 => exact hc _ _ _ c3
  | i + 4 =>
    simp only [List.getD, List.getElem?_eq_none (show x.f2.length ≤ i + 4 by omega), Option.getD_none]
    show (0 : Nat) ≤ 16
    omega
theorem pvS_size {x : S151} (h : Right x) : (pvS x).size ≤ 127 := by
  have a0 := cellS_size (x.f1.getD 0 false) (x.f2.getD 0 ByteArray.empty)
  have a1 := cellS_size (x.f1.getD 1 false) (x.f2.getD 1 ByteArray.empty)
  have a2 := cellS_size (x.f1.getD 2 false) (x.f2.getD 2 ByteArray.empty)
  have a3 := cellS_size (x.f1.getD 3 false) (x.f2.getD 3 ByteArray.empty)
  have b0 := h.c 0
  have b1 := h.c 1
  have b2 := h.c 2
  have b3 := h.c 3
  have f := flagS_size x.f0
  unfold pvS
  simp only [ByteArray.size_append]
  omega
theorem spec_pcell (L : List S151) (i j : Nat) (out : ByteArray) (hi : i < L.length) (hj : j < 4) (hR : Right L[i]) (ho : out.size ≤ 2000000) (k : Nat) (hk : 8 ≤ k) :
    spec_ShowPool.l1 (k + 1) out i j L = spec_ShowPool.l1 k (out ++ cellS (L[i].f1.getD j false) (L[i].f2.getD j ByteArray.empty)) i ((j + 1 : Nat) : Int) L := by
  have h1 := hR.a
  have h2 := hR.b
  have h3 := hR.c j
  have f := flagS_size (L[i].f1.getD j false)
  have p := pieceS_size (L[i].f2.getD j ByteArray.empty)
  have q1 : (j : Int) < (L[i].f1.length : Int) := by omega
  have q2 : (j : Int) < (L[i].f2.length : Int) := by omega
  simp only [spec_ShowPool.l1]
  unfold rd_T151
  rw [if_pos (by omega), if_pos (by omega), if_pos (by omega), if_pos (by omega), getD_get hi, if_pos q1, rdOf_nat, rdOf_nat, spec_Flag_eq _ k hk]
  simp only [Option.bind_some]
  rw [if_pos (by omega), if_pos q2, spec_Piece_eq _ (by omega) k hk]
  simp only [Option.bind_some]
  rw [if_pos (by rw [ByteArray.size_append]; omega), w64s hj (by omega), append_assoc_]; rfl
theorem impl_pcell (L : List S151) (n i : Int) (j : Nat) (out : ByteArray) (x : S151) (hj : j < 4) (hR : Right x) (ho : out.size ≤ 2000000) (k : Nat) (hk : 8 ≤ k) :
    impl_showPool.l1 (k + 1) out L n i x.f1 (x.f1.length : Int) j x.f0 x.f1 x.f2 = impl_showPool.l1 k (out ++ cellS (x.f1.getD j false) (x.f2.getD j ByteArray.empty)) L n i x.f1 (x.f1.length : Int) ((j + 1 : Nat) : Int) x.f0 x.f1 x.f2 := by
  have h1 := hR.a
  have h2 := hR.b
  have h3 := hR.c j
  have f := flagS_size (x.f1.getD j false)
  have p := pieceS_size (x.f2.getD j ByteArray.empty)
  have q1 : (j : Int) < (x.f1.length : Int) := by omega
  have q2 : (j : Int) < (x.f2.length : Int) := by omega
  simp only [impl_showPool.l1]
  rw [if_pos q1, if_pos (by omega), if_pos q1, rdOf_nat, rdOf_nat, impl_Flag_eq _ k hk]
  simp only [Option.bind_some]
  rw [if_pos q2, impl_Piece_eq _ (by omega) k hk]
  simp only [Option.bind_some]
  rw [if_pos (by omega), if_pos (by rw [ByteArray.size_append]; omega), w64s hj (by omega)]; rfl
/-- A pool's text. -/
def poolS (l : List S151) : ByteArray := if poolB l = true then strOfNums [112] ++ catS pvS l else strOfNums []
theorem poolB_right {l : List S151} (h : poolB l = true) : l.length = 4 ∧ ∀ x ∈ l, Right x := by
  unfold poolB at h
  simp only [Bool.and_eq_true, decide_eq_true_eq, List.all_eq_true] at h
  exact ⟨h.1, fun x hx => right_of (h.2 x hx)⟩
theorem spec_ShowPool_eq (l : List S151) (k : Nat) (hk : 200 ≤ k) : spec_ShowPool.f k l = some (poolS l) := by
  unfold spec_ShowPool.f poolS
  rw [spec_Model_eq l k (by omega)]
  simp only [Option.bind_some]
  cases hp : poolB l with
  | false => simp; rfl
  | true =>
    obtain ⟨hl, hR⟩ := poolB_right hp
    have hm : 1 + 127 * l.length ≤ 1000000 := by omega
    rw [if_pos rfl, if_pos rfl]
    exact catLoop pvS l 127 1 6 (by omega) (fun x hx => pvS_size (hR x hx)) hm (fun out => some out) (fun k out i => spec_ShowPool.l0 k out i l) 20
      (fun k out hk ho => by
        simp only [spec_ShowPool.l0]
        rw [if_neg (by omega)])
      (fun k out i hi hk ho => by
        have hr := hR _ (List.getElem_mem hi)
        have f := flagS_size l[i].f0
        have a0 := cellS_size (l[i].f1.getD 0 false) (l[i].f2.getD 0 ByteArray.empty)
        have a1 := cellS_size (l[i].f1.getD 1 false) (l[i].f2.getD 1 ByteArray.empty)
        have a2 := cellS_size (l[i].f1.getD 2 false) (l[i].f2.getD 2 ByteArray.empty)
        have b0 := hr.c 0
        have b1 := hr.c 1
        have b2 := hr.c 2
        rw [show k + 6 = k + 5 + 1 from rfl]
        simp only [spec_ShowPool.l0]
        rw [if_pos (by omega), if_pos (by omega), if_pos (by omega)]
        unfold rd_T151
        rw [getD_get hi, spec_Flag_eq _ (k + 5) (by omega)]
        simp only [Option.bind_some]
        rw [if_pos (by omega)]
        have s0 : (out ++ flagS l[i].f0).size ≤ 1000007 := by rw [ByteArray.size_append]; omega
        have s1 := fun t : ByteArray => (ByteArray.size_append : (out ++ flagS l[i].f0 ++ t).size = _)
        refine (spec_pcell l i 0 _ hi (by omega) hr (by omega) (k + 4) (by omega)).trans ?_
        refine (spec_pcell l i 1 _ hi (by omega) hr (by rw [ByteArray.size_append]; omega) (k + 3) (by omega)).trans ?_
        refine (spec_pcell l i 2 _ hi (by omega) hr (by rw [ByteArray.size_append, ByteArray.size_append]; omega) (k + 2) (by omega)).trans ?_
        refine (spec_pcell l i 3 _ hi (by omega) hr (by rw [ByteArray.size_append, ByteArray.size_append, ByteArray.size_append]; omega) (k + 1) (by omega)).trans ?_
        simp only [spec_ShowPool.l1]
        rw [if_neg (by omega), w64s hi (by omega)]
        unfold pvS
        simp only [append_assoc_])
      l.length k 0 _ (by omega) (by omega) (by omega) (by show 1 ≤ _; omega)
theorem impl_ShowPool_eq (l : List S151) (k : Nat) (hk : 200 ≤ k) : impl_ShowPool.f k l = some (poolS l) := by
  unfold impl_ShowPool.f impl_showPool.f poolS
  rw [isPool_eq l k (by omega)]
  simp only [Option.bind_some]
  cases hp : poolB l with
  | false => simp; rfl
  | true =>
    obtain ⟨hl, hR⟩ := poolB_right hp
    have hm : 1 + 127 * l.length ≤ 1000000 := by omega
    rw [if_pos rfl, if_pos rfl]
    have := catLoop pvS l 127 1 6 (by omega) (fun x hx => pvS_size (hR x hx)) hm (fun out => some out) (fun k out i => impl_showPool.l0 k out l (l.length : Int) i) 20
      (fun k out hk ho => by
        simp only [impl_showPool.l0]
        rw [if_neg (by omega)])
      (fun k out i hi hk ho => by
        have hr := hR _ (List.getElem_mem hi)
        have f := flagS_size l[i].f0
        have a0 := cellS_size (l[i].f1.getD 0 false) (l[i].f2.getD 0 ByteArray.empty)
        have a1 := cellS_size (l[i].f1.getD 1 false) (l[i].f2.getD 1 ByteArray.empty)
        have a2 := cellS_size (l[i].f1.getD 2 false) (l[i].f2.getD 2 ByteArray.empty)
        have b0 := hr.c 0
        have b1 := hr.c 1
        have b2 := hr.c 2
        have h4 := hr.a
        rw [show k + 6 = k + 5 + 1 from rfl]
        simp only [impl_showPool.l0]
        rw [if_pos (by omega), if_pos (by omega), if_pos (by omega)]
        unfold rd_T151
        rw [getD_get hi, impl_Flag_eq _ (k + 5) (by omega)]
        simp only [Option.bind_some]
        rw [if_pos (by omega)]
        have s0 : (out ++ flagS l[i].f0).size ≤ 1000007 := by rw [ByteArray.size_append]; omega
        refine (impl_pcell l _ i 0 _ l[i] (by omega) hr (by omega) (k + 4) (by omega)).trans ?_
        refine (impl_pcell l _ i 1 _ l[i] (by omega) hr (by rw [ByteArray.size_append]; omega) (k + 3) (by omega)).trans ?_
        refine (impl_pcell l _ i 2 _ l[i] (by omega) hr (by rw [ByteArray.size_append, ByteArray.size_append]; omega) (k + 2) (by omega)).trans ?_
        refine (impl_pcell l _ i 3 _ l[i] (by omega) hr (by rw [ByteArray.size_append, ByteArray.size_append, ByteArray.size_append]; omega) (k + 1) (by omega)).trans ?_
        simp only [impl_showPool.l1]
        rw [h4, if_neg (by omega), w64s hi (by omega)]
        unfold pvS
        simp only [append_assoc_])
      l.length k 0 (strOfNums [112]) (by omega) (by omega) (by omega) (by show 1 ≤ _; omega)
    have e1 : (⟨#[112]⟩ : ByteArray) = strOfNums [112] := rfl
    rw [e1]
    have t : impl_showPool.l0 k (strOfNums [112]) l (l.length : Int) 0 = some (strOfNums [112] ++ catS pvS l) := this
    rw [t]; rfl
theorem FnExactShowPool : laws_FnExactShowPool.Pure := by
  intro l ⟨h1, hq⟩
  refine ⟨2097200, ?_⟩
  unfold laws_FnExactShowPool.f
  unfold maxLen at h1
  generalize hk : 2097200 = k
  have hk1 : 2097200 ≤ k := by omega
  clear hk
  rcases szPool_eq l h1 (fun x hx => by have := hq x hx; unfold q198 at this; unfold maxLen at this; exact ⟨this.2.1.1, this.2.2.1, fun t ht => by have := this.2.2.2 t ht; omega⟩) 1048576 (by omega) (by omega) k (by omega) with e | ⟨r, r0, r1, h2, h3, e⟩
  · rw [e]; simp
  · rw [e]; simp only [Option.bind_some]
    rw [if_neg (show ¬ r < 0 by omega), toPool_eq l k h2 h3 (by omega)]
    simp only [Option.bind_some]
    rw [spec_ShowPool_eq _ k (by omega), impl_ShowPool_eq _ k (by omega), eqPool_eq l k h2 h3 (by omega)]
    simp

end Go.Proofs.Ytadmodbdkmmplaa.Pure
