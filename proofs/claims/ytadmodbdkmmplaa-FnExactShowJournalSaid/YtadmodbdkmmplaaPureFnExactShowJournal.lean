/- Proved: the pure statement behind FnExactShowJournal: for every journal whose parts can be read the law's Lean function answers true. -/
import Derived.Test.YtadmodbdkmmplaaArgFnExactShowJournal
import Derived.Test.YtadmodbdkmmplaaNum
namespace Go.Proofs.Ytadmodbdkmmplaa.Pure
open Go.RowKit Go.Proofs.Ytadmodbdkmmplaa.QFnExactShowJournal Go.Proofs.YtadmodbdkmmplaaW.PrintWords Go.Proofs.YtadmodbdkmmplaaW.PrintLast Go.Proofs.YtadmodbdkmmplaaW.PrintMore Go.Proofs.Ytadmodbdkmmplaa.Num
set_option linter.unusedSimpArgs false
set_option linter.unusedVariables false
theorem rd_nat (l : List Int) (i : Nat) : rd l (i : Int) = l.getD i 0 := by unfold rd; rw [toNat_nat]
/-- A loop that fills a slice of `l.length` places. -/
theorem fillLoop {α β : Type} (g : α → β) (l : List α) (hl : l.length ≤ 1048576) (F : Nat → List β → Int → Option (List β)) (K : Nat)
    (stop : ∀ k xs, F (k + 1) xs (l.length : Int) = some xs)
    (step : ∀ k xs (i : Nat) (hi : i < l.length), xs.length = l.length → K ≤ k → F (k + 1) xs i = F k (xs.set i (g l[i])) ((i + 1 : Nat) : Int)) :
    ∀ (d k i : Nat) (xs : List β), l.length - i = d → i ≤ l.length → K + d < k → xs.length = l.length → (∀ j, j < i → xs[j]? = (l.map g)[j]?) → F k xs i = some (l.map g) := by
  intro d
  induction d with
  | zero =>
    intro k i xs hd hi hk hx h
    obtain ⟨k, rfl⟩ : ∃ m, k = m + 1 := ⟨k - 1, by omega⟩
    have e : i = l.length := by omega
    subst e
    rw [stop, prefix_all (l := l.map g) (by simpa using hx) (fun j hj => h j (by simpa using hj))]
  | succ d ih =>
    intro k i xs hd hi hk hx h
    obtain ⟨k, rfl⟩ : ∃ m, k = m + 1 := ⟨k - 1, by omega⟩
    have hil : i < l.length := by omega
    rw [step k xs i hil hx (by omega)]
    refine ih k (i + 1) _ (by omega) (by omega) (by omega) (by simpa using hx) ?_
    have := set_prefix (xs := xs) (l := l.map g) (i := i) (g l[i]) (by simpa using hx) (by simpa using hil) h
    simpa [List.getD, hil] using this
/-- A loop that goes through and answers true. -/
theorem allLoop (n : Nat) (F : Nat → Int → Option Bool) (K : Nat)
    (stop : ∀ k, F (k + 1) (n : Int) = some true)
    (step : ∀ k (i : Nat), i < n → K ≤ k → F (k + 1) i = F k ((i + 1 : Nat) : Int)) :
    ∀ (d k i : Nat), n - i = d → i ≤ n → K + d < k → F k i = some true := by
  intro d
  induction d with
  | zero =>
    intro k i hd hi hk
    obtain ⟨k, rfl⟩ : ∃ m, k = m + 1 := ⟨k - 1, by omega⟩
    have e : i = n := by omega
    subst e
    exact stop k
  | succ d ih =>
    intro k i hd hi hk
    obtain ⟨k, rfl⟩ : ∃ m, k = m + 1 := ⟨k - 1, by omega⟩
    rw [step k i (by omega) (by omega)]
    exact ih k (i + 1) (by omega) (by omega) (by omega)
/-- A loop that takes sizes off `a`. -/
theorem szLoop {α : Type} (P : α → Prop) (l : List α) (F : Nat → Int → Int → Option Int) (K : Nat)
    (stop : ∀ k a, F (k + 1) a (l.length : Int) = some a)
    (step : ∀ k a (i : Nat) (hi : i < l.length), 0 ≤ a → a ≤ 1048576 → K ≤ k → F (k + 1) a i = some (-1) ∨ ∃ r, 0 ≤ r ∧ r ≤ a ∧ P l[i] ∧ F (k + 1) a i = F k r ((i + 1 : Nat) : Int)) :
    ∀ (d k i : Nat) (a : Int), l.length - i = d → i ≤ l.length → K + d < k → 0 ≤ a → a ≤ 1048576 → F k a i = some (-1) ∨ ∃ r, 0 ≤ r ∧ r ≤ a ∧ (∀ j (hj : j < l.length), i ≤ j → P l[j]) ∧ F k a i = some r := by
  intro d
  induction d with
  | zero =>
    intro k i a hd hi hk h0 h1
    obtain ⟨k, rfl⟩ : ∃ m, k = m + 1 := ⟨k - 1, by omega⟩
    have e : i = l.length := by omega
    subst e
    exact .inr ⟨a, h0, Int.le_refl a, fun j hj hij => by omega, stop k a⟩
  | succ d ih =>
    intro k i a hd hi hk h0 h1
    obtain ⟨k, rfl⟩ : ∃ m, k = m + 1 := ⟨k - 1, by omega⟩
    have hil : i < l.length := by omega
    rcases step k a i hil h0 h1 (by omega) with e | ⟨r, r0, r1, hP, e⟩
    · exact .inl e
    · rcases ih k (i + 1) r (by omega) (by omega) (by omega) r0 (by omega) with e2 | ⟨r2, q0, q1, hq, e2⟩
      · exact .inl (e.trans e2)
      · refine .inr ⟨r2, q0, by omega, fun j hj hij => ?_, e.trans e2⟩
        by_cases hji : j = i
        · subst hji; exact hP
        · exact hq j hj (by omega)
theorem getD_get {α : Type} {l : List α} {i : Nat} (h : i < l.length) (z : α) : l.getD ((i : Int)).toNat z = l[i] := by
  simp [List.getD, h]
theorem mem_of_all {α : Type} {P : α → Prop} {l : List α} (h : ∀ j (hj : j < l.length), 0 ≤ j → P l[j]) : ∀ x ∈ l, P x := by
  intro x hx
  obtain ⟨j, hj, rfl⟩ := List.getElem_of_mem hx
  exact h j hj (by omega)
theorem map_same {α β : Type} {f g : α → β} {l : List α} (h : ∀ x ∈ l, f x = g x) : l.map f = l.map g := List.map_congr_left h
theorem spec_in_eq (a b c : Int) : spec_l1In.f a b c = some (decide (b ≤ a ∧ a ≤ c)) := by
  unfold spec_l1In.f
  by_cases h : b ≤ a <;> simp [h]
theorem impl_in_eq (a b c : Int) : impl_in.f a b c = some (decide (b ≤ a ∧ a ≤ c)) := by
  unfold impl_in.f
  by_cases h : b ≤ a <;> simp [h]
/-- A loop that tests each element and stops at the first that falls. -/
theorem testLoop {α : Type} (q : α → Bool) (l : List α) (F : Nat → Int → Option Bool) (K : Nat)
    (stop : ∀ k, F (k + 1) (l.length : Int) = some true)
    (step : ∀ k (i : Nat) (hi : i < l.length), K ≤ k → F (k + 1) i = if q l[i] = true then F k ((i + 1 : Nat) : Int) else some false) :
    ∀ (d k i : Nat), l.length - i = d → i ≤ l.length → K + d < k → F k i = some ((l.drop i).all q) := by
  intro d
  induction d with
  | zero =>
    intro k i hd hi hk
    obtain ⟨k, rfl⟩ : ∃ m, k = m + 1 := ⟨k - 1, by omega⟩
    have e : i = l.length := by omega
    subst e
    rw [stop, List.drop_eq_nil_of_le (Nat.le_refl _)]; rfl
  | succ d ih =>
    intro k i hd hi hk
    obtain ⟨k, rfl⟩ : ∃ m, k = m + 1 := ⟨k - 1, by omega⟩
    have hil : i < l.length := by omega
    rw [step k i hil (by omega), List.drop_eq_getElem_cons hil, List.all_cons]
    cases hq : q l[i] with
    | true => rw [if_pos rfl, ih k (i + 1) (by omega) (by omega) (by omega)]; simp
    | false => rw [if_neg (by simp)]; simp
theorem getD_get' {α : Type} {l : List α} {i : Nat} (h : i < l.length) (z : α) : l.getD i z = l[i] := by
  simp [List.getD, h]
/-- Is an operation in a journal right? -/
def jopB (k v b h : Int) (t : ByteArray) : Bool := Any.inB k 1 20 && Any.inB v 0 99 && Any.inB b 0 99 && Any.inB h 0 99 && decide ((t.size : Int) ≤ 16)
/-- Is the journal's out at place i right? -/
def outB (L : List S165) (i : Nat) : Bool :=
  Any.inB (L.getD i z165).f0 0 33 && (decide (i = 0) || decide ((L.getD (i - 1) z165).f0 < (L.getD i z165).f0)) && decide (((L.getD i z165).f1.size : Int) ≤ 60)
/-- Is a journal right? -/
def journalB (n : Int) (d : Bool) (k v b h : Int) (t : ByteArray) (L : List S165) : Bool :=
  Any.inB n 0 1000000 && (if d = true then ((k == 0 && (v == 0 && (b == 0 && (h == 0 && (t.toList == ([] : List UInt8)))))) && decide (L.length = 0))
    else decide (1 ≤ n) && jopB k v b h t && Any.inB L.length 1 8 && (List.range L.length).all (outB L))
theorem spec_in_B (a b c : Int) : spec_l1In.f a b c = some (Any.inB a b c) := by
  rw [spec_in_eq]; simp [Any.inB]
theorem impl_in_B (a b c : Int) : impl_in.f a b c = some (Any.inB a b c) := by
  rw [impl_in_eq]; simp [Any.inB]
theorem spec_Op_eq (k v b h : Int) (t : ByteArray) : spec_l4OpOk.f k v b h t = some (jopB k v b h t) := by
  unfold spec_l4OpOk.f jopB
  simp only [spec_in_B, Option.bind_some]
  cases Any.inB k 1 20 <;> cases Any.inB v 0 99 <;> cases Any.inB b 0 99 <;> cases Any.inB h 0 99 <;> simp
theorem len0 {α : Type} (L : List α) : ((L.length : Int) == 0) = decide (L.length = 0) := by
  by_cases c : L.length = 0
  · simp [c]
  · rw [decide_eq_false c]; simp; intro h; exact c (by simp [h])
theorem wm1 {i : Nat} (h0 : 0 < i) (h1 : i ≤ 1048576) : wrap64 ((i : Int) - 1) = ((i - 1 : Nat) : Int) := by rw [w64 (by omega) (by omega)]; omega
theorem spec_out (L : List S165) (hL : L.length ≤ 8) (n : Int) (d : Bool) (x v b h : Int) (t : ByteArray) (k i : Nat) (hi : i < L.length) :
    spec_l4JournalOk.l0 (k + 1) i n d x v b h t L = if outB L i = true then spec_l4JournalOk.l0 k ((i + 1 : Nat) : Int) n d x v b h t L else some false := by
  simp only [spec_l4JournalOk.l0]
  rw [if_pos (by omega), if_pos (by omega), spec_in_B, w64s hi (by omega)]
  simp only [Option.bind_some]
  have e : ∀ j : Nat, rd_T165 L (j : Int) = L.getD j z165 := fun j => by unfold rd_T165; rw [Int.toNat_natCast]
  rw [e i]
  unfold outB
  by_cases h0 : i = 0
  · subst h0
    rw [if_neg (show ¬ ((0 : Nat) : Int) > 0 by omega)]
    generalize L.getD 0 z165 = y
    cases Any.inB y.f0 0 33 with
    | false => simp
    | true =>
      by_cases c : (y.f1.size : Int) > 60
      · simp [c, show ¬ ((y.f1.size : Int) ≤ 60) by omega]
      · simp [c, show ((y.f1.size : Int) ≤ 60) by omega]
  · have hw := wm1 (show 0 < i by omega) (show i ≤ 1048576 by omega)
    rw [if_pos (show (i : Int) > 0 by omega), hw, if_pos (show (0 : Int) ≤ ((i - 1 : Nat) : Int) by omega), if_pos (show ((i - 1 : Nat) : Int) < (L.length : Int) by omega), e (i - 1)]
    generalize L.getD i z165 = y
    generalize L.getD (i - 1) z165 = y'
    cases Any.inB y.f0 0 33 with
    | false => simp
    | true =>
      by_cases c : (y.f1.size : Int) > 60
      · by_cases c2 : y'.f0 ≥ y.f0
        · simp [c, c2, h0, show ¬ ((y.f1.size : Int) ≤ 60) by omega]
        · simp [c, c2, h0, show ¬ ((y.f1.size : Int) ≤ 60) by omega]
      · by_cases c2 : y'.f0 ≥ y.f0
        · simp [c, c2, h0, show ((y.f1.size : Int) ≤ 60) by omega, show ¬ y'.f0 < y.f0 by omega]
        · simp [c, c2, h0, show ((y.f1.size : Int) ≤ 60) by omega, show y'.f0 < y.f0 by omega]
theorem spec_outs (L : List S165) (hL : L.length ≤ 8) (n : Int) (d : Bool) (x v b h : Int) (t : ByteArray) (k : Nat) (hk : 20 ≤ k) :
    spec_l4JournalOk.l0 k 0 n d x v b h t L = some ((List.range L.length).all (outB L)) :=
  testLoop (outB L) (List.range L.length) (fun k i => spec_l4JournalOk.l0 k i n d x v b h t L) 0
    (fun k => by simp only [spec_l4JournalOk.l0]; rw [if_neg (by simp)])
    (fun k i hi _ => by
      have hi' : i < L.length := by simpa using hi
      rw [List.getElem_range]
      exact spec_out L hL n d x v b h t k i hi')
    L.length k 0 (by simp) (by omega) (by omega)
theorem impl_out (L : List S165) (hL : L.length ≤ 8) (n : Int) (d : Bool) (x v b h : Int) (t : ByteArray) (k i : Nat) (hi : i < L.length) :
    impl_isJournal.l0 (k + 1) L (L.length : Int) i n d x v b h t L = if outB L i = true then impl_isJournal.l0 k L (L.length : Int) ((i + 1 : Nat) : Int) n d x v b h t L else some false := by
  simp only [impl_isJournal.l0]
  rw [if_pos (by omega), if_pos (by omega), if_pos (by omega), impl_in_B, w64s hi (by omega)]
  simp only [Option.bind_some]
  have e : ∀ j : Nat, rd_T165 L (j : Int) = L.getD j z165 := fun j => by unfold rd_T165; rw [Int.toNat_natCast]
  rw [e i]
  unfold outB
  by_cases h0 : i = 0
  · subst h0
    rw [if_neg (show ¬ ((0 : Nat) : Int) > 0 by omega)]
    generalize L.getD 0 z165 = y
    cases Any.inB y.f0 0 33 with
    | false => simp
    | true =>
      by_cases c : (y.f1.size : Int) > 60
      · simp [c, show ¬ ((y.f1.size : Int) ≤ 60) by omega]
      · simp [c, show ((y.f1.size : Int) ≤ 60) by omega]
  · have hw := wm1 (show 0 < i by omega) (show i ≤ 1048576 by omega)
    rw [if_pos (show (i : Int) > 0 by omega), hw, if_pos (show (0 : Int) ≤ ((i - 1 : Nat) : Int) by omega), if_pos (show ((i - 1 : Nat) : Int) < (L.length : Int) by omega), e (i - 1)]
    generalize L.getD i z165 = y
    generalize L.getD (i - 1) z165 = y'
    cases Any.inB y.f0 0 33 with
    | false => simp
    | true =>
      by_cases c : (y.f1.size : Int) > 60
      · simp [c, h0, show ¬ ((y.f1.size : Int) ≤ 60) by omega]
      · by_cases c2 : y.f0 ≤ y'.f0
        · simp [c, c2, h0, show ((y.f1.size : Int) ≤ 60) by omega, show ¬ y'.f0 < y.f0 by omega]
        · simp [c, c2, h0, show ((y.f1.size : Int) ≤ 60) by omega, show y'.f0 < y.f0 by omega]
theorem impl_outs (L : List S165) (hL : L.length ≤ 8) (n : Int) (d : Bool) (x v b h : Int) (t : ByteArray) (k : Nat) (hk : 20 ≤ k) :
    impl_isJournal.l0 k L (L.length : Int) 0 n d x v b h t L = some ((List.range L.length).all (outB L)) :=
  testLoop (outB L) (List.range L.length) (fun k i => impl_isJournal.l0 k L (L.length : Int) i n d x v b h t L) 0
    (fun k => by simp only [impl_isJournal.l0]; rw [if_neg (by simp)])
    (fun k i hi _ => by
      have hi' : i < L.length := by simpa using hi
      rw [List.getElem_range]
      exact impl_out L hL n d x v b h t k i hi')
    L.length k 0 (by simp) (by omega) (by omega)
theorem inB_len {α : Type} {L : List α} (h : Any.inB (L.length : Int) 1 8 = true) : L.length ≤ 8 := by
  unfold Any.inB at h; simp at h; omega
theorem spec_Journal_eq (n : Int) (d : Bool) (x v b h : Int) (t : ByteArray) (L : List S165) (k : Nat) (hk : 30 ≤ k) : spec_l4JournalOk.f k n d x v b h t L = some (journalB n d x v b h t L) := by
  obtain ⟨k, rfl⟩ : ∃ m, k = m + 1 := ⟨k - 1, by omega⟩
  unfold spec_l4JournalOk.f journalB
  simp only [spec_in_B, spec_Op_eq, Option.bind_some]
  cases Any.inB n 0 1000000 with
  | false => simp
  | true =>
    cases d with
    | true =>
      rw [if_pos rfl, if_pos rfl, if_pos rfl, len0]
      cases (x == 0 && (v == 0 && (b == 0 && (h == 0 && (t.toList == ([] : List UInt8)))))) <;> simp
    | false =>
      simp only [if_true, Bool.false_eq_true, if_false, Bool.true_and]
      by_cases c : n < 1
      · rw [if_pos c, decide_eq_false (show ¬ 1 ≤ n by omega)]; simp [spec_l4JournalOk.j0]
      · rw [if_neg c, decide_eq_true (show 1 ≤ n by omega)]
        cases jopB x v b h t with
        | false => simp [spec_l4JournalOk.j0]
        | true =>
          simp only [if_true, Bool.true_and]
          cases hl : Any.inB (L.length : Int) 1 8 with
          | false => simp [spec_l4JournalOk.j0]
          | true =>
            simp only [spec_l4JournalOk.j0, Bool.not_true, Bool.false_eq_true, if_false, Bool.true_and]
            exact spec_outs L (inB_len hl) n false x v b h t k (by omega)
theorem impl_Journal_eq (n : Int) (d : Bool) (x v b h : Int) (t : ByteArray) (L : List S165) (k : Nat) (hk : 30 ≤ k) : impl_isJournal.f k n d x v b h t L = some (journalB n d x v b h t L) := by
  obtain ⟨k, rfl⟩ : ∃ m, k = m + 1 := ⟨k - 1, by omega⟩
  unfold impl_isJournal.f journalB jopB
  simp only [impl_in_B, Option.bind_some]
  cases Any.inB n 0 1000000 with
  | false => simp
  | true =>
    cases d with
    | true =>
      rw [if_pos rfl, if_pos rfl, if_pos rfl, len0]
      cases (x == 0 && (v == 0 && (b == 0 && (h == 0 && (t.toList == ([] : List UInt8)))))) <;> simp
    | false =>
      simp only [if_true, Bool.false_eq_true, if_false, Bool.true_and]
      by_cases c : n < 1
      · rw [if_pos c, decide_eq_false (show ¬ 1 ≤ n by omega)]; simp [impl_isJournal.j0]
      · rw [if_neg c, decide_eq_true (show 1 ≤ n by omega)]
        cases Any.inB x 1 20 with
        | false => simp [impl_isJournal.j0]
        | true =>
          cases Any.inB v 0 99 with
          | false => simp [impl_isJournal.j0]
          | true =>
            cases Any.inB b 0 99 with
            | false => simp [impl_isJournal.j0]
            | true =>
              cases Any.inB h 0 99 with
              | false => simp [impl_isJournal.j0]
              | true =>
                simp only [if_true]
                by_cases ct : (t.size : Int) > 16
                · rw [if_pos ct, decide_eq_false (show ¬ (t.size : Int) ≤ 16 by omega)]; simp [impl_isJournal.j0]
                · rw [if_neg ct, decide_eq_true (show (t.size : Int) ≤ 16 by omega)]
                  cases hl : Any.inB (L.length : Int) 1 8 with
                  | false => simp [impl_isJournal.j0]
                  | true =>
                    simp only [impl_isJournal.j0, Bool.not_true, Bool.false_eq_true, if_false, Bool.true_and, Bool.and_true]
                    exact impl_outs L (inB_len hl) n false x v b h t k (by omega)
theorem rounds_up {α : Type} {g : Nat → Option α} (h : ∀ k, LeO (g k) (g (k + 1))) {k k' : Nat} (hk : k ≤ k') {r : α} (hr : g k = some r) : g k' = some r := by
  obtain ⟨j, rfl⟩ : ∃ j, k' = k + j := ⟨k' - k, by omega⟩
  clear hk
  induction j with
  | zero => exact hr
  | succ j ih => exact h (k + j) r ih
/-- The inner loop: from round j on both come to the outer loop at the same number. -/
theorem crc_inner (s : ByteArray) (i : Int) (d : Nat) : ∀ (k : Nat) (j c : Int), 8 - j = d → 0 ≤ j → d < k → 0 ≤ c → c < 4294967296 →
    ∃ c', 0 ≤ c' ∧ c' < 4294967296 ∧ spec_Crc.l1 k s c i j = spec_Crc.l0 (k - d - 1) s c' (wrap64 (i + 1)) ∧ impl_Crc.l1 k s c s.size i j = impl_Crc.l0 (k - d - 1) s c' s.size (wrap64 (i + 1)) := by
  induction d with
  | zero =>
    intro k j c hd h0 hk hc0 hc1
    obtain ⟨k, rfl⟩ : ∃ m, k = m + 1 := ⟨k - 1, by omega⟩
    refine ⟨c, hc0, hc1, ?_, ?_⟩
    · simp only [spec_Crc.l1]; rw [if_neg (by omega)]; simp
    · simp only [impl_Crc.l1]; rw [if_neg (by omega)]; simp
  | succ d ih =>
    intro k j c hd h0 hk hc0 hc1
    obtain ⟨k, rfl⟩ : ∃ m, k = m + 1 := ⟨k - 1, by omega⟩
    have hw : wrap64 (j + 1) = j + 1 := w64 (by omega) (by omega)
    have e1 : wrap64 (c / 2) = c / 2 := w64 (by omega) (by omega)
    simp only [spec_Crc.l1, impl_Crc.l1]
    have h8 : j < 8 := by omega
    simp only [if_pos h8]
    rw [tm hc0, td hc0, e1, u32_and1 hc0 hc1, hw]
    by_cases ho : c % 2 = 1
    · obtain ⟨x, x1, x2, x3, x4⟩ := xor_64_32 (a := c / 2) (b := 2197175160) (by omega) (by omega) (by omega) (by omega)
      simp only [if_pos ho]
      rw [x1, x2]
      obtain ⟨c', q0, q1, q2, q3⟩ := ih k (j + 1) x (by omega) (by omega) (by omega) x3 x4
      exact ⟨c', q0, q1, by rw [q2, show k + 1 - (d + 1) - 1 = k - d - 1 by omega], by rw [q3, show k + 1 - (d + 1) - 1 = k - d - 1 by omega]⟩
    · simp only [if_neg ho]
      obtain ⟨c', q0, q1, q2, q3⟩ := ih k (j + 1) (c / 2) (by omega) (by omega) (by omega) (by omega) (by omega)
      exact ⟨c', q0, q1, by rw [q2, show k + 1 - (d + 1) - 1 = k - d - 1 by omega], by rw [q3, show k + 1 - (d + 1) - 1 = k - d - 1 by omega]⟩

theorem crc_loop (s : ByteArray) (hs : s.size ≤ 1048576) (d : Nat) : ∀ (k : Nat) (i c : Int), (s.size : Int) - i = d → 0 ≤ i → 10 * d < k → 0 ≤ c → c < 4294967296 →
    ∃ r, spec_Crc.l0 k s c i = some r ∧ impl_Crc.l0 k s c s.size i = some r := by
  induction d with
  | zero =>
    intro k i c hd h0 hk hc0 hc1
    obtain ⟨k, rfl⟩ : ∃ m, k = m + 1 := ⟨k - 1, by omega⟩
    refine ⟨4294967295 - c, ?_, ?_⟩
    · simp only [spec_Crc.l0]; rw [if_neg (by omega), w64 (by omega) (by omega)]
    · simp only [impl_Crc.l0]; rw [if_neg (by omega), Int.emod_eq_of_lt (by omega) (by omega)]
  | succ d ih =>
    intro k i c hd h0 hk hc0 hc1
    obtain ⟨k, rfl⟩ : ∃ m, k = m + 1 := ⟨k - 1, by omega⟩
    have hb := bt_range s i
    have hlt : i < (s.size : Int) := by omega
    have hw : wrap64 (i + 1) = i + 1 := w64 (by omega) (by omega)
    obtain ⟨x, x1, x2, x3, x4⟩ := xor_64_32 (a := c) (b := bt s i) hc0 hb.1 hc1 (by omega)
    obtain ⟨c', q0, q1, q2, q3⟩ := crc_inner s i 8 k 0 x (by omega) (by omega) (by omega) x3 x4
    obtain ⟨r, r1, r2⟩ := ih (k - 8 - 1) (i + 1) c' (by omega) (by omega) (by omega) q0 q1
    refine ⟨r, ?_, ?_⟩
    · simp only [spec_Crc.l0]
      rw [if_pos hlt, if_pos h0, b64, x1, q2, hw]; exact r1
    · simp only [impl_Crc.l0]
      rw [if_pos hlt, if_pos h0, if_pos hlt, show bt s i % 4294967296 = bt s i by omega, x2, q3, hw]; exact r2
theorem crc_range (s : ByteArray) (hs : s.size ≤ 1048576) (d : Nat) : ∀ (k : Nat) (i c : Int), (s.size : Int) - i = d → 0 ≤ i → 10 * d < k → 0 ≤ c → c < 4294967296 →
    ∃ r, spec_Crc.l0 k s c i = some r ∧ 0 ≤ r ∧ r < 4294967296 := by
  induction d with
  | zero =>
    intro k i c hd h0 hk hc0 hc1
    obtain ⟨k, rfl⟩ : ∃ m, k = m + 1 := ⟨k - 1, by omega⟩
    refine ⟨4294967295 - c, ?_, by omega, by omega⟩
    simp only [spec_Crc.l0]; rw [if_neg (by omega), w64 (by omega) (by omega)]
  | succ d ih =>
    intro k i c hd h0 hk hc0 hc1
    obtain ⟨k, rfl⟩ : ∃ m, k = m + 1 := ⟨k - 1, by omega⟩
    have hb := bt_range s i
    have hlt : i < (s.size : Int) := by omega
    have hw : wrap64 (i + 1) = i + 1 := w64 (by omega) (by omega)
    obtain ⟨x, x1, x2, x3, x4⟩ := xor_64_32 (a := c) (b := bt s i) hc0 hb.1 hc1 (by omega)
    obtain ⟨c', q0, q1, q2, q3⟩ := crc_inner s i 8 k 0 x (by omega) (by omega) (by omega) x3 x4
    obtain ⟨r, r1, r2⟩ := ih (k - 8 - 1) (i + 1) c' (by omega) (by omega) (by omega) q0 q1
    refine ⟨r, ?_, r2⟩
    simp only [spec_Crc.l0]
    rw [if_pos hlt, if_pos h0, b64, x1, q2, hw]; exact r1
/-- The sum of a text. -/
def crcS (s : ByteArray) : Int := (spec_Crc.f (10 * s.size + 1) s).getD 0
theorem crc_eq (s : ByteArray) (hs : s.size ≤ 1048576) (k : Nat) (hk : 10 * s.size + 1 ≤ k) : spec_Crc.f k s = some (crcS s) ∧ impl_Crc.f k s = some (crcS s) ∧ 0 ≤ crcS s ∧ crcS s < 4294967296 := by
  obtain ⟨r, h1, h2⟩ := crc_loop s hs s.size (10 * s.size + 1) 0 4294967295 (by omega) (by omega) (by omega) (by omega) (by omega)
  obtain ⟨q, h3, h4, h5⟩ := crc_range s hs s.size (10 * s.size + 1) 0 4294967295 (by omega) (by omega) (by omega) (by omega) (by omega)
  have e : crcS s = r := by unfold crcS spec_Crc.f; rw [h1]; rfl
  have hq : q = r := by rw [h1] at h3; exact (Option.some.inj h3).symm
  subst hq
  rw [e]
  refine ⟨?_, ?_, h4, h5⟩
  · exact rounds_up (spec_Crc.mono s) hk (by unfold spec_Crc.f; exact h1)
  · exact rounds_up (impl_Crc.mono s) hk (by unfold impl_Crc.f; exact h2)
/-- The last i bytes of a number, the greatest first. -/
def fixL (n : Int) : Nat → List Int
  | 0 => []
  | i + 1 => (n / 256 ^ i % 256) :: fixL n i
theorem fixL_length (n : Int) : ∀ i, (fixL n i).length = i
  | 0 => rfl
  | i + 1 => by simp [fixL, fixL_length n i]
theorem fixL_bytes (n : Int) : ∀ i, Bytes (fixL n i)
  | 0 => Bytes.nil
  | i + 1 => Bytes.cons (by omega) (by omega) (fixL_bytes n i)
theorem two8 (n : Nat) : (2 : Int) ^ (8 * n) = 256 ^ n := by
  induction n with
  | zero => rfl
  | succ n ih => rw [show 8 * (n + 1) = 8 * n + 8 by omega, Int.pow_add, ih, Int.pow_succ]; congr 1
theorem div_pow (n : Int) (i : Nat) : n / 256 ^ i / 256 = n / 256 ^ (i + 1) := by
  rw [Int.pow_succ, Int.ediv_ediv_of_nonneg (Int.le_of_lt (Int.pow_pos (by decide)))]
theorem div_pow_nonneg {n : Int} (h : 0 ≤ n) (i : Nat) : 0 ≤ n / 256 ^ i := Int.ediv_nonneg h (Int.le_of_lt (Int.pow_pos (by decide)))
theorem div_pow_le {n : Int} (h : 0 ≤ n) (i : Nat) : n / 256 ^ i ≤ n := Int.ediv_le_self _ h
theorem shr8 (n : Int) {i : Nat} (hi : i ≤ 7) : shr .i64 n (wrap64 (8 * (i : Int))) = n / 256 ^ i := by
  unfold shr
  have : min (wrap64 (8 * (i : Int))).toNat IntKind.i64.bits = 8 * i := by
    have : IntKind.i64.bits = 64 := rfl
    rw [w64 (by omega) (by omega)]
    omega
  rw [this, two8]
/-- What Fixed answers. -/
def fixS (n w : Int) : ByteArray := if 1 ≤ w ∧ w ≤ 7 ∧ 0 ≤ n ∧ n / 256 ^ w.toNat = 0 then strOfNums (fixL n w.toNat) else strOfNums []
theorem spec_Fixed_loop (n : Int) (hn : 0 ≤ n) (hn1 : n ≤ 9223372036854775807) (w : Nat) (hw : w ≤ 7) (d : Nat) : ∀ (k i : Nat), w - i = d → i ≤ w → d < k →
    spec_Fixed.l0 k (n / 256 ^ i) w (strOfNums (fixL n i)) i = some (if n / 256 ^ w = 0 then strOfNums (fixL n w) else strOfNums []) := by
  induction d with
  | zero =>
    intro k i hd hi hk
    obtain ⟨k, rfl⟩ : ∃ m, k = m + 1 := ⟨k - 1, by omega⟩
    obtain rfl : i = w := by omega
    have := div_pow_nonneg hn i
    simp only [spec_Fixed.l0]
    rw [if_neg (by omega)]
    by_cases h : n / 256 ^ i = 0
    · rw [if_neg (by omega), if_pos h]
    · rw [if_pos (by omega), if_neg h]; rfl
  | succ d ih =>
    intro k i hd hi hk
    obtain ⟨k, rfl⟩ : ∃ m, k = m + 1 := ⟨k - 1, by omega⟩
    have h0 := div_pow_nonneg hn i
    have h1 := div_pow_le hn i
    simp only [spec_Fixed.l0]
    rw [if_pos (by omega)]
    simp only [Option.bind_some]
    rw [if_pos (by simp only [strOfNums_size, fixL_length, List.length_cons, List.length_nil]; omega), tm h0, td h0, w64 (by omega) (by omega), w64s (n := 8) (by omega) (by omega), div_pow, strOfNums_append]
    have := ih k (i + 1) (by omega) (by omega) (by omega)
    rw [show n / 256 ^ i % 256 % 256 = n / 256 ^ i % 256 by omega]
    exact this
theorem spec_Fixed_eq (n w : Int) (hn1 : n ≤ 9223372036854775807) (k : Nat) (hk : 10 ≤ k) : spec_Fixed.f k n w = some (fixS n w) := by
  obtain ⟨k, rfl⟩ : ∃ m, k = m + 1 := ⟨k - 1, by omega⟩
  unfold spec_Fixed.f fixS
  rw [spec_in_eq]
  simp only [Option.bind_some, decide_eq_true_eq]
  by_cases h : 1 ≤ w ∧ w ≤ 7
  · rw [if_pos h]
    simp only [spec_Fixed.j0]
    by_cases hn : n < 0
    · rw [if_pos (by simpa using hn), if_neg (by omega)]; rfl
    · rw [if_neg (by simpa using hn)]
      have := spec_Fixed_loop n (by omega) hn1 w.toNat (by omega) w.toNat k 0 (by omega) (by omega) (by omega)
      rw [show ((w.toNat : Nat) : Int) = w by omega] at this
      rw [show n / 256 ^ 0 = n by simp] at this
      have e : strOfNums (fixL n 0) = (⟨#[]⟩ : ByteArray) := rfl
      rw [e] at this
      refine this.trans ?_
      by_cases hz : n / 256 ^ w.toNat = 0
      · rw [if_pos hz, if_pos ⟨h.1, h.2, by omega, hz⟩]
      · rw [if_neg hz, if_neg (fun hh => hz hh.2.2.2)]
  · rw [if_neg h, if_neg (fun hh => h ⟨hh.1, hh.2.1⟩)]
    simp only [spec_Fixed.j0]; rfl
theorem impl_Fixed_loop (n : Int) (w : Nat) (hw : w ≤ 7) (d : Nat) : ∀ (k i : Nat), w - i = d → i ≤ w → d < k →
    impl_Fixed.l0 k n w (List.replicate (w - i) 0 ++ fixL n i) w i = some (strOfNums (fixL n w)) := by
  induction d with
  | zero =>
    intro k i hd hi hk
    obtain ⟨k, rfl⟩ : ∃ m, k = m + 1 := ⟨k - 1, by omega⟩
    obtain rfl : i = w := by omega
    simp only [impl_Fixed.l0]
    rw [if_neg (by omega), Nat.sub_self]; rfl
  | succ d ih =>
    intro k i hd hi hk
    obtain ⟨k, rfl⟩ : ∃ m, k = m + 1 := ⟨k - 1, by omega⟩
    have hs : (List.replicate (w - i) (0 : Int) ++ fixL n i).set (w - 1 - i) (n / 256 ^ i % 256) = List.replicate (w - (i + 1)) 0 ++ fixL n (i + 1) := by
      rw [show w - i = (w - (i + 1)) + 1 by omega, List.replicate_succ', List.append_assoc, List.set_append_right _ _ (by simp; omega)]
      rw [List.length_replicate, show w - 1 - i - (w - (i + 1)) = 0 by omega]; rfl
    have e1 : wrap64 ((wrap64 ((w : Int) - 1)) - i) = ((w - 1 - i : Nat) : Int) := by rw [w64 (n := (w : Int) - 1) (by omega) (by omega), w64 (by omega) (by omega)]; omega
    simp only [impl_Fixed.l0]
    rw [if_pos (by omega), if_pos (by rw [w64 (by omega) (by omega)]; omega), e1, if_pos (by omega), if_pos (by rw [List.length_append, List.length_replicate, fixL_length]; omega), toNat_nat, shr8 n (by omega), hs, w64s (n := 8) (by omega) (by omega)]
    exact ih k (i + 1) (by omega) (by omega) (by omega)
theorem impl_Fixed_eq (n w : Int) (k : Nat) (hk : 10 ≤ k) : impl_Fixed.f k n w = some (fixS n w) := by
  obtain ⟨k, rfl⟩ : ∃ m, k = m + 1 := ⟨k - 1, by omega⟩
  unfold impl_Fixed.f fixS
  rw [impl_in_eq]
  simp only [Option.bind_some, decide_eq_true_eq]
  by_cases h : 1 ≤ w ∧ w ≤ 7
  · rw [if_pos h]
    by_cases hn : n < 0
    · rw [if_pos hn, if_neg (by omega)]; simp only [impl_Fixed.j0]; rfl
    · rw [if_neg hn, if_pos (by rw [w64 (by omega) (by omega)]; omega)]
      have hsh := shr8 n (i := w.toNat) (by omega)
      rw [show ((w.toNat : Nat) : Int) = w by omega] at hsh
      rw [hsh]
      simp only [impl_Fixed.j0]
      by_cases hz : n / 256 ^ w.toNat = 0
      · have hr : (1 ≤ w ∧ w ≤ 7 ∧ 0 ≤ n ∧ n / 256 ^ w.toNat = 0) := ⟨h.1, h.2, by omega, hz⟩
        simp only [if_pos hr]
        rw [if_neg (by simp [hz]), if_pos (by omega), if_pos (by omega)]
        simp only [Option.bind_some]
        have := impl_Fixed_loop n w.toNat (by omega) w.toNat k 0 (by omega) (by omega) (by omega)
        rw [show ((w.toNat : Nat) : Int) = w by omega] at this
        rw [List.length_replicate, show ((w.toNat : Nat) : Int) = w by omega]
        simpa [fixL] using this
      · have hr : ¬ (1 ≤ w ∧ w ≤ 7 ∧ 0 ≤ n ∧ n / 256 ^ w.toNat = 0) := fun hh => hz hh.2.2.2
        simp only [if_neg hr]
        rw [if_pos (by simp [hz])]; rfl
  · rw [if_neg h, if_neg (fun hh => h ⟨hh.1, hh.2.1⟩)]
    simp only [impl_Fixed.j0]; rfl
theorem div4 {n : Int} (h0 : 0 ≤ n) (h1 : n < 4294967296) : n / 256 ^ (4 : Int).toNat = 0 := by
  have : (256 : Int) ^ (4 : Int).toNat = 4294967296 := by decide
  rw [this]; omega
/-- A text with its sum ahead. -/
def sumS (s : ByteArray) : ByteArray := strOfNums (fixL (crcS s) 4) ++ s
theorem fixS4 {n : Int} (h0 : 0 ≤ n) (h1 : n < 4294967296) : fixS n 4 = strOfNums (fixL n 4) := by
  unfold fixS
  rw [if_pos ⟨by omega, by omega, h0, div4 h0 h1⟩]; rfl
theorem size_append_le {a b : ByteArray} : (a ++ b).size = a.size + b.size := ByteArray.size_append
theorem spec_Sum_eq (s : ByteArray) (hs : s.size ≤ 100000) (k : Nat) (hk : 1000010 ≤ k) : spec_l4Sum.f k s = some (sumS s) := by
  obtain ⟨h1, _, h3, h4⟩ := crc_eq s (by omega) k (by omega)
  unfold spec_l4Sum.f sumS
  rw [h1]; simp only [Option.bind_some]
  rw [spec_Fixed_eq _ 4 (by omega) k (by omega), fixS4 h3 h4]; simp only [Option.bind_some]
  rw [if_pos (by rw [strOfNums_size, fixL_length]; omega)]
theorem impl_Sum_eq (s : ByteArray) (hs : s.size ≤ 100000) (k : Nat) (hk : 1000010 ≤ k) : impl_packed.f k s = some (sumS s) := by
  obtain ⟨_, h2, h3, h4⟩ := crc_eq s (by omega) k (by omega)
  unfold impl_packed.f sumS
  rw [h2]; simp only [Option.bind_some]
  rw [impl_Fixed_eq _ 4 k (by omega), fixS4 h3 h4]; simp only [Option.bind_some]
  rw [if_pos (by rw [strOfNums_size, fixL_length]; omega)]
theorem sumS_size (s : ByteArray) : (sumS s).size = 4 + s.size := by unfold sumS; rw [size_append_le, strOfNums_size, fixL_length]
theorem spec_Var_loop (f : Nat) : ∀ (k : Nat) (n : Int) (xs : List Int), 0 ≤ n → n < 562949953421312 → n < 128 ^ (f + 1) → f < k → xs.length < 1000000 - f → spec_Var.l0 k n xs = some (strOfNums (xs ++ vL f n)) := by
  induction f with
  | zero =>
    intro k n xs h0 h1 h2 hk hx
    obtain ⟨k, rfl⟩ : ∃ m, k = m + 1 := ⟨k - 1, by omega⟩
    simp only [spec_Var.l0]
    rw [if_neg (by omega), if_pos (by omega)]; rfl
  | succ f ih =>
    intro k n xs h0 h1 h2 hk hx
    obtain ⟨k, rfl⟩ : ∃ m, k = m + 1 := ⟨k - 1, by omega⟩
    simp only [spec_Var.l0]
    by_cases h : 128 ≤ n
    · rw [if_pos h, if_pos (by omega), td h0, tm h0, w64 (by omega) (by omega), w64 (by omega) (by omega), ih k (n / 128) _ (by omega) (by omega) (by rw [Int.pow_succ] at h2; omega) (by omega) (by simp; omega)]
      simp only [vL, if_pos h]
      rw [show (128 + n % 128) % 256 = 128 + n % 128 by omega]
      simp
    · rw [if_neg h, if_pos (by omega)]
      simp only [vL, if_neg h]
theorem spec_Var_eq (n : Int) (k : Nat) (hk : 8 ≤ k) : spec_Var.f k n = some (if 0 ≤ n ∧ n ≤ 562949953421311 then strOfNums (vL 6 n) else strOfNums []) := by
  unfold spec_Var.f
  rw [spec_in_eq]
  simp only [Option.bind_some, decide_eq_true_eq]
  by_cases h : 0 ≤ n ∧ n ≤ 562949953421311
  · rw [if_pos h, if_pos h, spec_Var_loop 6 k n [] (by omega) (by omega) (by simp; omega) (by omega) (by simp)]; simp
  · rw [if_neg h, if_neg h]; rfl
theorem impl_Var_loop (f : Nat) : ∀ (k : Nat) (n : Int) (xs : List Int), 0 ≤ n → n < 562949953421312 → n < 128 ^ (f + 1) → f < k → xs.length < 1000000 - f → impl_Var.l0 k n xs = some (strOfNums (xs ++ vL f n)) := by
  induction f with
  | zero =>
    intro k n xs h0 h1 h2 hk hx
    obtain ⟨k, rfl⟩ : ∃ m, k = m + 1 := ⟨k - 1, by omega⟩
    simp only [impl_Var.l0]
    rw [if_neg (by omega), if_pos (by omega)]; rfl
  | succ f ih =>
    intro k n xs h0 h1 h2 hk hx
    obtain ⟨k, rfl⟩ : ∃ m, k = m + 1 := ⟨k - 1, by omega⟩
    simp only [impl_Var.l0]
    by_cases h : 128 ≤ n
    · rw [if_pos h, if_pos (by omega), u8_or_128 (by omega) (by omega), ih k (n / 128) _ (by omega) (by omega) (by rw [Int.pow_succ] at h2; omega) (by omega) (by simp; omega)]
      simp only [vL, if_pos h]
      rw [show 128 + n % 256 % 128 = 128 + n % 128 by omega]
      simp
    · rw [if_neg h, if_pos (by omega)]
      simp only [vL, if_neg h]
theorem impl_Var_eq (n : Int) (k : Nat) (hk : 8 ≤ k) : impl_Var.f k n = some (if 0 ≤ n ∧ n ≤ 562949953421311 then strOfNums (vL 6 n) else strOfNums []) := by
  unfold impl_Var.f
  rw [impl_in_eq]
  simp only [Option.bind_some, decide_eq_true_eq]
  by_cases h : 0 ≤ n ∧ n ≤ 562949953421311
  · rw [if_pos h, if_pos h, impl_Var_loop 6 k n [] (by omega) (by omega) (by simp; omega) (by omega) (by simp)]; simp
  · rw [if_neg h, if_neg h]; rfl
/-- A number's bytes. -/
def varS (n : Int) : ByteArray := if 0 ≤ n ∧ n ≤ 562949953421311 then strOfNums (vL 6 n) else strOfNums []
theorem varS_size (n : Int) : (varS n).size ≤ 7 := by
  unfold varS
  have := vL_len 6 n
  split <;> rw [strOfNums_size]
  · omega
  · simp
theorem varS_pos {n : Int} (h0 : 0 ≤ n) (h1 : n ≤ 562949953421311) : varS n = strOfNums (vL 6 n) := by unfold varS; rw [if_pos ⟨h0, h1⟩]
def flagS (b : Bool) : ByteArray := varS (if b = true then 1 else 0)
theorem flagS_size (h : Bool) : (flagS h).size ≤ 7 := by unfold flagS; exact varS_size _
theorem spec_Flag_eq (b : Bool) (k : Nat) (hk : 8 ≤ k) : spec_l4Flag.f k b = some (flagS b) := by
  unfold spec_l4Flag.f flagS
  have h0 : spec_Var.f k 0 = some (varS 0) := by unfold varS; exact spec_Var_eq 0 k hk
  have h1 : spec_Var.f k 1 = some (varS 1) := by unfold varS; exact spec_Var_eq 1 k hk
  cases b <;> simp [h0, h1]
theorem impl_Flag_eq (b : Bool) (k : Nat) (hk : 8 ≤ k) : impl_flagText.f k b = some (flagS b) := by
  unfold impl_flagText.f flagS
  have h0 : impl_Var.f k 0 = some (varS 0) := by unfold varS; exact impl_Var_eq 0 k hk
  have h1 : impl_Var.f k 1 = some (varS 1) := by unfold varS; exact impl_Var_eq 1 k hk
  cases b <;> simp [h0, h1]
theorem spec_Var_S (n : Int) (k : Nat) (hk : 8 ≤ k) : spec_Var.f k n = some (varS n) := by unfold varS; exact spec_Var_eq n k hk
theorem impl_Var_S (n : Int) (k : Nat) (hk : 8 ≤ k) : impl_Var.f k n = some (varS n) := by unfold varS; exact impl_Var_eq n k hk
def pieceS (t : ByteArray) : ByteArray := varS t.size ++ t
theorem pieceS_size (t : ByteArray) : (pieceS t).size ≤ 7 + t.size := by
  have := varS_size t.size
  unfold pieceS; rw [ByteArray.size_append]; omega
theorem spec_Piece_eq (t : ByteArray) (ht : t.size ≤ 1000000) (k : Nat) (hk : 8 ≤ k) : spec_l4Piece.f k t = some (pieceS t) := by
  have := varS_size t.size
  unfold spec_l4Piece.f pieceS
  rw [spec_Var_S _ k hk]
  simp only [Option.bind_some]
  rw [if_pos (by omega)]
theorem impl_Piece_eq (t : ByteArray) (ht : t.size ≤ 1000000) (k : Nat) (hk : 8 ≤ k) : impl_pieceText.f k t = some (pieceS t) := by
  have := varS_size t.size
  unfold impl_pieceText.f pieceS
  rw [impl_Var_S _ k hk]
  simp only [Option.bind_some]
  rw [if_pos (by omega)]
/-- The bytes of numbers, one behind the other. -/
def varsS : List Int → ByteArray
  | [] => strOfNums []
  | n :: l => varS n ++ varsS l
theorem nil_append (s : ByteArray) : strOfNums [] ++ s = s := by rw [← strOfNums_L s, strOfNums_append]; rfl
theorem append_nil_ (s : ByteArray) : s ++ strOfNums [] = s := by rw [← strOfNums_L s, strOfNums_append, List.append_nil]
theorem append_assoc_ (a b c : ByteArray) : a ++ b ++ c = a ++ (b ++ c) := by
  rw [← strOfNums_L a, ← strOfNums_L b, ← strOfNums_L c]
  simp only [strOfNums_append, List.append_assoc]
theorem varsS_size : ∀ l : List Int, (varsS l).size ≤ 7 * l.length
  | [] => by simp [varsS, strOfNums_size]
  | n :: l => by
    have := varsS_size l
    have := varS_size n
    unfold varsS
    rw [ByteArray.size_append, List.length_cons]; omega
theorem impl_vars_loop (l : List Int) (hl : l.length ≤ 100000) (d : Nat) : ∀ (k i : Nat) (out : ByteArray), l.length - i = d → i ≤ l.length → d + 10 < k → out.size ≤ 7 * i → impl_vars.l0 k out l l.length i = some (out ++ varsS (l.drop i)) := by
  induction d with
  | zero =>
    intro k i out hd hi hk ho
    obtain ⟨k, rfl⟩ : ∃ m, k = m + 1 := ⟨k - 1, by omega⟩
    simp only [impl_vars.l0]
    rw [if_neg (by omega), List.drop_eq_nil_of_le (by omega)]
    unfold varsS
    rw [append_nil_]
  | succ d ih =>
    intro k i out hd hi hk ho
    obtain ⟨k, rfl⟩ : ∃ m, k = m + 1 := ⟨k - 1, by omega⟩
    have hil : i < l.length := by omega
    have hv := varS_size (l.getD i 0)
    simp only [impl_vars.l0]
    rw [if_pos (by omega), if_pos (by omega), if_pos (by omega), rd_nat, impl_Var_eq _ k (by omega)]
    simp only [Option.bind_some]
    rw [show (if 0 ≤ l.getD i 0 ∧ l.getD i 0 ≤ 562949953421311 then strOfNums (vL 6 (l.getD i 0)) else strOfNums []) = varS (l.getD i 0) from rfl, if_pos (by omega), w64s hil (by omega), ih k (i + 1) _ (by omega) (by omega) (by omega) (by rw [ByteArray.size_append]; omega)]
    rw [List.drop_eq_getElem_cons hil]
    have : l.getD i 0 = l[i] := by simp [List.getD, List.getElem?_eq_getElem hil]
    rw [this, append_assoc_]; rfl
theorem impl_vars_eq (l : List Int) (hl : l.length ≤ 100000) (k : Nat) (hk : l.length + 11 ≤ k) : impl_vars.f k l = some (varsS l) := by
  unfold impl_vars.f
  have := impl_vars_loop l hl l.length k 0 (strOfNums []) (by omega) (by omega) (by omega) (by simp [strOfNums_size])
  rw [nil_append, List.drop_zero] at this
  exact this
/-- The texts of the elements, one behind the other. -/
def catS {α : Type} (g : α → ByteArray) : List α → ByteArray
  | [] => strOfNums []
  | x :: l => g x ++ catS g l
theorem catS_size {α : Type} (g : α → ByteArray) (b : Nat) : ∀ l : List α, (∀ x ∈ l, (g x).size ≤ b) → (catS g l).size ≤ b * l.length
  | [], _ => by simp [catS, strOfNums_size]
  | x :: l, h => by
    have := catS_size g b l (fun y hy => h y (by simp [hy]))
    have := h x (by simp)
    unfold catS
    rw [ByteArray.size_append, List.length_cons, Nat.mul_succ]; omega
/-- A loop that writes text after text; a round takes c steps. -/
theorem catLoop {α : Type} (g : α → ByteArray) (l : List α) (b B c : Nat) (hc : 1 ≤ c) (hg : ∀ x ∈ l, (g x).size ≤ b) (hB : B + b * l.length ≤ 1000000) (fin : ByteArray → Option ByteArray) (F : Nat → ByteArray → Int → Option ByteArray) (K : Nat)
    (stop : ∀ k out, K ≤ k → out.size ≤ B + b * l.length → F (k + 1) out (l.length : Int) = fin out)
    (step : ∀ k out (i : Nat) (hi : i < l.length), K ≤ k → out.size ≤ 1000000 → F (k + c) out i = F k (out ++ g l[i]) ((i + 1 : Nat) : Int)) :
    ∀ (d k i : Nat) (out : ByteArray), l.length - i = d → i ≤ l.length → K + c * d < k → out.size ≤ B + b * i → F k out i = fin (out ++ catS g (l.drop i)) := by
  intro d
  induction d with
  | zero =>
    intro k i out hd hi hk ho
    obtain ⟨k, rfl⟩ : ∃ m, k = m + 1 := ⟨k - 1, by omega⟩
    have e : i = l.length := by omega
    subst e
    rw [stop k out (by omega) ho, List.drop_eq_nil_of_le (Nat.le_refl _)]
    unfold catS
    rw [append_nil_]
  | succ d ih =>
    intro k i out hd hi hk ho
    rw [Nat.mul_succ] at hk
    obtain ⟨k, rfl⟩ : ∃ m, k = m + c := ⟨k - c, by omega⟩
    have hil : i < l.length := by omega
    have hv := hg _ (List.getElem_mem hil)
    have hm : b * i ≤ b * l.length := Nat.mul_le_mul_left b hi
    have hs : b * (i + 1) = b * i + b := Nat.mul_succ b i
    rw [step k out i hil (by omega) (by omega), ih k (i + 1) _ (by omega) (by omega) (by omega) (by rw [ByteArray.size_append]; omega), List.drop_eq_getElem_cons hil, append_assoc_]; rfl
/-- The text of one out. -/
def outS (x : S165) : ByteArray := varS x.f0 ++ pieceS x.f1
/-- What stands ahead of the outs. -/
def headS (n : Int) (d : Bool) (a b c e : Int) (t : ByteArray) (m : Int) : ByteArray :=
  strOfNums [106] ++ varS n ++ flagS d ++ varS a ++ varS b ++ varS c ++ varS e ++ pieceS t ++ varS m
theorem headS_size (n : Int) (d : Bool) (a b c e : Int) (t : ByteArray) (m : Int) : (headS n d a b c e t m).size ≤ 57 + t.size := by
  have e2 : (strOfNums [106]).size = 1 := rfl
  have h1 := varS_size n
  have h2 := flagS_size d
  have h3 := varS_size a
  have h4 := varS_size b
  have h5 := varS_size c
  have h6 := varS_size e
  have h7 := pieceS_size t
  have h8 := varS_size m
  unfold headS
  simp only [ByteArray.size_append]
  omega
/-- A journal's text. -/
def jourS (n : Int) (d : Bool) (a b c e : Int) (t : ByteArray) (L : List S165) : ByteArray :=
  if journalB n d a b c e t L = true then sumS (headS n d a b c e t L.length ++ catS outS L) else strOfNums []
theorem journalB_small {n : Int} {d : Bool} {a b c e : Int} {t : ByteArray} {L : List S165} (h : journalB n d a b c e t L = true) : t.size ≤ 16 ∧ L.length ≤ 8 ∧ ∀ x ∈ L, x.f1.size ≤ 60 := by
  unfold journalB at h
  cases d with
  | true =>
    simp only [if_true, Bool.and_eq_true, decide_eq_true_eq] at h
    obtain ⟨_, ⟨_, _, _, _, ht⟩, hl⟩ := h
    have ht' : t.toList = [] := by simpa using ht
    have : t.size = 0 := by
      have : t = (⟨#[]⟩ : ByteArray) := toList_inj.mp (ht'.trans (by rw [Lib.toList_data]))
      subst this; rfl
    have hn : L = [] := List.length_eq_zero_iff.mp hl
    subst hn
    exact ⟨by omega, by simp, by simp⟩
  | false =>
    simp only [Bool.false_eq_true, if_false, Bool.and_eq_true, decide_eq_true_eq, List.all_eq_true] at h
    obtain ⟨_, ⟨⟨_, hj⟩, hl⟩, ho⟩ := h
    unfold jopB at hj
    simp only [Bool.and_eq_true, decide_eq_true_eq] at hj
    refine ⟨by omega, inB_len hl, fun x hx => ?_⟩
    obtain ⟨i, hi, rfl⟩ := List.getElem_of_mem hx
    have := ho i (by simpa using hi)
    unfold outB at this
    simp only [Bool.and_eq_true, decide_eq_true_eq] at this
    rw [getD_get' hi] at this
    omega
theorem spec_ShowJournal_eq (n : Int) (d : Bool) (a b c e : Int) (t : ByteArray) (L : List S165) (k : Nat) (hk : 1000060 ≤ k) : spec_ShowJournal.f k n d a b c e t L = some (jourS n d a b c e t L) := by
  unfold spec_ShowJournal.f jourS
  rw [spec_Journal_eq n d a b c e t L k (by omega)]
  simp only [Option.bind_some]
  cases hj : journalB n d a b c e t L with
  | false => simp; rfl
  | true =>
    obtain ⟨ht, hl, ho⟩ := journalB_small hj
    have e1 : (⟨#[106]⟩ : ByteArray) = strOfNums [106] := rfl
    have e2 : (strOfNums [106]).size = 1 := rfl
    have h1 := varS_size n
    have h2 := flagS_size d
    have h3 := varS_size a
    have h4 := varS_size b
    have h5 := varS_size c
    have h6 := varS_size e
    have h7 := pieceS_size t
    have h8 := varS_size (L.length : Int)
    have hh := headS_size n d a b c e t L.length
    have hk8 : 8 ≤ k := by omega
    rw [if_pos rfl, if_pos rfl]
    simp only [spec_Var_S _ k hk8, spec_Flag_eq _ k hk8, spec_Piece_eq t (by omega) k hk8, Option.bind_some, e1, ByteArray.size_append, e2]
    rw [if_pos (by omega), if_pos (by omega), if_pos (by omega), if_pos (by omega), if_pos (by omega), if_pos (by omega), if_pos (by omega), if_pos (by omega)]
    exact catLoop outS L 74 80 1 (by omega) (fun x hx => by
        have := varS_size x.f0
        have := pieceS_size x.f1
        have := ho x hx
        unfold outS; rw [ByteArray.size_append]; omega) (by omega) (fun out => some (sumS out)) (fun k out i => spec_ShowJournal.l0 k out i n d a b c e t L) 1000010
      (fun k out hk hs => by
        simp only [spec_ShowJournal.l0]
        rw [if_neg (by omega), spec_Sum_eq _ (by omega) k (by omega)]; rfl)
      (fun k out i hi hk hs => by
        have hx := ho _ (List.getElem_mem hi)
        have p1 := varS_size L[i].f0
        have p2 := pieceS_size L[i].f1
        simp only [spec_ShowJournal.l0]
        unfold rd_T165
        rw [if_pos (by omega), if_pos (by omega), getD_get hi, spec_Var_S _ k (by omega)]
        simp only [Option.bind_some]
        rw [if_pos (by omega), spec_Piece_eq _ (by omega) k (by omega)]
        simp only [Option.bind_some]
        rw [if_pos (by rw [ByteArray.size_append]; omega), w64s hi (by omega), append_assoc_]; rfl)
      L.length k 0 (headS n d a b c e t L.length) (by omega) (by omega) (by omega) (by omega)
theorem impl_ShowJournal_eq (n : Int) (d : Bool) (a b c e : Int) (t : ByteArray) (L : List S165) (k : Nat) (hk : 1000060 ≤ k) : impl_ShowJournal.f k n d a b c e t L = some (jourS n d a b c e t L) := by
  unfold impl_ShowJournal.f jourS
  rw [impl_Journal_eq n d a b c e t L k (by omega)]
  simp only [Option.bind_some]
  cases hj : journalB n d a b c e t L with
  | false => simp; rfl
  | true =>
    obtain ⟨ht, hl, ho⟩ := journalB_small hj
    have e1 : (⟨#[106]⟩ : ByteArray) = strOfNums [106] := rfl
    have e2 : (strOfNums [106]).size = 1 := rfl
    have h1 := varS_size n
    have h2 := flagS_size d
    have h3 := varS_size a
    have h4 := varS_size b
    have h5 := varS_size c
    have h6 := varS_size e
    have h7 := pieceS_size t
    have h8 := varS_size (L.length : Int)
    have hh := headS_size n d a b c e t L.length
    have hk8 : 8 ≤ k := by omega
    have hv : varsS [a, b, c, e] = varS a ++ (varS b ++ (varS c ++ varS e)) := by simp only [varsS, append_nil_]
    rw [if_pos rfl, if_pos rfl]
    simp only [impl_Var_S _ k hk8, impl_Flag_eq _ k hk8, impl_Piece_eq t (by omega) k hk8, impl_vars_eq [a, b, c, e] (by simp) k (by simp; omega), hv, Option.bind_some, e1, ByteArray.size_append, e2]
    rw [if_pos (by omega), if_pos (by omega), if_pos (by omega), if_pos (by omega), if_pos (by omega)]
    have := catLoop outS L 74 80 1 (by omega) (fun x hx => by
        have := varS_size x.f0
        have := pieceS_size x.f1
        have := ho x hx
        unfold outS; rw [ByteArray.size_append]; omega) (by omega) (fun out => some (sumS out)) (fun k out i => impl_ShowJournal.l0 k out L (L.length : Int) i) 1000010
      (fun k out hk hs => by
        simp only [impl_ShowJournal.l0]
        rw [if_neg (by omega), impl_Sum_eq _ (by omega) k (by omega)]; rfl)
      (fun k out i hi hk hs => by
        have hx := ho _ (List.getElem_mem hi)
        have p1 := varS_size L[i].f0
        have p2 := pieceS_size L[i].f1
        simp only [impl_ShowJournal.l0]
        unfold rd_T165
        rw [if_pos (by omega), if_pos (by omega), if_pos (by omega), getD_get hi, impl_Var_S _ k (by omega)]
        simp only [Option.bind_some]
        rw [impl_Piece_eq _ (by omega) k (by omega)]
        simp only [Option.bind_some]
        rw [if_pos (by omega), if_pos (by rw [ByteArray.size_append]; omega), w64s hi (by omega)]; rfl)
      L.length k 0 (headS n d a b c e t L.length) (by omega) (by omega) (by omega) (by omega)
    refine Eq.trans ?_ this
    unfold headS
    simp only [append_assoc_]; rfl
def cOut (x : S221) : S165 := ⟨x.f0, x.f1⟩
theorem szOut_eq (s : Int) (t : ByteArray) (a : Int) (ht : t.size ≤ 9223372036854775807) (h0 : 0 ≤ a) (h1 : a ≤ 1048576) : laws_szOut.f s t a = some (if a - t.size < 0 then -1 else a - t.size) := by
  unfold laws_szOut.f
  rw [w64 (by omega) (by omega)]
  split <;> rfl
theorem szOutS_eq (l : List S221) (a : Int) (hl : l.length ≤ 9223372036854775807) (hq : ∀ x ∈ l, x.f1.size ≤ 9223372036854775807) (h0 : 0 ≤ a) (h1 : a ≤ 1048576) (k : Nat) (hk : 1048577 ≤ k) :
    laws_szOutS.f k l a = some (-1) ∨ ∃ r, 0 ≤ r ∧ r ≤ a ∧ l.length ≤ 1048576 ∧ laws_szOutS.f k l a = some r := by
  unfold laws_szOutS.f
  rw [w64 (by omega) (by omega)]
  by_cases c : a - (l.length : Int) < 0
  · rw [if_pos c]; exact .inl rfl
  · rw [if_neg c]
    have hl' : l.length ≤ 1048576 := by omega
    rcases szLoop (fun x : S221 => True) l (fun k a i => laws_szOutS.l0 k l a i) 0
      (fun k a => by simp only [laws_szOutS.l0]; rw [if_neg (by omega)])
      (fun k a i hi a0 a1 _ => by
        simp only [laws_szOutS.l0]
        rw [if_pos (by omega), if_pos (by omega), w64s hi hl']
        unfold rd_T221
        rw [getD_get hi, szOut_eq _ _ a (hq _ (List.getElem_mem hi)) a0 a1]
        simp only [Option.bind_some]
        by_cases c : a - (l[i].f1.size : Int) < 0
        · left; simp [c]
        · right
          refine ⟨a - l[i].f1.size, by omega, by omega, trivial, ?_⟩
          simp [c])
      l.length k 0 (a - l.length) (by omega) (by omega) (by omega) (by omega) (by omega) with e | ⟨r, r0, r1, hP, e⟩
    · exact .inl e
    · exact .inr ⟨r, r0, by omega, hl', e⟩
theorem toOutS_eq (l : List S221) (k : Nat) (hl : l.length ≤ 1048576) (hk : 1048577 ≤ k) : laws_toOutS.f k l = some (l.map cOut) := by
  unfold laws_toOutS.f
  rw [if_pos (by omega), toNat_nat, if_pos (by omega)]
  exact fillLoop cOut l hl (fun k xs i => laws_toOutS.l0 k l xs i) 0
    (fun k xs => by simp only [laws_toOutS.l0]; rw [if_neg (by omega)])
    (fun k xs i hi hx hK => by
      simp only [laws_toOutS.l0]
      rw [if_pos (by omega), if_pos (by omega)]
      unfold rd_T221 laws_toOut.f
      rw [getD_get hi]
      simp only [Option.bind_some]
      rw [if_pos (by omega), w64s hi hl, toNat_nat]; rfl)
    l.length k 0 (List.replicate l.length z165) (by omega) (by omega) (by omega) (by simp) (fun j hj => by omega)
theorem eqOutS_eq (l : List S165) (k : Nat) (hl : l.length ≤ 1048576) (hk : 1048577 ≤ k) : laws_eqOutS.f k l l = some true := by
  unfold laws_eqOutS.f
  rw [if_pos rfl]
  exact allLoop l.length (fun k i => laws_eqOutS.l0 k l l i) 0
    (fun k => by simp only [laws_eqOutS.l0]; rw [if_neg (by omega)])
    (fun k i hi hK => by
      simp only [laws_eqOutS.l0]
      rw [if_pos (by omega), if_pos (by omega), if_pos (by omega)]
      unfold laws_eqOut.f
      rw [if_pos rfl, if_pos rfl]
      simp only [Option.bind_some, if_true]
      rw [w64s hi hl])
    l.length k 0 (by omega) (by omega) (by omega)
theorem szJournal_eq (n : Int) (d : Bool) (a b c e : Int) (t : ByteArray) (l : List S221) (ht : t.size ≤ 9223372036854775807) (hl : l.length ≤ 9223372036854775807) (hq : ∀ x ∈ l, x.f1.size ≤ 9223372036854775807) (k : Nat) (hk : 1048577 ≤ k) :
    laws_szJournal.f k n d a b c e t l 1048576 = some (-1) ∨ ∃ r, 0 ≤ r ∧ l.length ≤ 1048576 ∧ laws_szJournal.f k n d a b c e t l 1048576 = some r := by
  unfold laws_szJournal.f laws_szOp.f
  rw [w64 (by omega) (by omega)]
  by_cases c1 : (1048576 : Int) - t.size < 0
  · left; simp [c1]
  · rw [if_neg c1]
    simp only [Option.bind_some]
    rw [if_neg c1]
    rcases szOutS_eq l ((1048576 : Int) - t.size) hl hq (by omega) (by omega) k hk with e1 | ⟨r, r0, r1, h2, e1⟩
    · left; rw [e1]; simp
    · right; refine ⟨r, r0, h2, ?_⟩
      rw [e1]; simp only [Option.bind_some]; rw [if_neg (show ¬ r < 0 by omega)]
theorem toJournal_eq (n : Int) (d : Bool) (a b c e : Int) (t : ByteArray) (l : List S221) (hl : l.length ≤ 1048576) (k : Nat) (hk : 1048577 ≤ k) : laws_toJournal.f k n d a b c e t l = some (n, d, a, b, c, e, t, l.map cOut) := by
  unfold laws_toJournal.f laws_toOp.f
  simp only [Option.bind_some]
  rw [toOutS_eq l k hl hk]; rfl
theorem eqJournal_eq (n : Int) (d : Bool) (a b c e : Int) (t : ByteArray) (l : List S165) (hl : l.length ≤ 1048576) (k : Nat) (hk : 1048577 ≤ k) : laws_eqJournal.f k n d a b c e t l n d a b c e t l = some true := by
  unfold laws_eqJournal.f laws_eqOp.f
  rw [if_pos rfl, if_neg (by simp), if_pos rfl, if_pos rfl, if_pos rfl, if_pos rfl, if_pos rfl]
  simp only [Option.bind_some, if_true]
  rw [eqOutS_eq l k hl hk]
  simp
theorem FnExactShowJournal : laws_FnExactShowJournal.Pure := by
  intro n d o L _ _ ho ⟨hL, hq⟩
  refine ⟨1048700, ?_⟩
  unfold laws_FnExactShowJournal.f
  unfold maxLen at hL
  generalize hk : 1048700 = k
  have hk1 : 1048700 ≤ k := by omega
  clear hk
  unfold q70 maxLen at ho
  rcases szJournal_eq n d o.f0 o.f1 o.f2 o.f3 o.f4 L (by omega) hL (fun x hx => by have := hq x hx; unfold q221 maxLen at this; omega) k (by omega) with e | ⟨r, r0, h2, e⟩
  · rw [e]; simp
  · rw [e]; simp only [Option.bind_some]
    rw [if_neg (show ¬ r < 0 by omega), toJournal_eq n d o.f0 o.f1 o.f2 o.f3 o.f4 L h2 k (by omega)]
    simp only [Option.bind_some]
    rw [spec_ShowJournal_eq _ _ _ _ _ _ _ _ k (by omega), impl_ShowJournal_eq _ _ _ _ _ _ _ _ k (by omega)]
    simp only [Option.bind_some, if_true]
    rw [eqJournal_eq _ _ _ _ _ _ _ _ (by simpa using h2) k (by omega)]
    simp

end Go.Proofs.Ytadmodbdkmmplaa.Pure
