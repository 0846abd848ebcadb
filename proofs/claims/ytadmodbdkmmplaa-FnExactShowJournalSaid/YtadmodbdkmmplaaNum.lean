/- Plain facts on numbers, bytes and strings, for the pure statements. No program in sight; no condition beyond each lemma's own premises. -/
import Derived.Laws.BitsLemmas
import Derived.Lib.Bytes
import Derived.RowKit
import Derived.Test.YtadmodbdkmmplaaWMore
namespace Go.Proofs.Ytadmodbdkmmplaa.Num
open Go.RowKit Go.Proofs.YtadmodbdkmmplaaW.PrintWords Go.Proofs.YtadmodbdkmmplaaW.PrintMore
set_option linter.unusedSimpArgs false
set_option linter.unusedVariables false

theorem w64 {n : Int} (h0 : -9223372036854775808 ≤ n) (h1 : n ≤ 9223372036854775807) : wrap64 n = n := by unfold wrap64; omega
theorem i64_bounds {n : Int} (h : (Lit.int .i64 n).wf = true) : -9223372036854775808 ≤ n ∧ n ≤ 9223372036854775807 := by
  simp [Lit.wf, IntKind.min, IntKind.max, IntKind.bits, IntKind.signed] at h
  omega
theorem td {x : Int} (h : 0 ≤ x) (y : Int) : Int.tdiv x y = x / y := Int.tdiv_eq_ediv_of_nonneg h
theorem tm {x : Int} (h : 0 ≤ x) (y : Int) : Int.tmod x y = x % y := Int.tmod_eq_emod_of_nonneg h
theorem b64 (s : ByteArray) (i : Int) : wrap64 (bt s i) = bt s i := by have := bt_range s i; exact w64 (by omega) (by omega)
theorem wraps_i64 (n : Int) (h0 : 0 ≤ n) (h1 : n < 2 ^ 63) : IntKind.i64.wrap n = n := by rw [IntKind.wrap_i64]; omega
theorem wraps_u32 (n : Int) (h0 : 0 ≤ n) (h1 : n < 2 ^ 32) : IntKind.u32.wrap n = n := by rw [IntKind.wrap_u32]; omega

theorem bits_xor (k : IntKind) (j : Nat) (hj : j ≤ k.bits) (hk : ∀ n : Int, 0 ≤ n → n < 2 ^ j → k.wrap n = n) (a b : Int) (ha0 : 0 ≤ a) (hb0 : 0 ≤ b) (ha : a < 2 ^ j) (hb : b < 2 ^ j) :
    bits .xor k a b = ((a.toNat ^^^ b.toNat : Nat) : Int) := by
  obtain ⟨a, rfl⟩ := Int.eq_ofNat_of_zero_le ha0
  obtain ⟨b, rfl⟩ := Int.eq_ofNat_of_zero_le hb0
  have ha1 : a < 2 ^ j := by exact_mod_cast ha
  have hb1 : b < 2 ^ j := by exact_mod_cast hb
  have hp : 2 ^ j ≤ 2 ^ k.bits := Nat.pow_le_pow_right (by decide) hj
  have ha' : a % 2 ^ k.bits = a := Nat.mod_eq_of_lt (Nat.lt_of_lt_of_le ha1 hp)
  have hb' : b % 2 ^ k.bits = b := Nat.mod_eq_of_lt (Nat.lt_of_lt_of_le hb1 hp)
  simp only [bits, BitVec.ofInt_natCast, BitVec.toNat_xor, BitVec.toNat_ofNat, ha', hb', Int.toNat_natCast]
  refine hk _ (Int.natCast_nonneg _) ?_
  have := Nat.xor_lt_two_pow ha1 hb1
  exact_mod_cast this
theorem xor_lt {a b : Int} (j : Nat) (ha0 : 0 ≤ a) (hb0 : 0 ≤ b) (ha : a < 2 ^ j) (hb : b < 2 ^ j) : 0 ≤ ((a.toNat ^^^ b.toNat : Nat) : Int) ∧ ((a.toNat ^^^ b.toNat : Nat) : Int) < 2 ^ j := by
  obtain ⟨a, rfl⟩ := Int.eq_ofNat_of_zero_le ha0
  obtain ⟨b, rfl⟩ := Int.eq_ofNat_of_zero_le hb0
  have ha1 : a < 2 ^ j := by exact_mod_cast ha
  have hb1 : b < 2 ^ j := by exact_mod_cast hb
  refine ⟨Int.natCast_nonneg _, ?_⟩
  have := Nat.xor_lt_two_pow ha1 hb1
  simp only [Int.toNat_natCast]
  exact_mod_cast this
/-- 64 bits and 32 bits: the same, below 2^32. -/
theorem xor_64_32 {a b : Int} (ha0 : 0 ≤ a) (hb0 : 0 ≤ b) (ha : a < 4294967296) (hb : b < 4294967296) :
    ∃ c, bits .xor .i64 a b = c ∧ bits .xor .u32 a b = c ∧ 0 ≤ c ∧ c < 4294967296 := by
  refine ⟨_, bits_xor .i64 63 (by decide) wraps_i64 a b ha0 hb0 (by omega) (by omega), bits_xor .u32 32 (by decide) wraps_u32 a b ha0 hb0 (by omega) (by omega), ?_⟩
  have := xor_lt 32 ha0 hb0 (by omega) (by omega)
  omega
theorem u32_and1 {x : Int} (h0 : 0 ≤ x) (h1 : x < 4294967296) : bits .and .u32 x 1 = x % 2 := bits_mask .u32 32 (by decide) wraps_u32 1 (by decide) x h0 (by omega)
theorem u8_and127 {x : Int} (h0 : 0 ≤ x) (h1 : x < 256) : bits .and .u8 x 127 = x % 128 := bits_mask .u8 8 (by decide) wraps_u8 7 (by decide) x h0 (by omega)
set_option maxRecDepth 20000 in
theorem u8_or_128 {x : Int} (h0 : 0 ≤ x) (h1 : x < 256) : bits .or .u8 x 128 = 128 + x % 128 := by
  obtain ⟨a, rfl⟩ := Int.eq_ofNat_of_zero_le h0
  have ha : a < 256 := by exact_mod_cast h1
  have e := (bits_nat .u8 8 (by decide) wraps_u8 a 128 (by omega) (by omega)).2
  have e' : bits .or .u8 (a : Int) 128 = ((a ||| 128 : Nat) : Int) := e
  rw [e']
  have : ∀ n : Fin 256, ((n.val ||| 128 : Nat) : Int) = 128 + (n.val : Int) % 128 := by decide
  exact this ⟨a, ha⟩
theorem i64_join {x y : Int} (i : Nat) (hx0 : 0 ≤ x) (hx : x % 2 ^ i = 0) (hx1 : x < 2 ^ 63) (hy0 : 0 ≤ y) (hy : y < 2 ^ i) (hy1 : y < 2 ^ 63) : bits .or .i64 x y = x + y :=
  bits_join .i64 63 (by decide) wraps_i64 i x y hx0 hx hx1 hy0 hy hy1
theorem i64_or_comm (x y : Int) : bits .or .i64 x y = bits .or .i64 y x :=
  congrArg (fun v : BitVec IntKind.i64.bits => IntKind.i64.wrap (v.toNat : Int)) (BitVec.or_comm (BitVec.ofInt _ x) (BitVec.ofInt _ y))

/-! ### Strings as lists of numbers -/
def L (s : ByteArray) : List Int := s.data.toList.map fun b => (b.toNat : Int)
def Bytes (xs : List Int) : Prop := ∀ x ∈ xs, 0 ≤ x ∧ x < 256
theorem Bytes.nil : Bytes [] := fun _ h => by cases h
theorem Bytes.cons {x : Int} {xs : List Int} (h0 : 0 ≤ x) (h1 : x < 256) (h : Bytes xs) : Bytes (x :: xs) := fun y hy => by
  rcases List.mem_cons.mp hy with rfl | hy
  · exact ⟨h0, h1⟩
  · exact h y hy
theorem Bytes.append {xs ys : List Int} (h : Bytes xs) (k : Bytes ys) : Bytes (xs ++ ys) := fun y hy => by
  rcases List.mem_append.mp hy with hy | hy
  · exact h y hy
  · exact k y hy
theorem Bytes.take {xs : List Int} (h : Bytes xs) (n : Nat) : Bytes (xs.take n) := fun y hy => h y (List.mem_of_mem_take hy)
theorem Bytes.drop {xs : List Int} (h : Bytes xs) (n : Nat) : Bytes (xs.drop n) := fun y hy => h y (List.mem_of_mem_drop hy)
theorem L_bytes (s : ByteArray) : Bytes (L s) := fun y hy => by
  unfold L at hy
  obtain ⟨b, _, rfl⟩ := List.mem_map.mp hy
  have := b.toNat_lt
  omega
theorem L_length (s : ByteArray) : (L s).length = s.size := by unfold L; rw [List.length_map]; rfl
theorem strOfNums_L (s : ByteArray) : strOfNums (L s) = s := by
  unfold strOfNums L
  rw [List.map_map]
  have : (fun n : Int => UInt8.ofNat n.toNat) ∘ (fun b : UInt8 => (b.toNat : Int)) = id := by funext b; simp
  rw [this, List.map_id]
theorem L_strOfNums {xs : List Int} (h : Bytes xs) : L (strOfNums xs) = xs := by
  unfold L
  rw [strOfNums_data, List.map_map]
  have e : xs = xs.map id := by simp
  conv => rhs; rw [e]
  apply List.map_congr_left
  intro x hx
  obtain ⟨h0, h1⟩ := h x hx
  simp only [Function.comp, id]
  obtain ⟨n, rfl⟩ := Int.eq_ofNat_of_zero_le h0
  have : n < 256 := by omega
  simp [UInt8.toNat_ofNat', Nat.mod_eq_of_lt this]
theorem L_inj {s t : ByteArray} (h : L s = L t) : s = t := by rw [← strOfNums_L s, h, strOfNums_L]
theorem toList_L (s : ByteArray) : s.toList = (L s).map fun n => UInt8.ofNat n.toNat := by
  rw [Lib.toList_data]
  conv => lhs; rw [← strOfNums_L s]
  rw [strOfNums_data]
theorem toList_inj {s t : ByteArray} : s.toList = t.toList ↔ s = t := by
  constructor
  · intro h
    rw [Lib.toList_data, Lib.toList_data] at h
    cases s; cases t; simp_all
  · intro h; rw [h]
theorem L_append (s t : ByteArray) : L (s ++ t) = L s ++ L t := by
  unfold L
  rw [← List.map_append]
  congr 1
theorem strOfNums_append (xs ys : List Int) : strOfNums xs ++ strOfNums ys = strOfNums (xs ++ ys) := by
  cases h : strOfNums xs ++ strOfNums ys with
  | mk d =>
    have : d = (strOfNums xs ++ strOfNums ys).data := by rw [h]
    rw [this]
    have h2 : (strOfNums xs ++ strOfNums ys).data.toList = (strOfNums (xs ++ ys)).data.toList := by
      rw [strOfNums_data, List.map_append]
      simp [strOfNums]
    cases hd : strOfNums (xs ++ ys) with
    | mk e =>
      rw [hd] at h2
      congr 1
      exact Array.toList_inj.mp h2
theorem L_extract (s : ByteArray) (a b : Nat) : L (s.extract a b) = ((L s).drop a).take (b - a) := by
  unfold L
  rw [Lib.extract_data, List.map_take, List.map_drop]
theorem bt_L (s : ByteArray) (i : Int) : bt s i = (L s).getD i.toNat 0 := by
  unfold bt L
  split
  · rename_i h
    have h' : i.toNat < s.data.toList.length := by simpa using h
    simp [List.getD, List.getElem?_map, List.getElem?_eq_getElem h']
    rfl
  · rename_i h
    have h' : s.data.toList.length ≤ i.toNat := by
      have : s.data.toList.length = s.size := by simp
      omega
    simp [List.getD, List.getElem?_map, List.getElem?_eq_none h']
theorem L_nil : L (⟨#[]⟩ : ByteArray) = [] := rfl
theorem strOfNums_nil : strOfNums [] = (⟨#[]⟩ : ByteArray) := rfl

/-! ### A number, seven bits to a byte -/
/-- The bytes of Var, with so many more rounds at most. -/
def vL : Nat → Int → List Int
  | 0, n => [n % 256]
  | f + 1, n => if 128 ≤ n then (128 + n % 128) :: vL f (n / 128) else [n % 256]
theorem vL_bytes : ∀ f n, Bytes (vL f n)
  | 0, n => Bytes.cons (by omega) (by omega) Bytes.nil
  | f + 1, n => by
    unfold vL
    split
    · exact Bytes.cons (by omega) (by omega) (vL_bytes f _)
    · exact Bytes.cons (by omega) (by omega) Bytes.nil
theorem vL_len : ∀ f n, 1 ≤ (vL f n).length ∧ (vL f n).length ≤ f + 1
  | 0, n => by simp [vL]
  | f + 1, n => by
    unfold vL
    have := vL_len f (n / 128)
    split <;> simp <;> omega
/-- What a list of bytes says, seven bits to each. -/
def val : List Int → Int
  | [] => 0
  | b :: l => b % 128 + 128 * val l
theorem val_cons (b : Int) (l : List Int) : val (b :: l) = b % 128 + 128 * val l := rfl
theorem val_nonneg : ∀ l, 0 ≤ val l
  | [] => by simp [val]
  | b :: l => by have := val_nonneg l; unfold val; omega
theorem val_lt : ∀ l, val l < 128 ^ l.length
  | [] => by simp [val]
  | b :: l => by
    have := val_lt l
    rw [List.length_cons, Int.pow_succ]
    unfold val
    omega
/-- The bytes are those of a number: all but the last one say that more follows; the last one is not an idle 0. -/
def canon : List Int → Bool
  | [] => false
  | [b] => decide (b < 128)
  | b :: l => decide (128 ≤ b) && canon l && decide (0 < val l)
theorem vL_val : ∀ (f : Nat) (l : List Int), Bytes l → l.length ≤ f → (vL f (val l) = l ↔ canon l = true)
  | 0, [], _, _ => by simp [vL, canon]
  | f + 1, [], _, _ => by simp [vL, val, canon]
  | 0, b :: l, _, h => by simp at h
  | f + 1, [b], h, _ => by
    have := h b (by simp)
    have e : ¬ (128 : Int) ≤ b % 128 := by omega
    simp only [vL, val, canon, Int.mul_zero, Int.add_zero, if_neg e, decide_eq_true_eq, List.cons.injEq, and_true]
    omega
  | f + 1, b :: c :: l, h, hl => by
    have hb := h b (by simp)
    have hn := val_nonneg (c :: l)
    have ih := vL_val f (c :: l) (fun x hx => h x (List.mem_cons_of_mem _ hx)) (by simpa using hl)
    have hc : canon (b :: c :: l) = (decide (128 ≤ b) && canon (c :: l) && decide (0 < val (c :: l))) := rfl
    have hv : val (b :: c :: l) = b % 128 + 128 * val (c :: l) := rfl
    rw [hc, hv]
    by_cases h0 : 0 < val (c :: l)
    · have e : (128 : Int) ≤ b % 128 + 128 * val (c :: l) := by omega
      have e1 : (b % 128 + 128 * val (c :: l)) % 128 = b % 128 := by omega
      have e2 : (b % 128 + 128 * val (c :: l)) / 128 = val (c :: l) := by omega
      simp only [vL, if_pos e, e1, e2, List.cons.injEq, Bool.and_eq_true, decide_eq_true_eq, h0, and_true]
      rw [ih]
      constructor
      · rintro ⟨p, q⟩; exact ⟨by omega, q⟩
      · rintro ⟨p, q⟩; exact ⟨by omega, q⟩
    · have e : ¬ (128 : Int) ≤ b % 128 + 128 * val (c :: l) := by omega
      simp only [vL, if_neg e]
      simp [h0]
theorem vL_more {n : Int} (h0 : 0 ≤ n) : ∀ (f g : Nat), n < 128 ^ (f + 1) → f ≤ g → vL g n = vL f n
  | 0, 0, _, _ => rfl
  | 0, g + 1, h, _ => by
    have : ¬ (128 : Int) ≤ n := by simp at h; omega
    simp [vL, this]
  | f + 1, 0, _, h => by omega
  | f + 1, g + 1, h, hg => by
    by_cases e : (128 : Int) ≤ n
    · simp only [vL, if_pos e]
      rw [vL_more (by omega) f g (by rw [Int.pow_succ] at h; omega) (by omega)]
    · simp [vL, e]
theorem val_append : ∀ (l m : List Int), val (l ++ m) = val l + 128 ^ l.length * val m
  | [], m => by simp [val]
  | b :: l, m => by
    rw [List.cons_append, List.length_cons, Int.pow_succ, val_cons, val_cons, val_append l m, Int.mul_add, Int.mul_comm (128 ^ l.length) 128, Int.mul_assoc]
    omega
/-- A byte below 128 that is not the last one: no number's bytes. -/
theorem canon_small : ∀ (l : List Int) (j : Nat), j + 1 < l.length → l.getD j 0 < 128 → canon l = false
  | [], _, h, _ => by simp at h
  | [b], _, h, _ => by simp at h
  | b :: c :: l, 0, _, h1 => by
    have hc : canon (b :: c :: l) = (decide (128 ≤ b) && canon (c :: l) && decide (0 < val (c :: l))) := rfl
    rw [hc, decide_eq_false (by simpa using h1)]; simp
  | b :: c :: l, j + 1, h, h1 => by
    have hc : canon (b :: c :: l) = (decide (128 ≤ b) && canon (c :: l) && decide (0 < val (c :: l))) := rfl
    rw [hc, canon_small (c :: l) j (by simpa using h) (by simpa using h1)]; simp
/-- All bytes ahead of the last one are great: it goes by the last one. -/
theorem canon_snoc : ∀ (l : List Int) (b : Int), (∀ x ∈ l, 128 ≤ x) → 0 ≤ b → canon (l ++ [b]) = (decide (b < 128) && (l.isEmpty || decide (0 < b)))
  | [], b, _, h0 => by simp [canon]
  | [a], b, h, h0 => by
    have hc : canon ([a] ++ [b]) = (decide (128 ≤ a) && canon [b] && decide (0 < val [b])) := rfl
    rw [hc, decide_eq_true (h a (by simp))]
    have hv : val [b] = b % 128 := by simp [val]
    have hc2 : canon [b] = decide (b < 128) := rfl
    rw [hv, hc2]
    by_cases hb : b < 128
    · have : b % 128 = b := by omega
      simp [hb, this]
    · simp [hb]
  | a :: c :: l, b, h, h0 => by
    have hc : canon (a :: (c :: l ++ [b])) = (decide (128 ≤ a) && canon (c :: l ++ [b]) && decide (0 < val (c :: l ++ [b]))) := rfl
    have hv := val_append (c :: l) [b]
    have hvb : val [b] = b % 128 := by simp [val]
    have hp : (0 : Int) < 128 ^ (c :: l).length := Int.pow_pos (by decide)
    have hn := val_nonneg (c :: l)
    rw [List.cons_append, hc, decide_eq_true (h a (by simp)), canon_snoc (c :: l) b (fun x hx => h x (List.mem_cons_of_mem _ hx)) h0]
    by_cases hb : b < 128
    · by_cases hb0 : 0 < b
      · have : 0 < val (c :: l ++ [b]) := by
          rw [hv, hvb, show b % 128 = b by omega]
          have := Int.mul_pos hp hb0
          omega
        rw [List.cons_append] at this
        simp [hb, hb0, this]
      · simp [hb0]
    · simp [hb]

/-! ### Loops that copy element by element -/
theorem set_prefix {α : Type} {xs l : List α} {i : Nat} (z : α) (hl : xs.length = l.length) (hi : i < l.length) (h : ∀ j, j < i → xs[j]? = l[j]?) : ∀ j, j < i + 1 → (xs.set i (l.getD i z))[j]? = l[j]? := by
  intro j hj
  rw [List.getElem?_set]
  by_cases e : i = j
  · subst e
    simp [hl, hi, List.getD, List.getElem?_eq_getElem hi]
  · rw [if_neg e]
    exact h j (by omega)
theorem prefix_all {α : Type} {xs l : List α} (hl : xs.length = l.length) (h : ∀ j, j < l.length → xs[j]? = l[j]?) : xs = l := by
  apply List.ext_getElem?
  intro j
  rcases Nat.lt_or_ge j l.length with hj | hj
  · exact h j hj
  · rw [List.getElem?_eq_none (by omega), List.getElem?_eq_none hj]
theorem toNat_nat (n : Nat) : ((n : Int)).toNat = n := Int.toNat_natCast n
theorem w64s {i n : Nat} (hi : i < n) (hn : n ≤ 1048576) : wrap64 ((i : Int) + 1) = ((i + 1 : Nat) : Int) := by rw [w64 (by omega) (by omega)]; rfl

end Go.Proofs.Ytadmodbdkmmplaa.Num
