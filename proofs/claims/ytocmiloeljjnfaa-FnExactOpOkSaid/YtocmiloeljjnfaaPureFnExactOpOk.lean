/- Proved: the pure statement behind FnExactOpOk: for every call whose parts can be read the law's Lean function answers true. -/
import Derived.Test.YtocmiloeljjnfaaArgFnExactOpOk
import Derived.Test.YtocmiloeljjnfaaNum
namespace Go.Proofs.Ytocmiloeljjnfaa.Pure
open Go.RowKit Go.Proofs.Ytocmiloeljjnfaa.QFnExactOpOk Go.Proofs.YtocmiloeljjnfaaW.PrintWords Go.Proofs.YtocmiloeljjnfaaW.PrintLast Go.Proofs.YtocmiloeljjnfaaW.PrintMore Go.Proofs.Ytocmiloeljjnfaa.Num
set_option linter.unusedSimpArgs false
theorem impl_in_eq (a b c : Int) : impl_in.f a b c = some (decide (b ≤ a ∧ a ≤ c)) := by
  unfold impl_in.f
  by_cases h : b ≤ a <;> simp [h]
theorem l5Vol_eq (a : Int) : spec_l5Vol.f a = some (decide (0 ≤ a ∧ a < 4)) := by
  unfold spec_l5Vol.f
  by_cases h : a ≥ 0
  · rw [if_pos h]; simp; omega
  · rw [if_neg h]; simp; omega
theorem l3Host_eq (a : Int) : spec_l3Host.f a = some (decide (0 ≤ a ∧ a < 3)) := by
  unfold spec_l3Host.f
  by_cases h : a ≥ 0
  · rw [if_pos h]; simp; omega
  · rw [if_neg h]; simp; omega
theorem isHost_eq (a : Int) : impl_isHost.f a = some (decide (0 ≤ a ∧ a < 3)) := by
  unfold impl_isHost.f
  rw [impl_in_eq]; simp only [Option.bind_some, Option.some.injEq, decide_eq_decide]; omega
theorem le3 (x : Int) : (x ≤ 3) = (x < 4) := propext ⟨by omega, by omega⟩
theorem le2 (x : Int) : (x ≤ 2) = (x < 3) := propext ⟨by omega, by omega⟩
theorem size_nil {a : ByteArray} (h : a.toList = []) : a.size = 0 := by
  have : a = (⟨#[]⟩ : ByteArray) := toList_inj.mp (h.trans (by rw [Lib.toList_data]))
  subst this; rfl
theorem eq0 (x : Int) : (0 = x) = (x = 0) := propext ⟨Eq.symm, Eq.symm⟩
theorem beq0 (x : Int) : ((0 : Int) == x) = (x == 0) := BEq.comm
theorem op_1 (a1 a2 a3 : Int) (a4 : ByteArray) (k : Nat) : ∃ b, spec_OpOk.f (k + 5) 1 a1 a2 a3 a4 = some b ∧ impl_isOp.f (k + 5) 1 a1 a2 a3 a4 = some b := by
  refine ⟨decide ((0 ≤ a1 ∧ a1 < 4) ∧ a2 = 0 ∧ a3 = 0 ∧ a4.toList = []), ?_, ?_⟩
  all_goals
    simp [spec_OpOk.f, spec_OpOk.j0, spec_OpOk.j1, spec_OpOk.j2, impl_isOp.f, impl_isOp.j0, impl_isOp.j1, impl_isOp.j2, impl_in_eq, l5Vol_eq, l3Host_eq, isHost_eq, le3, le2, eq0, beq0]
  all_goals
    (by_cases c1 : 0 ≤ a1 <;> by_cases c2 : a1 < 4 <;> by_cases c3 : a2 = 0 <;> by_cases c4 : a3 = 0 <;> by_cases c5 : a4.toList = [] <;> simp_all [-Int.not_lt, -Int.not_le])
theorem op_2 (a1 a2 a3 : Int) (a4 : ByteArray) (k : Nat) : ∃ b, spec_OpOk.f (k + 5) 2 a1 a2 a3 a4 = some b ∧ impl_isOp.f (k + 5) 2 a1 a2 a3 a4 = some b := by
  refine ⟨decide ((0 ≤ a1 ∧ a1 < 4) ∧ a2 = 0 ∧ a3 = 0 ∧ a4.toList = []), ?_, ?_⟩
  all_goals
    simp [spec_OpOk.f, spec_OpOk.j0, spec_OpOk.j1, spec_OpOk.j2, impl_isOp.f, impl_isOp.j0, impl_isOp.j1, impl_isOp.j2, impl_in_eq, l5Vol_eq, l3Host_eq, isHost_eq, le3, le2, eq0, beq0]
  all_goals
    (by_cases c1 : 0 ≤ a1 <;> by_cases c2 : a1 < 4 <;> by_cases c3 : a2 = 0 <;> by_cases c4 : a3 = 0 <;> by_cases c5 : a4.toList = [] <;> simp_all [-Int.not_lt, -Int.not_le])
theorem op_3 (a1 a2 a3 : Int) (a4 : ByteArray) (k : Nat) : ∃ b, spec_OpOk.f (k + 5) 3 a1 a2 a3 a4 = some b ∧ impl_isOp.f (k + 5) 3 a1 a2 a3 a4 = some b := by
  refine ⟨decide ((0 ≤ a1 ∧ a1 < 4) ∧ (0 ≤ a3 ∧ a3 < 4) ∧ a2 = 0 ∧ (a4.size : Int) ≤ 16), ?_, ?_⟩
  all_goals
    simp [spec_OpOk.f, spec_OpOk.j0, spec_OpOk.j1, spec_OpOk.j2, impl_isOp.f, impl_isOp.j0, impl_isOp.j1, impl_isOp.j2, impl_in_eq, l5Vol_eq, l3Host_eq, isHost_eq, le3, le2, eq0, beq0]
  all_goals
    (by_cases c1 : 0 ≤ a1 <;> by_cases c2 : a1 < 4 <;> by_cases c3 : 0 ≤ a3 <;> by_cases c4 : a3 < 4 <;> by_cases c5 : a2 = 0 <;> by_cases c6 : (a4.size : Int) ≤ 16 <;> simp_all [-Int.not_lt, -Int.not_le])
theorem op_4 (a1 a2 a3 : Int) (a4 : ByteArray) (k : Nat) : ∃ b, spec_OpOk.f (k + 5) 4 a1 a2 a3 a4 = some b ∧ impl_isOp.f (k + 5) 4 a1 a2 a3 a4 = some b := by
  refine ⟨decide ((0 ≤ a1 ∧ a1 < 4) ∧ (0 ≤ a3 ∧ a3 < 4) ∧ a2 = 0 ∧ a4.toList = [] ∧ (a4.size : Int) ≤ 16), ?_, ?_⟩
  all_goals
    simp [spec_OpOk.f, spec_OpOk.j0, spec_OpOk.j1, spec_OpOk.j2, impl_isOp.f, impl_isOp.j0, impl_isOp.j1, impl_isOp.j2, impl_in_eq, l5Vol_eq, l3Host_eq, isHost_eq, le3, le2, eq0, beq0]
  all_goals
    have hz := fun h : a4.toList = [] => size_nil h
    (by_cases c1 : 0 ≤ a1 <;> by_cases c2 : a1 < 4 <;> by_cases c3 : 0 ≤ a3 <;> by_cases c4 : a3 < 4 <;> by_cases c5 : a2 = 0 <;> by_cases c6 : a4.toList = [] <;> simp_all [-Int.not_lt, -Int.not_le])
theorem op_5 (a1 a2 a3 : Int) (a4 : ByteArray) (k : Nat) : ∃ b, spec_OpOk.f (k + 5) 5 a1 a2 a3 a4 = some b ∧ impl_isOp.f (k + 5) 5 a1 a2 a3 a4 = some b := by
  refine ⟨decide ((0 ≤ a1 ∧ a1 < 4) ∧ (0 ≤ a2 ∧ a2 < 4) ∧ a1 ≠ a2 ∧ a3 = 0 ∧ a4.toList = []), ?_, ?_⟩
  all_goals
    simp [spec_OpOk.f, spec_OpOk.j0, spec_OpOk.j1, spec_OpOk.j2, impl_isOp.f, impl_isOp.j0, impl_isOp.j1, impl_isOp.j2, impl_in_eq, l5Vol_eq, l3Host_eq, isHost_eq, le3, le2, eq0, beq0]
  all_goals
    (by_cases c1 : 0 ≤ a1 <;> by_cases c2 : a1 < 4 <;> by_cases c3 : 0 ≤ a2 <;> by_cases c4 : a2 < 4 <;> by_cases c5 : a1 = a2 <;> by_cases c6 : a3 = 0 <;> by_cases c7 : a4.toList = [] <;> simp_all [-Int.not_lt, -Int.not_le]) <;> exact fun h => c5 h.symm
theorem op_6 (a1 a2 a3 : Int) (a4 : ByteArray) (k : Nat) : ∃ b, spec_OpOk.f (k + 5) 6 a1 a2 a3 a4 = some b ∧ impl_isOp.f (k + 5) 6 a1 a2 a3 a4 = some b := by
  refine ⟨decide (a1 = 0 ∧ a2 = 0 ∧ a3 = 0 ∧ a4.toList = []), ?_, ?_⟩
  all_goals
    simp [spec_OpOk.f, spec_OpOk.j0, spec_OpOk.j1, spec_OpOk.j2, impl_isOp.f, impl_isOp.j0, impl_isOp.j1, impl_isOp.j2, impl_in_eq, l5Vol_eq, l3Host_eq, isHost_eq, le3, le2, eq0, beq0]
  all_goals
    (by_cases c1 : a1 = 0 <;> by_cases c2 : a2 = 0 <;> by_cases c3 : a3 = 0 <;> by_cases c4 : a4.toList = [] <;> simp_all [-Int.not_lt, -Int.not_le])
theorem op_7 (a1 a2 a3 : Int) (a4 : ByteArray) (k : Nat) : ∃ b, spec_OpOk.f (k + 5) 7 a1 a2 a3 a4 = some b ∧ impl_isOp.f (k + 5) 7 a1 a2 a3 a4 = some b := by
  refine ⟨decide ((0 ≤ a1 ∧ a1 < 4) ∧ (0 ≤ a3 ∧ a3 < 4) ∧ a2 = 0 ∧ a4.toList = [] ∧ (a4.size : Int) ≤ 16), ?_, ?_⟩
  all_goals
    simp [spec_OpOk.f, spec_OpOk.j0, spec_OpOk.j1, spec_OpOk.j2, impl_isOp.f, impl_isOp.j0, impl_isOp.j1, impl_isOp.j2, impl_in_eq, l5Vol_eq, l3Host_eq, isHost_eq, le3, le2, eq0, beq0]
  all_goals
    have hz := fun h : a4.toList = [] => size_nil h
    (by_cases c1 : 0 ≤ a1 <;> by_cases c2 : a1 < 4 <;> by_cases c3 : 0 ≤ a3 <;> by_cases c4 : a3 < 4 <;> by_cases c5 : a2 = 0 <;> by_cases c6 : a4.toList = [] <;> simp_all [-Int.not_lt, -Int.not_le])
theorem op_8 (a1 a2 a3 : Int) (a4 : ByteArray) (k : Nat) : ∃ b, spec_OpOk.f (k + 5) 8 a1 a2 a3 a4 = some b ∧ impl_isOp.f (k + 5) 8 a1 a2 a3 a4 = some b := by
  refine ⟨decide ((0 ≤ a1 ∧ a1 < 4) ∧ a2 = 0 ∧ a3 = 0 ∧ a4.toList = []), ?_, ?_⟩
  all_goals
    simp [spec_OpOk.f, spec_OpOk.j0, spec_OpOk.j1, spec_OpOk.j2, impl_isOp.f, impl_isOp.j0, impl_isOp.j1, impl_isOp.j2, impl_in_eq, l5Vol_eq, l3Host_eq, isHost_eq, le3, le2, eq0, beq0]
  all_goals
    (by_cases c1 : 0 ≤ a1 <;> by_cases c2 : a1 < 4 <;> by_cases c3 : a2 = 0 <;> by_cases c4 : a3 = 0 <;> by_cases c5 : a4.toList = [] <;> simp_all [-Int.not_lt, -Int.not_le])
theorem op_9 (a1 a2 a3 : Int) (a4 : ByteArray) (k : Nat) : ∃ b, spec_OpOk.f (k + 5) 9 a1 a2 a3 a4 = some b ∧ impl_isOp.f (k + 5) 9 a1 a2 a3 a4 = some b := by
  refine ⟨decide ((0 ≤ a1 ∧ a1 < 4) ∧ a2 = 0 ∧ a3 = 0 ∧ a4.toList = []), ?_, ?_⟩
  all_goals
    simp [spec_OpOk.f, spec_OpOk.j0, spec_OpOk.j1, spec_OpOk.j2, impl_isOp.f, impl_isOp.j0, impl_isOp.j1, impl_isOp.j2, impl_in_eq, l5Vol_eq, l3Host_eq, isHost_eq, le3, le2, eq0, beq0]
  all_goals
    (by_cases c1 : 0 ≤ a1 <;> by_cases c2 : a1 < 4 <;> by_cases c3 : a2 = 0 <;> by_cases c4 : a3 = 0 <;> by_cases c5 : a4.toList = [] <;> simp_all [-Int.not_lt, -Int.not_le])
theorem op_10 (a1 a2 a3 : Int) (a4 : ByteArray) (k : Nat) : ∃ b, spec_OpOk.f (k + 5) 10 a1 a2 a3 a4 = some b ∧ impl_isOp.f (k + 5) 10 a1 a2 a3 a4 = some b := by
  refine ⟨decide ((0 ≤ a1 ∧ a1 < 3) ∧ a2 = 0 ∧ a3 = 0 ∧ a4.toList = []), ?_, ?_⟩
  all_goals
    simp [spec_OpOk.f, spec_OpOk.j0, spec_OpOk.j1, spec_OpOk.j2, impl_isOp.f, impl_isOp.j0, impl_isOp.j1, impl_isOp.j2, impl_in_eq, l5Vol_eq, l3Host_eq, isHost_eq, le3, le2, eq0, beq0]
  all_goals
    (by_cases c1 : 0 ≤ a1 <;> by_cases c2 : a1 < 3 <;> by_cases c3 : a2 = 0 <;> by_cases c4 : a3 = 0 <;> by_cases c5 : a4.toList = [] <;> simp_all [-Int.not_lt, -Int.not_le])
theorem op_11 (a1 a2 a3 : Int) (a4 : ByteArray) (k : Nat) : ∃ b, spec_OpOk.f (k + 5) 11 a1 a2 a3 a4 = some b ∧ impl_isOp.f (k + 5) 11 a1 a2 a3 a4 = some b := by
  refine ⟨decide ((0 ≤ a1 ∧ a1 < 3) ∧ a2 = 0 ∧ a3 = 0 ∧ a4.toList = []), ?_, ?_⟩
  all_goals
    simp [spec_OpOk.f, spec_OpOk.j0, spec_OpOk.j1, spec_OpOk.j2, impl_isOp.f, impl_isOp.j0, impl_isOp.j1, impl_isOp.j2, impl_in_eq, l5Vol_eq, l3Host_eq, isHost_eq, le3, le2, eq0, beq0]
  all_goals
    (by_cases c1 : 0 ≤ a1 <;> by_cases c2 : a1 < 3 <;> by_cases c3 : a2 = 0 <;> by_cases c4 : a3 = 0 <;> by_cases c5 : a4.toList = [] <;> simp_all [-Int.not_lt, -Int.not_le])
theorem op_12 (a1 a2 a3 : Int) (a4 : ByteArray) (k : Nat) : ∃ b, spec_OpOk.f (k + 5) 12 a1 a2 a3 a4 = some b ∧ impl_isOp.f (k + 5) 12 a1 a2 a3 a4 = some b := by
  refine ⟨decide ((0 ≤ a1 ∧ a1 < 3) ∧ a2 = 0 ∧ a3 = 0 ∧ a4.toList = []), ?_, ?_⟩
  all_goals
    simp [spec_OpOk.f, spec_OpOk.j0, spec_OpOk.j1, spec_OpOk.j2, impl_isOp.f, impl_isOp.j0, impl_isOp.j1, impl_isOp.j2, impl_in_eq, l5Vol_eq, l3Host_eq, isHost_eq, le3, le2, eq0, beq0]
  all_goals
    (by_cases c1 : 0 ≤ a1 <;> by_cases c2 : a1 < 3 <;> by_cases c3 : a2 = 0 <;> by_cases c4 : a3 = 0 <;> by_cases c5 : a4.toList = [] <;> simp_all [-Int.not_lt, -Int.not_le])
theorem op_same (a0 a1 a2 a3 : Int) (a4 : ByteArray) (k : Nat) (hk : 5 ≤ k) : ∃ b, spec_OpOk.f k a0 a1 a2 a3 a4 = some b ∧ impl_isOp.f k a0 a1 a2 a3 a4 = some b := by
  obtain ⟨k, rfl⟩ : ∃ m, k = m + 5 := ⟨k - 5, by omega⟩
  by_cases h1 : a0 = 1
  · subst h1; exact op_1 a1 a2 a3 a4 k
  by_cases h2 : a0 = 2
  · subst h2; exact op_2 a1 a2 a3 a4 k
  by_cases h3 : a0 = 3
  · subst h3; exact op_3 a1 a2 a3 a4 k
  by_cases h4 : a0 = 4
  · subst h4; exact op_4 a1 a2 a3 a4 k
  by_cases h5 : a0 = 5
  · subst h5; exact op_5 a1 a2 a3 a4 k
  by_cases h6 : a0 = 6
  · subst h6; exact op_6 a1 a2 a3 a4 k
  by_cases h7 : a0 = 7
  · subst h7; exact op_7 a1 a2 a3 a4 k
  by_cases h8 : a0 = 8
  · subst h8; exact op_8 a1 a2 a3 a4 k
  by_cases h9 : a0 = 9
  · subst h9; exact op_9 a1 a2 a3 a4 k
  by_cases h10 : a0 = 10
  · subst h10; exact op_10 a1 a2 a3 a4 k
  by_cases h11 : a0 = 11
  · subst h11; exact op_11 a1 a2 a3 a4 k
  by_cases h12 : a0 = 12
  · subst h12; exact op_12 a1 a2 a3 a4 k
  exact ⟨false, by simp [spec_OpOk.f, spec_OpOk.j0, spec_OpOk.j1, spec_OpOk.j2, impl_isOp.f, impl_isOp.j0, impl_isOp.j1, impl_isOp.j2, impl_in_eq, l5Vol_eq, l3Host_eq, isHost_eq, le3, le2, h1, h2, h3, h4, h5, h6, h7, h8, h9, h10, h11, h12], by simp [spec_OpOk.f, spec_OpOk.j0, spec_OpOk.j1, spec_OpOk.j2, impl_isOp.f, impl_isOp.j0, impl_isOp.j1, impl_isOp.j2, impl_in_eq, l5Vol_eq, l3Host_eq, isHost_eq, le3, le2, h1, h2, h3, h4, h5, h6, h7, h8, h9, h10, h11, h12]⟩
theorem FnExactOpOk : laws_FnExactOpOk.Pure := by
  intro a0 a1 a2 a3 a4 _ _ _ _ h4
  unfold maxLen at h4
  refine ⟨5, ?_⟩
  obtain ⟨b, e1, e2⟩ := op_same a0 a1 a2 a3 a4 5 (by omega)
  unfold laws_FnExactOpOk.f laws_szOp.f laws_toOp.f impl_OpOk.f
  simp only [Option.bind_some, e1, e2]
  rw [w64 (by omega) (by omega)]
  by_cases hs : (1048576 : Int) - a4.size < 0
  · rw [if_pos hs]; simp
  · rw [if_neg hs]; simp [hs]

end Go.Proofs.Ytocmiloeljjnfaa.Pure
