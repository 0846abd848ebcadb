/- Lean functions that answer as the Go functions do, and proofs that the calls come to these answers. Written for this claim by a program of this session, out of the kit's print; conditions: the premises of each theorem. -/
import Derived.Test.YtadmodbdkmmplaaQFnExactShowJournalx0
import Derived.Test.YtadmodbdkmmplaaQFnExactShowJournalx7
import Derived.Test.YtadmodbdkmmplaaQFnExactShowJournalx8
namespace Go.Proofs.Ytadmodbdkmmplaa.QFnExactShowJournal
open Go.RowKit Go.Proofs.YtadmodbdkmmplaaW.PrintWords Go.Proofs.YtadmodbdkmmplaaW.PrintLast Go.Proofs.YtadmodbdkmmplaaW.PrintMore
attribute [local go_sem] max2_int min2_int max_two min_two max_three min_three max_four min_four   -- for this text's walks alone
set_option linter.unusedVariables false
set_option linter.unusedSimpArgs false

/-! ### impl_ShowJournal: function 44 -/
def impl_ShowJournal.l0 : Nat → ByteArray → List (S165) → Int → Int → Option (ByteArray)
 | 0, _, _, _, _ => none
 | k + 1, x3, x43, x44, x45 => if x45 < x44 then (if 0 ≤ x45 then (if x45 < (x43.length : Int) then ((impl_Var.f k ((rd_T165 x43 x45).f0)).bind fun t227 => ((impl_pieceText.f k ((rd_T165 x43 x45).f1)).bind fun t228 => (if t227.size + t228.size ≤ 9223372036854775807 then (if x3.size + (t227 ++ t228).size ≤ 9223372036854775807 then (impl_ShowJournal.l0 k (x3 ++ (t227 ++ t228)) x43 x44 (wrap64 (x45 + 1))) else (none)) else (none)))) else (none)) else (none)) else ((impl_packed.f k x3).bind fun t229 => (some t229))
def impl_ShowJournal.f (k : Nat) (a0_0 : Int) (a0_1 : Bool) (a0_2 : Int) (a0_3 : Int) (a0_4 : Int) (a0_5 : Int) (a0_6 : ByteArray) (l0_7 : List (S165)) : Option (ByteArray) := (impl_isJournal.f k a0_0 a0_1 a0_2 a0_3 a0_4 a0_5 a0_6 l0_7).bind fun t216 => (if t216 = true then ((impl_Var.f k a0_0).bind fun t217 => (if 1 + t217.size ≤ 9223372036854775807 then ((impl_flagText.f k a0_1).bind fun t218 => (if ((⟨#[106]⟩ : ByteArray) ++ t217).size + t218.size ≤ 9223372036854775807 then ((impl_vars.f k (([a0_2, a0_3, a0_4, a0_5] : List Int))).bind fun t222 => (if (((⟨#[106]⟩ : ByteArray) ++ t217) ++ t218).size + t222.size ≤ 9223372036854775807 then ((impl_pieceText.f k a0_6).bind fun t223 => (if ((((⟨#[106]⟩ : ByteArray) ++ t217) ++ t218) ++ t222).size + t223.size ≤ 9223372036854775807 then ((impl_Var.f k (l0_7.length : Int)).bind fun t224 => (if (((((⟨#[106]⟩ : ByteArray) ++ t217) ++ t218) ++ t222) ++ t223).size + t224.size ≤ 9223372036854775807 then (impl_ShowJournal.l0 k ((((((⟨#[106]⟩ : ByteArray) ++ t217) ++ t218) ++ t222) ++ t223) ++ t224) l0_7 (l0_7.length : Int) 0) else (none))) else (none))) else (none))) else (none))) else (none))) else (some (⟨#[]⟩ : ByteArray)))
theorem impl_ShowJournal.mono_l : ∀ k, (∀ y0 y1 y2 y3, LeO (impl_ShowJournal.l0 k y0 y1 y2 y3) (impl_ShowJournal.l0 (k + 1) y0 y1 y2 y3))
 | 0 => fun _ _ _ _ r h => by simp [impl_ShowJournal.l0] at h
 | k + 1 => by
  have ih0 := impl_ShowJournal.mono_l k
  ·
   intro y0 y1 y2 y3
   unfold impl_ShowJournal.l0
   repeat' first
   | (with_reducible exact ih0 _ _ _ _)
   | (with_reducible exact impl_Var.mono _ _)
   | (with_reducible exact impl_flagText.mono _ _)
   | (with_reducible exact impl_isJournal.mono _ _ _ _ _ _ _ _ _)
   | (with_reducible exact impl_packed.mono _ _)
   | (with_reducible exact impl_pieceText.mono _ _)
   | (with_reducible exact impl_vars.mono _ _)
   | (with_reducible exact LeO.refl _)
   | (with_reducible exact LeO.none _)
   | (with_reducible refine LeO.ite ?_ ?_)
   | (with_reducible refine LeO.bind ?_ (fun _ => ?_))
   | exact ih0 _ _ _ _
   | exact impl_Var.mono _ _
   | exact impl_flagText.mono _ _
   | exact impl_isJournal.mono _ _ _ _ _ _ _ _ _
   | exact impl_packed.mono _ _
   | exact impl_pieceText.mono _ _
   | exact impl_vars.mono _ _
   | exact LeO.none _
   | refine LeO.ite ?_ ?_
   | refine LeO.bind ?_ (fun _ => ?_)
theorem impl_ShowJournal.mono : ∀ a0 a1 a2 a3 a4 a5 a6 a7 k, LeO (impl_ShowJournal.f k a0 a1 a2 a3 a4 a5 a6 a7) (impl_ShowJournal.f (k + 1) a0 a1 a2 a3 a4 a5 a6 a7) := by
 intro a0 a1 a2 a3 a4 a5 a6 a7 k
 have ih0 := impl_ShowJournal.mono_l k
 unfold impl_ShowJournal.f
 repeat' first
   | (with_reducible exact ih0 _ _ _ _)
   | (with_reducible exact impl_Var.mono _ _)
   | (with_reducible exact impl_flagText.mono _ _)
   | (with_reducible exact impl_isJournal.mono _ _ _ _ _ _ _ _ _)
   | (with_reducible exact impl_packed.mono _ _)
   | (with_reducible exact impl_pieceText.mono _ _)
   | (with_reducible exact impl_vars.mono _ _)
   | (with_reducible exact LeO.refl _)
   | (with_reducible exact LeO.none _)
   | (with_reducible refine LeO.ite ?_ ?_)
   | (with_reducible refine LeO.bind ?_ (fun _ => ?_))
   | exact ih0 _ _ _ _
   | exact impl_Var.mono _ _
   | exact impl_flagText.mono _ _
   | exact impl_isJournal.mono _ _ _ _ _ _ _ _ _
   | exact impl_packed.mono _ _
   | exact impl_pieceText.mono _ _
   | exact impl_vars.mono _ _
   | exact LeO.none _
   | refine LeO.ite ?_ ?_
   | refine LeO.bind ?_ (fun _ => ?_)
def impl_ShowJournal.T3 : Bool × List (List Nat × List Nat) := (true, [([], []), ([0], [0]), ([1], [1]), ([2], [2]), ([], []), ([4], [4]), ([5, 2], [5]), ([3, 6], [3, 6]), ([], []), ([8], [8]), ([9], [9]), ([], []), ([11], [11]), ([12], [12]), ([], []), ([14], [14]), ([15], [15]), ([], []), ([17], [17]), ([18], [18]), ([10, 13, 16, 19], [10, 13, 16, 19]), ([20, 6], [20]), ([7, 21], [7, 21]), ([], []), ([23], [23]), ([24], [24]), ([25, 21], [25]), ([22, 26], [22, 26]), ([], []), ([28], [28]), ([29], [29]), ([30, 26], [30]), ([27, 31], [27, 31]), ([32, 31, 0, 1, 2, 3, 4, 5, 6, 7, 8, 9, 10, 11, 12, 13, 14, 15, 16, 17, 18, 19, 20, 21, 22, 23, 24, 25, 26, 27, 28, 29, 30, 31, 32], [32])])
def impl_ShowJournal.B3 : List Nat := [0, 1, 3, 7, 0, 16, 55, 127, 0, 256, 768, 0, 2048, 6144, 0, 16384, 49152, 0, 131072, 393216, 1048320, 2097015, 4194303, 0, 8388608, 25165824, 62914423, 134217727, 0, 268435456, 805306368, 2009071479, 4294967295, 8589934591]
theorem impl_ShowJournal.tab3 : rtab .any (opsOf Try.f44 3) = impl_ShowJournal.T3 := by kernel_rfl
theorem impl_ShowJournal.bits3 : waitsOk impl_ShowJournal.T3.2 impl_ShowJournal.B3 = true := by kernel_rfl
def impl_ShowJournal.T7 : Bool × List (List Nat × List Nat) := (true, [([], []), ([], []), ([1], [1]), ([2], [2]), ([], []), ([4], [4]), ([5, 3], [5]), ([3, 6], [3, 6]), ([0, 7], [0, 7]), ([8, 6, 0, 1, 2, 3, 4, 5, 6, 7, 8], [0, 8])])
def impl_ShowJournal.B7 : List Nat := [0, 0, 2, 6, 0, 16, 62, 126, 255, 511]
theorem impl_ShowJournal.tab7 : rtab .any (opsOf Try.f44 7) = impl_ShowJournal.T7 := by kernel_rfl
theorem impl_ShowJournal.bits7 : waitsOk impl_ShowJournal.T7.2 impl_ShowJournal.B7 = true := by kernel_rfl
set_option maxHeartbeats 8000000 in
set_option maxRecDepth 100000 in
theorem impl_ShowJournal.calls (k : Nat) (a0_0 : Int) (a0_1 : Bool) (a0_2 : Int) (a0_3 : Int) (a0_4 : Int) (a0_5 : Int) (a0_6 : ByteArray) (A0_7 : Option Addr) (c0_7 : Nat) (l0_7 : List (S165)) (r : ByteArray) (w : World) (hr0_7 : Kd.C k165 w A0_7 l0_7.length l0_7) (hc0_7 : l0_7.length ≤ c0_7) (h : impl_ShowJournal.f k a0_0 a0_1 a0_2 a0_3 a0_4 a0_5 a0_6 l0_7 = some r) :
  Calls Try.prog 44 #[.agg #[.int .i64 a0_0, .bool a0_1, .int .i64 a0_2, .int .i64 a0_3, .int .i64 a0_4, .int .i64 a0_5, .string a0_6, .slice A0_7 l0_7.length c0_7]] w fun e w' => e = .returned (.string r) ∧ Below w.heap.size w w' := by
 have hu79 := Try.underlying79
 have hu165 := Try.underlying165
 have HR0_7 := Aside0.mk hr0_7
 have HC0_7 := Aside0.mk hc0_7
 clear hr0_7 hc0_7
 have HB := Aside0.mk (Below.refl w.heap.size w)
 have H : ((impl_isJournal.f k a0_0 a0_1 a0_2 a0_3 a0_4 a0_5 a0_6 l0_7).bind fun t216 => (if t216 = true then ((impl_Var.f k a0_0).bind fun t217 => (if 1 + t217.size ≤ 9223372036854775807 then ((impl_flagText.f k a0_1).bind fun t218 => (if ((⟨#[106]⟩ : ByteArray) ++ t217).size + t218.size ≤ 9223372036854775807 then ((impl_vars.f k (([a0_2, a0_3, a0_4, a0_5] : List Int))).bind fun t222 => (if (((⟨#[106]⟩ : ByteArray) ++ t217) ++ t218).size + t222.size ≤ 9223372036854775807 then ((impl_pieceText.f k a0_6).bind fun t223 => (if ((((⟨#[106]⟩ : ByteArray) ++ t217) ++ t218) ++ t222).size + t223.size ≤ 9223372036854775807 then ((impl_Var.f k (l0_7.length : Int)).bind fun t224 => (if (((((⟨#[106]⟩ : ByteArray) ++ t217) ++ t218) ++ t222) ++ t223).size + t224.size ≤ 9223372036854775807 then (impl_ShowJournal.l0 k ((((((⟨#[106]⟩ : ByteArray) ++ t217) ++ t218) ++ t222) ++ t223) ++ t224) l0_7 (l0_7.length : Int) 0) else (none))) else (none))) else (none))) else (none))) else (none))) else (some (⟨#[]⟩ : ByteArray)))) = some r := h
 clear h
 replace H := Option.bind_eq_some_iff.mp H
 obtain ⟨t216, A20, H⟩ := H
 replace H : (if t216 = true then ((impl_Var.f k a0_0).bind fun t217 => (if 1 + t217.size ≤ 9223372036854775807 then ((impl_flagText.f k a0_1).bind fun t218 => (if ((⟨#[106]⟩ : ByteArray) ++ t217).size + t218.size ≤ 9223372036854775807 then ((impl_vars.f k (([a0_2, a0_3, a0_4, a0_5] : List Int))).bind fun t222 => (if (((⟨#[106]⟩ : ByteArray) ++ t217) ++ t218).size + t222.size ≤ 9223372036854775807 then ((impl_pieceText.f k a0_6).bind fun t223 => (if ((((⟨#[106]⟩ : ByteArray) ++ t217) ++ t218) ++ t222).size + t223.size ≤ 9223372036854775807 then ((impl_Var.f k (l0_7.length : Int)).bind fun t224 => (if (((((⟨#[106]⟩ : ByteArray) ++ t217) ++ t218) ++ t222) ++ t223).size + t224.size ≤ 9223372036854775807 then (impl_ShowJournal.l0 k ((((((⟨#[106]⟩ : ByteArray) ++ t217) ++ t218) ++ t222) ++ t223) ++ t224) l0_7 (l0_7.length : Int) 0) else (none))) else (none))) else (none))) else (none))) else (none))) else (some (⟨#[]⟩ : ByteArray))) = some r := H
 have A2 := Aside0.mk A20
 clear A20
 by_cases c3 : t216 = true
 ·
  subst c3
  have H1 : ((impl_Var.f k a0_0).bind fun t217 => (if 1 + t217.size ≤ 9223372036854775807 then ((impl_flagText.f k a0_1).bind fun t218 => (if ((⟨#[106]⟩ : ByteArray) ++ t217).size + t218.size ≤ 9223372036854775807 then ((impl_vars.f k (([a0_2, a0_3, a0_4, a0_5] : List Int))).bind fun t222 => (if (((⟨#[106]⟩ : ByteArray) ++ t217) ++ t218).size + t222.size ≤ 9223372036854775807 then ((impl_pieceText.f k a0_6).bind fun t223 => (if ((((⟨#[106]⟩ : ByteArray) ++ t217) ++ t218) ++ t222).size + t223.size ≤ 9223372036854775807 then ((impl_Var.f k (l0_7.length : Int)).bind fun t224 => (if (((((⟨#[106]⟩ : ByteArray) ++ t217) ++ t218) ++ t222) ++ t223).size + t224.size ≤ 9223372036854775807 then (impl_ShowJournal.l0 k ((((((⟨#[106]⟩ : ByteArray) ++ t217) ++ t218) ++ t222) ++ t223) ++ t224) l0_7 (l0_7.length : Int) 0) else (none))) else (none))) else (none))) else (none))) else (none))) = some r := by rw [if_pos rfl] at H; exact H
  clear H
  have H := H1
  clear H1
  replace H := Option.bind_eq_some_iff.mp H
  obtain ⟨t217, A40, H⟩ := H
  replace H : (if 1 + t217.size ≤ 9223372036854775807 then ((impl_flagText.f k a0_1).bind fun t218 => (if ((⟨#[106]⟩ : ByteArray) ++ t217).size + t218.size ≤ 9223372036854775807 then ((impl_vars.f k (([a0_2, a0_3, a0_4, a0_5] : List Int))).bind fun t222 => (if (((⟨#[106]⟩ : ByteArray) ++ t217) ++ t218).size + t222.size ≤ 9223372036854775807 then ((impl_pieceText.f k a0_6).bind fun t223 => (if ((((⟨#[106]⟩ : ByteArray) ++ t217) ++ t218) ++ t222).size + t223.size ≤ 9223372036854775807 then ((impl_Var.f k (l0_7.length : Int)).bind fun t224 => (if (((((⟨#[106]⟩ : ByteArray) ++ t217) ++ t218) ++ t222) ++ t223).size + t224.size ≤ 9223372036854775807 then (impl_ShowJournal.l0 k ((((((⟨#[106]⟩ : ByteArray) ++ t217) ++ t218) ++ t222) ++ t223) ++ t224) l0_7 (l0_7.length : Int) 0) else (none))) else (none))) else (none))) else (none))) else (none)) = some r := H
  have A4 := Aside0.mk A40
  clear A40
  by_cases c5 : 1 + t217.size ≤ 9223372036854775807
  ·
   rw [if_pos c5] at H
   have c5b0 := eq_true c5
   have c5b1 : decide (1 + t217.size ≤ 9223372036854775807) = true := decide_eq_true c5
   try have c5b2 : (9223372036854775807 < 1 + t217.size) = False := eq_false (Nat.not_lt.2 c5)
   replace H := Option.bind_eq_some_iff.mp H
   obtain ⟨t218, A60, H⟩ := H
   replace H : (if ((⟨#[106]⟩ : ByteArray) ++ t217).size + t218.size ≤ 9223372036854775807 then ((impl_vars.f k (([a0_2, a0_3, a0_4, a0_5] : List Int))).bind fun t222 => (if (((⟨#[106]⟩ : ByteArray) ++ t217) ++ t218).size + t222.size ≤ 9223372036854775807 then ((impl_pieceText.f k a0_6).bind fun t223 => (if ((((⟨#[106]⟩ : ByteArray) ++ t217) ++ t218) ++ t222).size + t223.size ≤ 9223372036854775807 then ((impl_Var.f k (l0_7.length : Int)).bind fun t224 => (if (((((⟨#[106]⟩ : ByteArray) ++ t217) ++ t218) ++ t222) ++ t223).size + t224.size ≤ 9223372036854775807 then (impl_ShowJournal.l0 k ((((((⟨#[106]⟩ : ByteArray) ++ t217) ++ t218) ++ t222) ++ t223) ++ t224) l0_7 (l0_7.length : Int) 0) else (none))) else (none))) else (none))) else (none)) = some r := H
   have A6 := Aside0.mk A60
   clear A60
   by_cases c7 : ((⟨#[106]⟩ : ByteArray) ++ t217).size + t218.size ≤ 9223372036854775807
   ·
    rw [if_pos c7] at H
    have c7b0 := eq_true c7
    have c7b1 : decide (((⟨#[106]⟩ : ByteArray) ++ t217).size + t218.size ≤ 9223372036854775807) = true := decide_eq_true c7
    try have c7b2 : (9223372036854775807 < ((⟨#[106]⟩ : ByteArray) ++ t217).size + t218.size) = False := eq_false (Nat.not_lt.2 c7)
    (try (have c7s : 1 + t217.size + t218.size ≤ 9223372036854775807 := (by have h_ := c7; simp only [ByteArray.size_append] at h_; exact h_); have c7t : (9223372036854775807 < 1 + t217.size + t218.size) = False := eq_false (Nat.not_lt.2 c7s)))
    obtain ⟨y219, hy219⟩ : ∃ y_ : List Int, y_ = (([a0_2, a0_3, a0_4, a0_5] : List Int)) := ⟨_, rfl⟩
    replace H : ((impl_vars.f k y219).bind fun t222 => (if (((⟨#[106]⟩ : ByteArray) ++ t217) ++ t218).size + t222.size ≤ 9223372036854775807 then ((impl_pieceText.f k a0_6).bind fun t223 => (if ((((⟨#[106]⟩ : ByteArray) ++ t217) ++ t218) ++ t222).size + t223.size ≤ 9223372036854775807 then ((impl_Var.f k (l0_7.length : Int)).bind fun t224 => (if (((((⟨#[106]⟩ : ByteArray) ++ t217) ++ t218) ++ t222) ++ t223).size + t224.size ≤ 9223372036854775807 then (impl_ShowJournal.l0 k ((((((⟨#[106]⟩ : ByteArray) ++ t217) ++ t218) ++ t222) ++ t223) ++ t224) l0_7 (l0_7.length : Int) 0) else (none))) else (none))) else (none))) = some r := by first | (rw [hy219]; with_reducible exact H) | (have H2_ := (Option.bind_some _ _).symm.trans H; rw [hy219]; with_reducible exact H2_) | (have H2_ := (Option.bind_some _ _).symm.trans H; with_reducible exact H2_) | with_reducible exact H | (rw [hy219]; exact H) | exact H
    have Ny219 := Aside0.mk hy219
    clear hy219
    replace H := Option.bind_eq_some_iff.mp H
    obtain ⟨t222, A80, H⟩ := H
    replace H : (if (((⟨#[106]⟩ : ByteArray) ++ t217) ++ t218).size + t222.size ≤ 9223372036854775807 then ((impl_pieceText.f k a0_6).bind fun t223 => (if ((((⟨#[106]⟩ : ByteArray) ++ t217) ++ t218) ++ t222).size + t223.size ≤ 9223372036854775807 then ((impl_Var.f k (l0_7.length : Int)).bind fun t224 => (if (((((⟨#[106]⟩ : ByteArray) ++ t217) ++ t218) ++ t222) ++ t223).size + t224.size ≤ 9223372036854775807 then (impl_ShowJournal.l0 k ((((((⟨#[106]⟩ : ByteArray) ++ t217) ++ t218) ++ t222) ++ t223) ++ t224) l0_7 (l0_7.length : Int) 0) else (none))) else (none))) else (none)) = some r := H
    have A8 := Aside0.mk A80
    clear A80
    by_cases c9 : (((⟨#[106]⟩ : ByteArray) ++ t217) ++ t218).size + t222.size ≤ 9223372036854775807
    ·
     rw [if_pos c9] at H
     have c9b0 := eq_true c9
     have c9b1 : decide ((((⟨#[106]⟩ : ByteArray) ++ t217) ++ t218).size + t222.size ≤ 9223372036854775807) = true := decide_eq_true c9
     try have c9b2 : (9223372036854775807 < (((⟨#[106]⟩ : ByteArray) ++ t217) ++ t218).size + t222.size) = False := eq_false (Nat.not_lt.2 c9)
     (try (have c9s : 1 + t217.size + t218.size + t222.size ≤ 9223372036854775807 := (by have h_ := c9; simp only [ByteArray.size_append] at h_; exact h_); have c9t : (9223372036854775807 < 1 + t217.size + t218.size + t222.size) = False := eq_false (Nat.not_lt.2 c9s)))
     replace H := Option.bind_eq_some_iff.mp H
     obtain ⟨t223, A100, H⟩ := H
     replace H : (if ((((⟨#[106]⟩ : ByteArray) ++ t217) ++ t218) ++ t222).size + t223.size ≤ 9223372036854775807 then ((impl_Var.f k (l0_7.length : Int)).bind fun t224 => (if (((((⟨#[106]⟩ : ByteArray) ++ t217) ++ t218) ++ t222) ++ t223).size + t224.size ≤ 9223372036854775807 then (impl_ShowJournal.l0 k ((((((⟨#[106]⟩ : ByteArray) ++ t217) ++ t218) ++ t222) ++ t223) ++ t224) l0_7 (l0_7.length : Int) 0) else (none))) else (none)) = some r := H
     have A10 := Aside0.mk A100
     clear A100
     by_cases c11 : ((((⟨#[106]⟩ : ByteArray) ++ t217) ++ t218) ++ t222).size + t223.size ≤ 9223372036854775807
     ·
      rw [if_pos c11] at H
      have c11b0 := eq_true c11
      have c11b1 : decide (((((⟨#[106]⟩ : ByteArray) ++ t217) ++ t218) ++ t222).size + t223.size ≤ 9223372036854775807) = true := decide_eq_true c11
      try have c11b2 : (9223372036854775807 < ((((⟨#[106]⟩ : ByteArray) ++ t217) ++ t218) ++ t222).size + t223.size) = False := eq_false (Nat.not_lt.2 c11)
      (try (have c11s : 1 + t217.size + t218.size + t222.size + t223.size ≤ 9223372036854775807 := (by have h_ := c11; simp only [ByteArray.size_append] at h_; exact h_); have c11t : (9223372036854775807 < 1 + t217.size + t218.size + t222.size + t223.size) = False := eq_false (Nat.not_lt.2 c11s)))
      replace H := Option.bind_eq_some_iff.mp H
      obtain ⟨t224, A120, H⟩ := H
      replace H : (if (((((⟨#[106]⟩ : ByteArray) ++ t217) ++ t218) ++ t222) ++ t223).size + t224.size ≤ 9223372036854775807 then (impl_ShowJournal.l0 k ((((((⟨#[106]⟩ : ByteArray) ++ t217) ++ t218) ++ t222) ++ t223) ++ t224) l0_7 (l0_7.length : Int) 0) else (none)) = some r := H
      have A12 := Aside0.mk A120
      clear A120
      by_cases c13 : (((((⟨#[106]⟩ : ByteArray) ++ t217) ++ t218) ++ t222) ++ t223).size + t224.size ≤ 9223372036854775807
      ·
       rw [if_pos c13] at H
       have c13b0 := eq_true c13
       have c13b1 : decide ((((((⟨#[106]⟩ : ByteArray) ++ t217) ++ t218) ++ t222) ++ t223).size + t224.size ≤ 9223372036854775807) = true := decide_eq_true c13
       try have c13b2 : (9223372036854775807 < (((((⟨#[106]⟩ : ByteArray) ++ t217) ++ t218) ++ t222) ++ t223).size + t224.size) = False := eq_false (Nat.not_lt.2 c13)
       (try (have c13s : 1 + t217.size + t218.size + t222.size + t223.size + t224.size ≤ 9223372036854775807 := (by have h_ := c13; simp only [ByteArray.size_append] at h_; exact h_); have c13t : (9223372036854775807 < 1 + t217.size + t218.size + t222.size + t223.size + t224.size) = False := eq_false (Nat.not_lt.2 c13s)))
       have H' := Aside0.mk H
       clear H
       go_enter Try.func44, Try.ntmps44
       try go_wp2_with (first | ((with_reducible refine gate_dst (N := 1) rfl ?_); refine box_event ?hg (N := 1) ?hd (cs := #[.int .i64 a0_0, .bool a0_1, .int .i64 a0_2, .int .i64 a0_3, .int .i64 a0_4, .int .i64 a0_5, .string a0_6, .slice A0_7 l0_7.length c0_7]) (t := 79) ?hr ?_; (case hd => rfl); (case hg => rfl); (case hr => first | (go_simp; done) | (go_simp; rfl)); intro gb215 hg w14 hbox hb; have n0_ := Aside0.mk (below_step (by repeat (first | (with_reducible first | exact HB.out | apply below_alloc | apply pw_below_drewN | apply below_drew1) | exact HB.out)) hb); have n1_ := Aside0.mk (hbox); have n2_ := Aside0.mk ((by rw [hg]; exact (below_size (by repeat (first | (with_reducible first | exact HB.out | apply below_alloc | apply pw_below_drewN | apply below_drew1) | exact HB.out))) : w.heap.size ≤ gb215)); have n3_ := Aside0.mk ((by rw [hg]; exact (below_size (by repeat (first | (with_reducible first | exact HB.out | apply below_alloc | apply pw_below_drewN | apply below_drew1) | exact HB.out))) : w.heap.size ≤ gb215)); clear HB; have HB := n0_; have BK215 := n1_; have GW215 := n2_; have GE215 := n3_; clear n0_ n1_ n2_ n3_; clear hb hbox hg; have hcz15_0 : w14.cell? ⟨gb215, 0, none⟩ = some (.int .i64 a0_0) := (blk_cell BK215.out 0).trans rfl; have hcz15_1 : w14.cell? ⟨gb215, 1, none⟩ = some (.bool a0_1) := (blk_cell BK215.out 1).trans rfl; have hcz15_2 : w14.cell? ⟨gb215, 2, none⟩ = some (.int .i64 a0_2) := (blk_cell BK215.out 2).trans rfl; have hcz15_3 : w14.cell? ⟨gb215, 3, none⟩ = some (.int .i64 a0_3) := (blk_cell BK215.out 3).trans rfl; have hcz15_4 : w14.cell? ⟨gb215, 4, none⟩ = some (.int .i64 a0_4) := (blk_cell BK215.out 4).trans rfl; have hcz15_5 : w14.cell? ⟨gb215, 5, none⟩ = some (.int .i64 a0_5) := (blk_cell BK215.out 5).trans rfl; have hcz15_6 : w14.cell? ⟨gb215, 6, none⟩ = some (.string a0_6) := (blk_cell BK215.out 6).trans rfl; have hcz15_7 : w14.cell? ⟨gb215, 7, none⟩ = some (.slice A0_7 l0_7.length c0_7) := (blk_cell BK215.out 7).trans rfl; have hfz15_0 := blk_frozen BK215.out 0; have hfz15_1 := blk_frozen BK215.out 1; have hfz15_2 := blk_frozen BK215.out 2; have hfz15_3 := blk_frozen BK215.out 3; have hfz15_4 := blk_frozen BK215.out 4; have hfz15_5 := blk_frozen BK215.out 5; have hfz15_6 := blk_frozen BK215.out 6; have hfz15_7 := blk_frozen BK215.out 7) | ((with_reducible refine gate_callee (f := 122) rfl ?_); refine goesL_ (some 7) rfl rfl Try.func122 (by kernel_rfl) rfl #[.agg #[.int .i64 a0_0, .bool a0_1, .int .i64 a0_2, .int .i64 a0_3, .int .i64 a0_4, .int .i64 a0_5, .string a0_6, .slice A0_7 l0_7.length c0_7]] rfl (by (try simp only [List.map_toArray, List.map_cons, List.map_nil]); first | done | rfl | (simp only [List.length_drop, List.length_take]; rfl)) ?_; (with_reducible refine (impl_isJournal.calls k a0_0 a0_1 a0_2 a0_3 a0_4 a0_5 a0_6 _ _ l0_7 true _ ?side1 ?side2 A2.out).mono ?_); (case side1 => repeat (first | exact (Kd.C_below HR0_7.out HB.out) | (with_reducible refine Kd.C_alloc ?_ _) | (with_reducible refine Kd.C_drewN ?_ _) | (with_reducible refine Kd.C_drew ?_))); (case side2 => exact HC0_7.out); rintro e w16 ⟨rfl, hb⟩; refine ⟨_, rfl, ?_⟩; have n0_ := Aside0.mk (blk_below (g := gb215) (o := .cells #[.int .i64 a0_0, .bool a0_1, .int .i64 a0_2, .int .i64 a0_3, .int .i64 a0_4, .int .i64 a0_5, .string a0_6, .slice A0_7 l0_7.length c0_7] 79 (0, 0)) (by (with_reducible repeat (first | refine blk_drewN ?_ _ | refine blk_drew ?_ | refine blk_alloc ?_ _)); exact BK215.out) hb); have n1_ := Aside0.mk (below_step (by repeat (first | (with_reducible first | exact HB.out | apply below_alloc | apply pw_below_drewN | apply below_drew1 | refine below_set ?_ GE215.out) | exact HB.out)) hb); clear BK215; clear HB; have BK215 := n0_; have HB := n1_; clear n0_ n1_; (try clear hb); (try clear hb2); (try clear hk); (try clear hi)))
       have n0_ := Aside0.mk (blk_drew BK215.out)
       have n1_ := Aside0.mk (below_drew1 HB.out)
       clear BK215
       clear HB
       have BK215 := n0_
       have HB := n1_
       clear n0_ n1_
       refine start_ (n := 34) (S := fun w' => True) (ds := []) #[false, false, false, false, false, false, false, false, false, false, false, false, false, false, false, false, false, false, false, false, false, false, false, false, false, false, false, false, false, false, false, false, false, false] (by kernel_rfl) rfl rfl trivial (fun hHeld => ?_); refine with_tabW impl_ShowJournal.tab3 impl_ShowJournal.bits3 (fun HT_ HW_ => ?_)
       generalize w16.drew = w17 at BK215 HB hHeld ⊢
       refine pure_ (i := 0) (N := some 9) (v := ?_) (a' := ?_) #[true, false, false, false, false, false, false, false, false, false, false, false, false, false, false, false, false, false, false, false, false, false, false, false, false, false, false, false, false, false, false, false, false, false] rfl rfl (any_of HT_.out (by kernel_rfl)) (fun _ _ _ h => h) (Or.inl ⟨by rfl, ?_⟩) ?_ ?_
       rotate_left
       ·
        intro w'
        go_simp
        with_reducible rfl
       rotate_left
       ·
        simp only [Act.put, List.setIfInBounds_toArray, List.set_cons_zero, List.set_cons_succ, i64_w, i32_w]
        rfl
       refine pure_ (i := 4) (N := some 13) (v := ?_) (a' := ?_) #[true, false, false, false, true, false, false, false, false, false, false, false, false, false, false, false, false, false, false, false, false, false, false, false, false, false, false, false, false, false, false, false, false, false] rfl rfl (any_of HT_.out (by kernel_rfl)) (fun _ _ _ h => h) (Or.inl ⟨by rfl, ?_⟩) ?_ ?_
       rotate_left
       ·
        intro w'
        go_simp
        with_reducible rfl
       rotate_left
       ·
        simp only [Act.put, List.setIfInBounds_toArray, List.set_cons_zero, List.set_cons_succ, i64_w, i32_w]
        rfl
       refine pure_ (i := 8) (N := some 17) (v := ?_) (a' := ?_) #[true, false, false, false, true, false, false, false, true, false, false, false, false, false, false, false, false, false, false, false, false, false, false, false, false, false, false, false, false, false, false, false, false, false] rfl rfl (any_of HT_.out (by kernel_rfl)) (fun _ _ _ h => h) (Or.inl ⟨by rfl, ?_⟩) ?_ ?_
       rotate_left
       ·
        intro w'
        go_simp
        with_reducible rfl
       rotate_left
       ·
        simp only [Act.put, List.setIfInBounds_toArray, List.set_cons_zero, List.set_cons_succ, i64_w, i32_w]
        rfl
       refine pure_ (i := 9) (N := some 18) (v := ?_) (a' := ?_) #[true, false, false, false, true, false, false, false, true, true, false, false, false, false, false, false, false, false, false, false, false, false, false, false, false, false, false, false, false, false, false, false, false, false] rfl rfl (any_of HT_.out (by kernel_rfl)) (fun _ _ _ h => h) (Or.inl ⟨by rfl, ?_⟩) ?_ ?_
       rotate_left
       ·
        intro w'
        go_simp
        with_reducible rfl
       rotate_left
       ·
        simp only [Act.put, List.setIfInBounds_toArray, List.set_cons_zero, List.set_cons_succ, i64_w, i32_w]
        rfl
       refine pure_ (i := 11) (N := some 20) (v := ?_) (a' := ?_) #[true, false, false, false, true, false, false, false, true, true, false, true, false, false, false, false, false, false, false, false, false, false, false, false, false, false, false, false, false, false, false, false, false, false] rfl rfl (any_of HT_.out (by kernel_rfl)) (fun _ _ _ h => h) (Or.inl ⟨by rfl, ?_⟩) ?_ ?_
       rotate_left
       ·
        intro w'
        go_simp
        with_reducible rfl
       rotate_left
       ·
        simp only [Act.put, List.setIfInBounds_toArray, List.set_cons_zero, List.set_cons_succ, i64_w, i32_w]
        rfl
       refine pure_ (i := 12) (N := some 21) (v := ?_) (a' := ?_) #[true, false, false, false, true, false, false, false, true, true, false, true, true, false, false, false, false, false, false, false, false, false, false, false, false, false, false, false, false, false, false, false, false, false] rfl rfl (any_of HT_.out (by kernel_rfl)) (fun _ _ _ h => h) (Or.inl ⟨by rfl, ?_⟩) ?_ ?_
       rotate_left
       ·
        intro w'
        go_simp
        with_reducible rfl
       rotate_left
       ·
        simp only [Act.put, List.setIfInBounds_toArray, List.set_cons_zero, List.set_cons_succ, i64_w, i32_w]
        rfl
       refine pure_ (i := 14) (N := some 23) (v := ?_) (a' := ?_) #[true, false, false, false, true, false, false, false, true, true, false, true, true, false, true, false, false, false, false, false, false, false, false, false, false, false, false, false, false, false, false, false, false, false] rfl rfl (any_of HT_.out (by kernel_rfl)) (fun _ _ _ h => h) (Or.inl ⟨by rfl, ?_⟩) ?_ ?_
       rotate_left
       ·
        intro w'
        go_simp
        with_reducible rfl
       rotate_left
       ·
        simp only [Act.put, List.setIfInBounds_toArray, List.set_cons_zero, List.set_cons_succ, i64_w, i32_w]
        rfl
       refine pure_ (i := 15) (N := some 24) (v := ?_) (a' := ?_) #[true, false, false, false, true, false, false, false, true, true, false, true, true, false, true, true, false, false, false, false, false, false, false, false, false, false, false, false, false, false, false, false, false, false] rfl rfl (any_of HT_.out (by kernel_rfl)) (fun _ _ _ h => h) (Or.inl ⟨by rfl, ?_⟩) ?_ ?_
       rotate_left
       ·
        intro w'
        go_simp
        with_reducible rfl
       rotate_left
       ·
        simp only [Act.put, List.setIfInBounds_toArray, List.set_cons_zero, List.set_cons_succ, i64_w, i32_w]
        rfl
       refine pure_ (i := 17) (N := some 26) (v := ?_) (a' := ?_) #[true, false, false, false, true, false, false, false, true, true, false, true, true, false, true, true, false, true, false, false, false, false, false, false, false, false, false, false, false, false, false, false, false, false] rfl rfl (any_of HT_.out (by kernel_rfl)) (fun _ _ _ h => h) (Or.inl ⟨by rfl, ?_⟩) ?_ ?_
       rotate_left
       ·
        intro w'
        go_simp
        with_reducible rfl
       rotate_left
       ·
        simp only [Act.put, List.setIfInBounds_toArray, List.set_cons_zero, List.set_cons_succ, i64_w, i32_w]
        rfl
       refine pure_ (i := 18) (N := some 27) (v := ?_) (a' := ?_) #[true, false, false, false, true, false, false, false, true, true, false, true, true, false, true, true, false, true, true, false, false, false, false, false, false, false, false, false, false, false, false, false, false, false] rfl rfl (any_of HT_.out (by kernel_rfl)) (fun _ _ _ h => h) (Or.inl ⟨by rfl, ?_⟩) ?_ ?_
       rotate_left
       ·
        intro w'
        go_simp
        with_reducible rfl
       rotate_left
       ·
        simp only [Act.put, List.setIfInBounds_toArray, List.set_cons_zero, List.set_cons_succ, i64_w, i32_w]
        rfl
       refine pure_ (i := 23) (N := some 32) (v := ?_) (a' := ?_) #[true, false, false, false, true, false, false, false, true, true, false, true, true, false, true, true, false, true, true, false, false, false, false, true, false, false, false, false, false, false, false, false, false, false] rfl rfl (any_of HT_.out (by kernel_rfl)) (fun _ _ _ h => h) (Or.inl ⟨by rfl, ?_⟩) ?_ ?_
       rotate_left
       ·
        intro w'
        go_simp
        with_reducible rfl
       rotate_left
       ·
        simp only [Act.put, List.setIfInBounds_toArray, List.set_cons_zero, List.set_cons_succ, i64_w, i32_w]
        rfl
       refine pure_ (i := 24) (N := some 33) (v := ?_) (a' := ?_) #[true, false, false, false, true, false, false, false, true, true, false, true, true, false, true, true, false, true, true, false, false, false, false, true, true, false, false, false, false, false, false, false, false, false] rfl rfl (any_of HT_.out (by kernel_rfl)) (fun _ _ _ h => h) (Or.inl ⟨by rfl, ?_⟩) ?_ ?_
       rotate_left
       ·
        intro w'
        go_simp
        with_reducible rfl
       rotate_left
       ·
        simp only [Act.put, List.setIfInBounds_toArray, List.set_cons_zero, List.set_cons_succ, i64_w, i32_w]
        rfl
       refine pure_ (i := 28) (N := some 37) (v := ?_) (a' := ?_) #[true, false, false, false, true, false, false, false, true, true, false, true, true, false, true, true, false, true, true, false, false, false, false, true, true, false, false, false, true, false, false, false, false, false] rfl rfl (any_of HT_.out (by kernel_rfl)) (fun _ _ _ h => h) (Or.inl ⟨by rfl, ?_⟩) ?_ ?_
       rotate_left
       ·
        intro w'
        go_simp
        with_reducible rfl
       rotate_left
       ·
        simp only [Act.put, List.setIfInBounds_toArray, List.set_cons_zero, List.set_cons_succ, i64_w, i32_w]
        rfl
       refine inv_at [1, 2, 3, 5, 6, 7, 10, 13, 16, 19, 20, 21, 22, 25, 26, 27, 29, 30, 31, 32, 33] (fun a0_ b a w' => ∃ (v220 : Value), a = putSel a0_ b [(1, 10, .int .i64 a0_0), (2, 11, .string t217), (3, 12, .string ((⟨#[106]⟩ : ByteArray) ++ t217)), (5, 14, .bool a0_1), (6, 15, .string t218), (7, 16, .string (((⟨#[106]⟩ : ByteArray) ++ t217) ++ t218)), (10, 19, .int .i64 a0_2), (13, 22, .int .i64 a0_3), (16, 25, .int .i64 a0_4), (19, 28, .int .i64 a0_5), (20, 29, v220), (21, 30, .string t222), (22, 31, .string ((((⟨#[106]⟩ : ByteArray) ++ t217) ++ t218) ++ t222)), (25, 34, .string a0_6), (26, 35, .string t223), (27, 36, .string (((((⟨#[106]⟩ : ByteArray) ++ t217) ++ t218) ++ t222) ++ t223)), (29, 38, .slice A0_7 l0_7.length c0_7), (30, 39, .int .i64 (l0_7.length : Int)), (31, 40, .string t224), (32, 41, .string ((((((⟨#[106]⟩ : ByteArray) ++ t217) ++ t218) ++ t222) ++ t223) ++ t224)), (33, 3, .string ((((((⟨#[106]⟩ : ByteArray) ++ t217) ++ t218) ++ t222) ++ t223) ++ t224))] ∧ (w'.heap[gb215]? = some (.cells #[.int .i64 a0_0, .bool a0_1, .int .i64 a0_2, .int .i64 a0_3, .int .i64 a0_4, .int .i64 a0_5, .string a0_6, .slice A0_7 l0_7.length c0_7] 79 (0, 0))) ∧ (Below w.heap.size w w') ∧ (b 20 = true → Kd.R (Kd.int .i64) 3 w' w.heap.size (fun _ => True) v220 y219)) HT_.out HW_.out (by kernel_rfl) (by kernel_rfl) ?_ ?_ ?_
       ·
        exact ⟨.bool false, by simp only [putSel, Bool.false_eq_true, if_false], BK215.out, HB.out, fun h_ => absurd h_ (by decide)⟩
       ·
        skip
        clear BK215 HB
        refine steps_cons ?_ ?_
        ·
         rintro b a w' ⟨v220, ha, Q_BK215, Q_HB, Q_HO221⟩ hb_ hon hoff
         refine ⟨_, rfl, fun K hK => ?_⟩
         have e9 : a.tmps[9]? = some (.pointer (some ⟨gb215, 0, none⟩)) := by rw [ha]; exact (putSel_off rfl).trans rfl
         replace ha := Aside0.mk ha
         have BK215 := Aside0.mk Q_BK215
         have HB := Aside0.mk Q_HB
         have hc0_ : w'.cell? ⟨gb215, 0, none⟩ = some (.int .i64 a0_0) := (blk_cell BK215.out 0).trans rfl
         have hc1_ : w'.cell? ⟨gb215, 1, none⟩ = some (.bool a0_1) := (blk_cell BK215.out 1).trans rfl
         have hc2_ : w'.cell? ⟨gb215, 2, none⟩ = some (.int .i64 a0_2) := (blk_cell BK215.out 2).trans rfl
         have hc3_ : w'.cell? ⟨gb215, 3, none⟩ = some (.int .i64 a0_3) := (blk_cell BK215.out 3).trans rfl
         have hc4_ : w'.cell? ⟨gb215, 4, none⟩ = some (.int .i64 a0_4) := (blk_cell BK215.out 4).trans rfl
         have hc5_ : w'.cell? ⟨gb215, 5, none⟩ = some (.int .i64 a0_5) := (blk_cell BK215.out 5).trans rfl
         have hc6_ : w'.cell? ⟨gb215, 6, none⟩ = some (.string a0_6) := (blk_cell BK215.out 6).trans rfl
         have hc7_ : w'.cell? ⟨gb215, 7, none⟩ = some (.slice A0_7 l0_7.length c0_7) := (blk_cell BK215.out 7).trans rfl
         refine value_ (w1 := w') (v := .int .i64 a0_0) (by rfl) rfl ?_ ?_
         ·
          go_simp
          (try simp only [i64_w])
          try rfl
         refine hK.out _ _ ⟨v220, (by rw [ha.out]; exact putSel_upk 0 hb_ rfl rfl rfl), Q_BK215, Q_HB, Q_HO221⟩
        refine steps_cons ?_ ?_
        ·
         rintro b a w' ⟨v220, ha, Q_BK215, Q_HB, Q_HO221⟩ hb_ hon hoff
         refine ⟨_, rfl, fun K hK => ?_⟩
         have e10 : a.tmps[10]? = some (.int .i64 a0_0) := by rw [ha]; exact putSel_on (e := (1, 10, .int .i64 a0_0)) 0 rfl rfl (hon 1 (by kernel_rfl)) rfl
         replace ha := Aside0.mk ha
         have BK215 := Aside0.mk Q_BK215
         have HB := Aside0.mk Q_HB
         refine goes_ Try.func123 (by kernel_rfl) rfl #[.int .i64 a0_0] (by rfl) rfl rfl (by first | (simp only [List.map_toArray, List.map_cons, List.map_nil, Act.eval, Array.getD_eq_getD_getElem?, Option.getD_some, e10]; done) | (simp only [List.map_toArray, List.map_cons, List.map_nil, Act.eval, Array.getD_eq_getD_getElem?, Option.getD_some, e10]; rfl)) ?_
         with_reducible refine (impl_Var.calls k a0_0 t217 _ A4.out).mono ?_
         rintro e w18 ⟨rfl, hb⟩
         refine ⟨_, rfl, ?_⟩
         have n0_ := Aside0.mk (blk_below (g := gb215) (o := .cells #[.int .i64 a0_0, .bool a0_1, .int .i64 a0_2, .int .i64 a0_3, .int .i64 a0_4, .int .i64 a0_5, .string a0_6, .slice A0_7 l0_7.length c0_7] 79 (0, 0)) (by (with_reducible repeat (first | refine blk_drewN ?_ _ | refine blk_drew ?_ | refine blk_alloc ?_ _)); exact BK215.out) hb)
         have n1_ := Aside0.mk (below_step (by repeat (first | (with_reducible first | exact HB.out | apply below_alloc | apply pw_below_drewN | apply below_drew1 | refine below_set ?_ GE215.out) | exact HB.out)) hb)
         have z_HO221 := fun (h0_ : b 20 = true) => (show Kd.R (Kd.int .i64) 3 w18 w.heap.size (fun _ => True) v220 y219 from by first | exact (Kd.R_below (by (with_reducible repeat (first | apply Kd.R_alloc | apply Kd.R_drewN | apply Kd.R_drew)); exact (Q_HO221 h0_)) hb) | exact Kd.R_mono (Kd.R_below (by (with_reducible repeat (first | apply Kd.R_alloc | apply Kd.R_drewN | apply Kd.R_drew)); exact (Q_HO221 h0_)) hb) (fun _ h_ => by first | trivial | exact h_ | exact h_.1))
         clear BK215
         clear HB
         have BK215 := n0_
         have HB := n1_
         clear n0_ n1_
         (try clear hb)
         (try clear hb2)
         (try clear hk)
         (try clear hi)
         refine hK.out _ _ ⟨v220, (by rw [ha.out]; exact putSel_upk 1 hb_ rfl rfl rfl), (by (with_reducible repeat (first | refine blk_drewN ?_ _ | refine blk_drew ?_ | refine blk_alloc ?_ _)); exact BK215.out), (by repeat (first | (with_reducible first | exact HB.out | apply below_alloc | apply pw_below_drewN | apply below_drew1 | refine below_set ?_ GE215.out) | exact HB.out)), z_HO221⟩
        refine steps_cons ?_ ?_
        ·
         rintro b a w' ⟨v220, ha, Q_BK215, Q_HB, Q_HO221⟩ hb_ hon hoff
         refine ⟨_, rfl, fun K hK => ?_⟩
         have e11 : a.tmps[11]? = some (.string t217) := by rw [ha]; exact putSel_on (e := (2, 11, .string t217)) 1 rfl rfl (hon 2 (by kernel_rfl)) rfl
         replace ha := Aside0.mk ha
         have BK215 := Aside0.mk Q_BK215
         have HB := Aside0.mk Q_HB
         refine value_ (w1 := w') (v := .string ((⟨#[106]⟩ : ByteArray) ++ t217)) (by rfl) rfl ?_ ?_
         ·
          go_simp
          (try simp only [i64_w])
          try rfl
         refine hK.out _ _ ⟨v220, (by rw [ha.out]; exact putSel_upk 2 hb_ rfl rfl rfl), Q_BK215, Q_HB, Q_HO221⟩
        refine steps_cons ?_ ?_
        ·
         rintro b a w' ⟨v220, ha, Q_BK215, Q_HB, Q_HO221⟩ hb_ hon hoff
         refine ⟨_, rfl, fun K hK => ?_⟩
         have e13 : a.tmps[13]? = some (.pointer (some ⟨gb215, 1, none⟩)) := by rw [ha]; exact (putSel_off rfl).trans rfl
         replace ha := Aside0.mk ha
         have BK215 := Aside0.mk Q_BK215
         have HB := Aside0.mk Q_HB
         have hc0_ : w'.cell? ⟨gb215, 0, none⟩ = some (.int .i64 a0_0) := (blk_cell BK215.out 0).trans rfl
         have hc1_ : w'.cell? ⟨gb215, 1, none⟩ = some (.bool a0_1) := (blk_cell BK215.out 1).trans rfl
         have hc2_ : w'.cell? ⟨gb215, 2, none⟩ = some (.int .i64 a0_2) := (blk_cell BK215.out 2).trans rfl
         have hc3_ : w'.cell? ⟨gb215, 3, none⟩ = some (.int .i64 a0_3) := (blk_cell BK215.out 3).trans rfl
         have hc4_ : w'.cell? ⟨gb215, 4, none⟩ = some (.int .i64 a0_4) := (blk_cell BK215.out 4).trans rfl
         have hc5_ : w'.cell? ⟨gb215, 5, none⟩ = some (.int .i64 a0_5) := (blk_cell BK215.out 5).trans rfl
         have hc6_ : w'.cell? ⟨gb215, 6, none⟩ = some (.string a0_6) := (blk_cell BK215.out 6).trans rfl
         have hc7_ : w'.cell? ⟨gb215, 7, none⟩ = some (.slice A0_7 l0_7.length c0_7) := (blk_cell BK215.out 7).trans rfl
         refine value_ (w1 := w') (v := .bool a0_1) (by rfl) rfl ?_ ?_
         ·
          go_simp
          (try simp only [i64_w])
          try rfl
         refine hK.out _ _ ⟨v220, (by rw [ha.out]; exact putSel_upk 3 hb_ rfl rfl rfl), Q_BK215, Q_HB, Q_HO221⟩
        refine steps_cons ?_ ?_
        ·
         rintro b a w' ⟨v220, ha, Q_BK215, Q_HB, Q_HO221⟩ hb_ hon hoff
         refine ⟨_, rfl, fun K hK => ?_⟩
         have e14 : a.tmps[14]? = some (.bool a0_1) := by rw [ha]; exact putSel_on (e := (5, 14, .bool a0_1)) 3 rfl rfl (hon 5 (by kernel_rfl)) rfl
         replace ha := Aside0.mk ha
         have BK215 := Aside0.mk Q_BK215
         have HB := Aside0.mk Q_HB
         refine goes_ Try.func124 (by kernel_rfl) rfl #[.bool a0_1] (by rfl) rfl rfl (by first | (simp only [List.map_toArray, List.map_cons, List.map_nil, Act.eval, Array.getD_eq_getD_getElem?, Option.getD_some, e14]; done) | (simp only [List.map_toArray, List.map_cons, List.map_nil, Act.eval, Array.getD_eq_getD_getElem?, Option.getD_some, e14]; rfl)) ?_
         with_reducible refine (impl_flagText.calls k a0_1 t218 _ A6.out).mono ?_
         rintro e w20 ⟨rfl, hb⟩
         refine ⟨_, rfl, ?_⟩
         have n0_ := Aside0.mk (blk_below (g := gb215) (o := .cells #[.int .i64 a0_0, .bool a0_1, .int .i64 a0_2, .int .i64 a0_3, .int .i64 a0_4, .int .i64 a0_5, .string a0_6, .slice A0_7 l0_7.length c0_7] 79 (0, 0)) (by (with_reducible repeat (first | refine blk_drewN ?_ _ | refine blk_drew ?_ | refine blk_alloc ?_ _)); exact BK215.out) hb)
         have n1_ := Aside0.mk (below_step (by repeat (first | (with_reducible first | exact HB.out | apply below_alloc | apply pw_below_drewN | apply below_drew1 | refine below_set ?_ GE215.out) | exact HB.out)) hb)
         have z_HO221 := fun (h0_ : b 20 = true) => (show Kd.R (Kd.int .i64) 3 w20 w.heap.size (fun _ => True) v220 y219 from by first | exact (Kd.R_below (by (with_reducible repeat (first | apply Kd.R_alloc | apply Kd.R_drewN | apply Kd.R_drew)); exact (Q_HO221 h0_)) hb) | exact Kd.R_mono (Kd.R_below (by (with_reducible repeat (first | apply Kd.R_alloc | apply Kd.R_drewN | apply Kd.R_drew)); exact (Q_HO221 h0_)) hb) (fun _ h_ => by first | trivial | exact h_ | exact h_.1))
         clear BK215
         clear HB
         have BK215 := n0_
         have HB := n1_
         clear n0_ n1_
         (try clear hb)
         (try clear hb2)
         (try clear hk)
         (try clear hi)
         refine hK.out _ _ ⟨v220, (by rw [ha.out]; exact putSel_upk 4 hb_ rfl rfl rfl), (by (with_reducible repeat (first | refine blk_drewN ?_ _ | refine blk_drew ?_ | refine blk_alloc ?_ _)); exact BK215.out), (by repeat (first | (with_reducible first | exact HB.out | apply below_alloc | apply pw_below_drewN | apply below_drew1 | refine below_set ?_ GE215.out) | exact HB.out)), z_HO221⟩
        refine steps_cons ?_ ?_
        ·
         rintro b a w' ⟨v220, ha, Q_BK215, Q_HB, Q_HO221⟩ hb_ hon hoff
         refine ⟨_, rfl, fun K hK => ?_⟩
         have e12 : a.tmps[12]? = some (.string ((⟨#[106]⟩ : ByteArray) ++ t217)) := by rw [ha]; exact putSel_on (e := (3, 12, .string ((⟨#[106]⟩ : ByteArray) ++ t217))) 2 rfl rfl (hon 3 (by kernel_rfl)) rfl
         have e15 : a.tmps[15]? = some (.string t218) := by rw [ha]; exact putSel_on (e := (6, 15, .string t218)) 4 rfl rfl (hon 6 (by kernel_rfl)) rfl
         replace ha := Aside0.mk ha
         have BK215 := Aside0.mk Q_BK215
         have HB := Aside0.mk Q_HB
         refine value_ (w1 := w') (v := .string (((⟨#[106]⟩ : ByteArray) ++ t217) ++ t218)) (by rfl) rfl ?_ ?_
         ·
          go_simp
          (try simp only [i64_w])
          try rfl
         refine hK.out _ _ ⟨v220, (by rw [ha.out]; exact putSel_upk 5 hb_ rfl rfl rfl), Q_BK215, Q_HB, Q_HO221⟩
        refine steps_cons ?_ ?_
        ·
         rintro b a w' ⟨v220, ha, Q_BK215, Q_HB, Q_HO221⟩ hb_ hon hoff
         refine ⟨_, rfl, fun K hK => ?_⟩
         have e18 : a.tmps[18]? = some (.pointer (some ⟨gb215, 2, none⟩)) := by rw [ha]; exact (putSel_off rfl).trans rfl
         replace ha := Aside0.mk ha
         have BK215 := Aside0.mk Q_BK215
         have HB := Aside0.mk Q_HB
         have hc0_ : w'.cell? ⟨gb215, 0, none⟩ = some (.int .i64 a0_0) := (blk_cell BK215.out 0).trans rfl
         have hc1_ : w'.cell? ⟨gb215, 1, none⟩ = some (.bool a0_1) := (blk_cell BK215.out 1).trans rfl
         have hc2_ : w'.cell? ⟨gb215, 2, none⟩ = some (.int .i64 a0_2) := (blk_cell BK215.out 2).trans rfl
         have hc3_ : w'.cell? ⟨gb215, 3, none⟩ = some (.int .i64 a0_3) := (blk_cell BK215.out 3).trans rfl
         have hc4_ : w'.cell? ⟨gb215, 4, none⟩ = some (.int .i64 a0_4) := (blk_cell BK215.out 4).trans rfl
         have hc5_ : w'.cell? ⟨gb215, 5, none⟩ = some (.int .i64 a0_5) := (blk_cell BK215.out 5).trans rfl
         have hc6_ : w'.cell? ⟨gb215, 6, none⟩ = some (.string a0_6) := (blk_cell BK215.out 6).trans rfl
         have hc7_ : w'.cell? ⟨gb215, 7, none⟩ = some (.slice A0_7 l0_7.length c0_7) := (blk_cell BK215.out 7).trans rfl
         refine value_ (w1 := w') (v := .int .i64 a0_2) (by rfl) rfl ?_ ?_
         ·
          go_simp
          (try simp only [i64_w])
          try rfl
         refine hK.out _ _ ⟨v220, (by rw [ha.out]; exact putSel_upk 6 hb_ rfl rfl rfl), Q_BK215, Q_HB, fun h0_ => absurd ((hoff 20 (by kernel_rfl)).symm.trans h0_) (by decide)⟩
        refine steps_cons ?_ ?_
        ·
         rintro b a w' ⟨v220, ha, Q_BK215, Q_HB, Q_HO221⟩ hb_ hon hoff
         refine ⟨_, rfl, fun K hK => ?_⟩
         have e21 : a.tmps[21]? = some (.pointer (some ⟨gb215, 3, none⟩)) := by rw [ha]; exact (putSel_off rfl).trans rfl
         replace ha := Aside0.mk ha
         have BK215 := Aside0.mk Q_BK215
         have HB := Aside0.mk Q_HB
         have hc0_ : w'.cell? ⟨gb215, 0, none⟩ = some (.int .i64 a0_0) := (blk_cell BK215.out 0).trans rfl
         have hc1_ : w'.cell? ⟨gb215, 1, none⟩ = some (.bool a0_1) := (blk_cell BK215.out 1).trans rfl
         have hc2_ : w'.cell? ⟨gb215, 2, none⟩ = some (.int .i64 a0_2) := (blk_cell BK215.out 2).trans rfl
         have hc3_ : w'.cell? ⟨gb215, 3, none⟩ = some (.int .i64 a0_3) := (blk_cell BK215.out 3).trans rfl
         have hc4_ : w'.cell? ⟨gb215, 4, none⟩ = some (.int .i64 a0_4) := (blk_cell BK215.out 4).trans rfl
         have hc5_ : w'.cell? ⟨gb215, 5, none⟩ = some (.int .i64 a0_5) := (blk_cell BK215.out 5).trans rfl
         have hc6_ : w'.cell? ⟨gb215, 6, none⟩ = some (.string a0_6) := (blk_cell BK215.out 6).trans rfl
         have hc7_ : w'.cell? ⟨gb215, 7, none⟩ = some (.slice A0_7 l0_7.length c0_7) := (blk_cell BK215.out 7).trans rfl
         refine value_ (w1 := w') (v := .int .i64 a0_3) (by rfl) rfl ?_ ?_
         ·
          go_simp
          (try simp only [i64_w])
          try rfl
         refine hK.out _ _ ⟨v220, (by rw [ha.out]; exact putSel_upk 7 hb_ rfl rfl rfl), Q_BK215, Q_HB, fun h0_ => absurd ((hoff 20 (by kernel_rfl)).symm.trans h0_) (by decide)⟩
        refine steps_cons ?_ ?_
        ·
         rintro b a w' ⟨v220, ha, Q_BK215, Q_HB, Q_HO221⟩ hb_ hon hoff
         refine ⟨_, rfl, fun K hK => ?_⟩
         have e24 : a.tmps[24]? = some (.pointer (some ⟨gb215, 4, none⟩)) := by rw [ha]; exact (putSel_off rfl).trans rfl
         replace ha := Aside0.mk ha
         have BK215 := Aside0.mk Q_BK215
         have HB := Aside0.mk Q_HB
         have hc0_ : w'.cell? ⟨gb215, 0, none⟩ = some (.int .i64 a0_0) := (blk_cell BK215.out 0).trans rfl
         have hc1_ : w'.cell? ⟨gb215, 1, none⟩ = some (.bool a0_1) := (blk_cell BK215.out 1).trans rfl
         have hc2_ : w'.cell? ⟨gb215, 2, none⟩ = some (.int .i64 a0_2) := (blk_cell BK215.out 2).trans rfl
         have hc3_ : w'.cell? ⟨gb215, 3, none⟩ = some (.int .i64 a0_3) := (blk_cell BK215.out 3).trans rfl
         have hc4_ : w'.cell? ⟨gb215, 4, none⟩ = some (.int .i64 a0_4) := (blk_cell BK215.out 4).trans rfl
         have hc5_ : w'.cell? ⟨gb215, 5, none⟩ = some (.int .i64 a0_5) := (blk_cell BK215.out 5).trans rfl
         have hc6_ : w'.cell? ⟨gb215, 6, none⟩ = some (.string a0_6) := (blk_cell BK215.out 6).trans rfl
         have hc7_ : w'.cell? ⟨gb215, 7, none⟩ = some (.slice A0_7 l0_7.length c0_7) := (blk_cell BK215.out 7).trans rfl
         refine value_ (w1 := w') (v := .int .i64 a0_4) (by rfl) rfl ?_ ?_
         ·
          go_simp
          (try simp only [i64_w])
          try rfl
         refine hK.out _ _ ⟨v220, (by rw [ha.out]; exact putSel_upk 8 hb_ rfl rfl rfl), Q_BK215, Q_HB, fun h0_ => absurd ((hoff 20 (by kernel_rfl)).symm.trans h0_) (by decide)⟩
        refine steps_cons ?_ ?_
        ·
         rintro b a w' ⟨v220, ha, Q_BK215, Q_HB, Q_HO221⟩ hb_ hon hoff
         refine ⟨_, rfl, fun K hK => ?_⟩
         have e27 : a.tmps[27]? = some (.pointer (some ⟨gb215, 5, none⟩)) := by rw [ha]; exact (putSel_off rfl).trans rfl
         replace ha := Aside0.mk ha
         have BK215 := Aside0.mk Q_BK215
         have HB := Aside0.mk Q_HB
         have hc0_ : w'.cell? ⟨gb215, 0, none⟩ = some (.int .i64 a0_0) := (blk_cell BK215.out 0).trans rfl
         have hc1_ : w'.cell? ⟨gb215, 1, none⟩ = some (.bool a0_1) := (blk_cell BK215.out 1).trans rfl
         have hc2_ : w'.cell? ⟨gb215, 2, none⟩ = some (.int .i64 a0_2) := (blk_cell BK215.out 2).trans rfl
         have hc3_ : w'.cell? ⟨gb215, 3, none⟩ = some (.int .i64 a0_3) := (blk_cell BK215.out 3).trans rfl
         have hc4_ : w'.cell? ⟨gb215, 4, none⟩ = some (.int .i64 a0_4) := (blk_cell BK215.out 4).trans rfl
         have hc5_ : w'.cell? ⟨gb215, 5, none⟩ = some (.int .i64 a0_5) := (blk_cell BK215.out 5).trans rfl
         have hc6_ : w'.cell? ⟨gb215, 6, none⟩ = some (.string a0_6) := (blk_cell BK215.out 6).trans rfl
         have hc7_ : w'.cell? ⟨gb215, 7, none⟩ = some (.slice A0_7 l0_7.length c0_7) := (blk_cell BK215.out 7).trans rfl
         refine value_ (w1 := w') (v := .int .i64 a0_5) (by rfl) rfl ?_ ?_
         ·
          go_simp
          (try simp only [i64_w])
          try rfl
         refine hK.out _ _ ⟨v220, (by rw [ha.out]; exact putSel_upk 9 hb_ rfl rfl rfl), Q_BK215, Q_HB, fun h0_ => absurd ((hoff 20 (by kernel_rfl)).symm.trans h0_) (by decide)⟩
        refine steps_cons ?_ ?_
        ·
         rintro b a w' ⟨v220, ha, Q_BK215, Q_HB, Q_HO221⟩ hb_ hon hoff
         refine ⟨_, rfl, fun K hK => ?_⟩
         have e19 : a.tmps[19]? = some (.int .i64 a0_2) := by rw [ha]; exact putSel_on (e := (10, 19, .int .i64 a0_2)) 6 rfl rfl (hon 10 (by kernel_rfl)) rfl
         have e22 : a.tmps[22]? = some (.int .i64 a0_3) := by rw [ha]; exact putSel_on (e := (13, 22, .int .i64 a0_3)) 7 rfl rfl (hon 13 (by kernel_rfl)) rfl
         have e25 : a.tmps[25]? = some (.int .i64 a0_4) := by rw [ha]; exact putSel_on (e := (16, 25, .int .i64 a0_4)) 8 rfl rfl (hon 16 (by kernel_rfl)) rfl
         have e28 : a.tmps[28]? = some (.int .i64 a0_5) := by rw [ha]; exact putSel_on (e := (19, 28, .int .i64 a0_5)) 9 rfl rfl (hon 19 (by kernel_rfl)) rfl
         replace ha := Aside0.mk ha
         have BK215 := Aside0.mk Q_BK215
         have HB := Aside0.mk Q_HB
         refine Kd.R_lit_step (Kd.int .i64) _ 3 ?hg (N := 29) ?hd (xs := ([a0_2, a0_3, a0_4, a0_5] : List Int)) (inner := [.int .i64 a0_2, .int .i64 a0_3, .int .i64 a0_4, .int .i64 a0_5]) (ok := fun _ => True) (okp := fun _ => True) ?hr ?hp (fun _ hk => hk) trivial (Below.refl _ _) (Nat.le_refl _) (by simp) ?_; (case hd => rfl); (case hg => rfl); (case hr => first | (go_simp; done) | (go_simp; rfl)); (case hp => exact (Reps.one (show Kd.M (Kd.int .i64) _ _ _ a0_2 [.int .i64 a0_2] from rfl) (Reps.one (show Kd.M (Kd.int .i64) _ _ _ a0_3 [.int .i64 a0_3] from rfl) (Reps.one (show Kd.M (Kd.int .i64) _ _ _ a0_4 [.int .i64 a0_4] from rfl) (Reps.one (show Kd.M (Kd.int .i64) _ _ _ a0_5 [.int .i64 a0_5] from rfl) (Reps.none _ _))))))
         intro v220 w18 ho19 hb hg_ hnew_
         clear hg_ hnew_
         (first | rw [← Ny219.out] at ho19 | (simp only [Int.reduceToNat] at ho19; rw [← Ny219.out] at ho19))
         have n0_ := Aside0.mk (Kd.R_lower ho19 (below_size (by repeat (first | (with_reducible first | exact HB.out | apply below_alloc | apply pw_below_drewN | apply below_drew1 | refine below_set ?_ GE215.out) | exact HB.out))))
         have n1_ := Aside0.mk (blk_below (g := gb215) (o := .cells #[.int .i64 a0_0, .bool a0_1, .int .i64 a0_2, .int .i64 a0_3, .int .i64 a0_4, .int .i64 a0_5, .string a0_6, .slice A0_7 l0_7.length c0_7] 79 (0, 0)) (by (with_reducible repeat (first | refine blk_drewN ?_ _ | refine blk_drew ?_ | refine blk_alloc ?_ _)); exact BK215.out) hb)
         have n2_ := Aside0.mk (below_step (by repeat (first | (with_reducible first | exact HB.out | apply below_alloc | apply pw_below_drewN | apply below_drew1 | refine below_set ?_ GE215.out) | exact HB.out)) hb)
         clear BK215
         clear HB
         have HO221 := n0_
         have BK215 := n1_
         have HB := n2_
         clear n0_ n1_ n2_
         clear hb ho19
         refine hK.out _ _ ⟨v220, (by rw [ha.out]; exact putSel_upk 10 hb_ rfl rfl rfl), (by (with_reducible repeat (first | refine blk_drewN ?_ _ | refine blk_drew ?_ | refine blk_alloc ?_ _)); exact BK215.out), (by repeat (first | (with_reducible first | exact HB.out | apply below_alloc | apply pw_below_drewN | apply below_drew1 | refine below_set ?_ GE215.out) | exact HB.out)), fun _ => (by (with_reducible repeat (first | apply Kd.R_alloc | apply Kd.R_drewN | apply Kd.R_drew)); exact HO221.out)⟩
        refine steps_cons ?_ ?_
        ·
         rintro b a w' ⟨v220, ha, Q_BK215, Q_HB, Q_HO221⟩ hb_ hon hoff
         refine ⟨_, rfl, fun K hK => ?_⟩
         have e29 : a.tmps[29]? = some (v220) := by rw [ha]; exact putSel_on (e := (20, 29, v220)) 10 rfl rfl (hon 20 (by kernel_rfl)) rfl
         replace ha := Aside0.mk ha
         have BK215 := Aside0.mk Q_BK215
         have HB := Aside0.mk Q_HB
         have HO221 := Aside0.mk (Q_HO221 (hon 20 (by kernel_rfl)))
         obtain ⟨Ao23, co23, eo23⟩ := Kd.R_slice HO221.out
         (first | subst eo23 | (injection eo23 with f1_ f2_ f3_; have f4_ := f1_.symm; have f5_ := f3_.symm; clear f1_ f2_ f3_; subst f4_; subst f5_))
         refine goes_ Try.func125 (by kernel_rfl) rfl #[.slice Ao23 y219.length co23] (by rfl) rfl rfl (by first | (simp only [List.map_toArray, List.map_cons, List.map_nil, Act.eval, Array.getD_eq_getD_getElem?, Option.getD_some, e29]; done) | (simp only [List.map_toArray, List.map_cons, List.map_nil, Act.eval, Array.getD_eq_getD_getElem?, Option.getD_some, e29]; rfl)) ?_
         with_reducible refine (impl_vars.calls k _ _ y219 t222 _ ?side1 ?side2 A8.out).mono ?_
         (case side1 => repeat (first | exact (Kd.R_reads' HO221.out).2.2 | (with_reducible refine Kd.C_alloc ?_ _) | (with_reducible refine Kd.C_drewN ?_ _) | (with_reducible refine Kd.C_drew ?_)))
         (case side2 => exact (Kd.R_reads' HO221.out).2.1)
         rintro e w24 ⟨rfl, hb⟩
         refine ⟨_, rfl, ?_⟩
         have n0_ := Aside0.mk (Kd.R_below (by (with_reducible repeat (first | apply Kd.R_alloc | apply Kd.R_drewN | apply Kd.R_drew)); exact HO221.out) hb)
         have n1_ := Aside0.mk (blk_below (g := gb215) (o := .cells #[.int .i64 a0_0, .bool a0_1, .int .i64 a0_2, .int .i64 a0_3, .int .i64 a0_4, .int .i64 a0_5, .string a0_6, .slice A0_7 l0_7.length c0_7] 79 (0, 0)) (by (with_reducible repeat (first | refine blk_drewN ?_ _ | refine blk_drew ?_ | refine blk_alloc ?_ _)); exact BK215.out) hb)
         have n2_ := Aside0.mk (below_step (by repeat (first | (with_reducible first | exact HB.out | apply below_alloc | apply pw_below_drewN | apply below_drew1 | refine below_set ?_ GE215.out) | exact HB.out)) hb)
         clear HO221
         clear BK215
         clear HB
         have HO221 := n0_
         have BK215 := n1_
         have HB := n2_
         clear n0_ n1_ n2_
         (try clear hb)
         (try clear hb2)
         (try clear hk)
         (try clear hi)
         refine hK.out _ _ ⟨.slice Ao23 y219.length co23, (by rw [ha.out]; exact putSel_upk 11 hb_ rfl rfl rfl), (by (with_reducible repeat (first | refine blk_drewN ?_ _ | refine blk_drew ?_ | refine blk_alloc ?_ _)); exact BK215.out), (by repeat (first | (with_reducible first | exact HB.out | apply below_alloc | apply pw_below_drewN | apply below_drew1 | refine below_set ?_ GE215.out) | exact HB.out)), fun _ => (by (with_reducible repeat (first | apply Kd.R_alloc | apply Kd.R_drewN | apply Kd.R_drew)); exact HO221.out)⟩
        refine steps_cons ?_ ?_
        ·
         rintro b a w' ⟨v220, ha, Q_BK215, Q_HB, Q_HO221⟩ hb_ hon hoff
         refine ⟨_, rfl, fun K hK => ?_⟩
         have e16 : a.tmps[16]? = some (.string (((⟨#[106]⟩ : ByteArray) ++ t217) ++ t218)) := by rw [ha]; exact putSel_on (e := (7, 16, .string (((⟨#[106]⟩ : ByteArray) ++ t217) ++ t218))) 5 rfl rfl (hon 7 (by kernel_rfl)) rfl
         have e30 : a.tmps[30]? = some (.string t222) := by rw [ha]; exact putSel_on (e := (21, 30, .string t222)) 11 rfl rfl (hon 21 (by kernel_rfl)) rfl
         replace ha := Aside0.mk ha
         have BK215 := Aside0.mk Q_BK215
         have HB := Aside0.mk Q_HB
         have HO221 := Aside0.mk (Q_HO221 (hon 20 (by kernel_rfl)))
         refine value_ (w1 := w') (v := .string ((((⟨#[106]⟩ : ByteArray) ++ t217) ++ t218) ++ t222)) (by rfl) rfl ?_ ?_
         ·
          go_simp
          (try simp only [i64_w])
          try rfl
         refine hK.out _ _ ⟨v220, (by rw [ha.out]; exact putSel_upk 12 hb_ rfl rfl rfl), Q_BK215, Q_HB, Q_HO221⟩
        refine steps_cons ?_ ?_
        ·
         rintro b a w' ⟨v220, ha, Q_BK215, Q_HB, Q_HO221⟩ hb_ hon hoff
         refine ⟨_, rfl, fun K hK => ?_⟩
         have e33 : a.tmps[33]? = some (.pointer (some ⟨gb215, 6, none⟩)) := by rw [ha]; exact (putSel_off rfl).trans rfl
         replace ha := Aside0.mk ha
         have BK215 := Aside0.mk Q_BK215
         have HB := Aside0.mk Q_HB
         have hc0_ : w'.cell? ⟨gb215, 0, none⟩ = some (.int .i64 a0_0) := (blk_cell BK215.out 0).trans rfl
         have hc1_ : w'.cell? ⟨gb215, 1, none⟩ = some (.bool a0_1) := (blk_cell BK215.out 1).trans rfl
         have hc2_ : w'.cell? ⟨gb215, 2, none⟩ = some (.int .i64 a0_2) := (blk_cell BK215.out 2).trans rfl
         have hc3_ : w'.cell? ⟨gb215, 3, none⟩ = some (.int .i64 a0_3) := (blk_cell BK215.out 3).trans rfl
         have hc4_ : w'.cell? ⟨gb215, 4, none⟩ = some (.int .i64 a0_4) := (blk_cell BK215.out 4).trans rfl
         have hc5_ : w'.cell? ⟨gb215, 5, none⟩ = some (.int .i64 a0_5) := (blk_cell BK215.out 5).trans rfl
         have hc6_ : w'.cell? ⟨gb215, 6, none⟩ = some (.string a0_6) := (blk_cell BK215.out 6).trans rfl
         have hc7_ : w'.cell? ⟨gb215, 7, none⟩ = some (.slice A0_7 l0_7.length c0_7) := (blk_cell BK215.out 7).trans rfl
         refine value_ (w1 := w') (v := .string a0_6) (by rfl) rfl ?_ ?_
         ·
          go_simp
          (try simp only [i64_w])
          try rfl
         refine hK.out _ _ ⟨v220, (by rw [ha.out]; exact putSel_upk 13 hb_ rfl rfl rfl), Q_BK215, Q_HB, Q_HO221⟩
        refine steps_cons ?_ ?_
        ·
         rintro b a w' ⟨v220, ha, Q_BK215, Q_HB, Q_HO221⟩ hb_ hon hoff
         refine ⟨_, rfl, fun K hK => ?_⟩
         have e34 : a.tmps[34]? = some (.string a0_6) := by rw [ha]; exact putSel_on (e := (25, 34, .string a0_6)) 13 rfl rfl (hon 25 (by kernel_rfl)) rfl
         replace ha := Aside0.mk ha
         have BK215 := Aside0.mk Q_BK215
         have HB := Aside0.mk Q_HB
         have HO221 := Aside0.mk (Q_HO221 (hon 20 (by kernel_rfl)))
         refine goes_ Try.func126 (by kernel_rfl) rfl #[.string a0_6] (by rfl) rfl rfl (by first | (simp only [List.map_toArray, List.map_cons, List.map_nil, Act.eval, Array.getD_eq_getD_getElem?, Option.getD_some, e34]; done) | (simp only [List.map_toArray, List.map_cons, List.map_nil, Act.eval, Array.getD_eq_getD_getElem?, Option.getD_some, e34]; rfl)) ?_
         with_reducible refine (impl_pieceText.calls k a0_6 t223 _ A10.out).mono ?_
         rintro e w25 ⟨rfl, hb⟩
         refine ⟨_, rfl, ?_⟩
         have n0_ := Aside0.mk (Kd.R_below (by (with_reducible repeat (first | apply Kd.R_alloc | apply Kd.R_drewN | apply Kd.R_drew)); exact HO221.out) hb)
         have n1_ := Aside0.mk (blk_below (g := gb215) (o := .cells #[.int .i64 a0_0, .bool a0_1, .int .i64 a0_2, .int .i64 a0_3, .int .i64 a0_4, .int .i64 a0_5, .string a0_6, .slice A0_7 l0_7.length c0_7] 79 (0, 0)) (by (with_reducible repeat (first | refine blk_drewN ?_ _ | refine blk_drew ?_ | refine blk_alloc ?_ _)); exact BK215.out) hb)
         have n2_ := Aside0.mk (below_step (by repeat (first | (with_reducible first | exact HB.out | apply below_alloc | apply pw_below_drewN | apply below_drew1 | refine below_set ?_ GE215.out) | exact HB.out)) hb)
         clear HO221
         clear BK215
         clear HB
         have HO221 := n0_
         have BK215 := n1_
         have HB := n2_
         clear n0_ n1_ n2_
         (try clear hb)
         (try clear hb2)
         (try clear hk)
         (try clear hi)
         refine hK.out _ _ ⟨v220, (by rw [ha.out]; exact putSel_upk 14 hb_ rfl rfl rfl), (by (with_reducible repeat (first | refine blk_drewN ?_ _ | refine blk_drew ?_ | refine blk_alloc ?_ _)); exact BK215.out), (by repeat (first | (with_reducible first | exact HB.out | apply below_alloc | apply pw_below_drewN | apply below_drew1 | refine below_set ?_ GE215.out) | exact HB.out)), fun _ => (by (with_reducible repeat (first | apply Kd.R_alloc | apply Kd.R_drewN | apply Kd.R_drew)); exact HO221.out)⟩
        refine steps_cons ?_ ?_
        ·
         rintro b a w' ⟨v220, ha, Q_BK215, Q_HB, Q_HO221⟩ hb_ hon hoff
         refine ⟨_, rfl, fun K hK => ?_⟩
         have e31 : a.tmps[31]? = some (.string ((((⟨#[106]⟩ : ByteArray) ++ t217) ++ t218) ++ t222)) := by rw [ha]; exact putSel_on (e := (22, 31, .string ((((⟨#[106]⟩ : ByteArray) ++ t217) ++ t218) ++ t222))) 12 rfl rfl (hon 22 (by kernel_rfl)) rfl
         have e35 : a.tmps[35]? = some (.string t223) := by rw [ha]; exact putSel_on (e := (26, 35, .string t223)) 14 rfl rfl (hon 26 (by kernel_rfl)) rfl
         replace ha := Aside0.mk ha
         have BK215 := Aside0.mk Q_BK215
         have HB := Aside0.mk Q_HB
         have HO221 := Aside0.mk (Q_HO221 (hon 20 (by kernel_rfl)))
         refine value_ (w1 := w') (v := .string (((((⟨#[106]⟩ : ByteArray) ++ t217) ++ t218) ++ t222) ++ t223)) (by rfl) rfl ?_ ?_
         ·
          go_simp
          (try simp only [i64_w])
          try rfl
         refine hK.out _ _ ⟨v220, (by rw [ha.out]; exact putSel_upk 15 hb_ rfl rfl rfl), Q_BK215, Q_HB, Q_HO221⟩
        refine steps_cons ?_ ?_
        ·
         rintro b a w' ⟨v220, ha, Q_BK215, Q_HB, Q_HO221⟩ hb_ hon hoff
         refine ⟨_, rfl, fun K hK => ?_⟩
         have e37 : a.tmps[37]? = some (.pointer (some ⟨gb215, 7, none⟩)) := by rw [ha]; exact (putSel_off rfl).trans rfl
         replace ha := Aside0.mk ha
         have BK215 := Aside0.mk Q_BK215
         have HB := Aside0.mk Q_HB
         have hc0_ : w'.cell? ⟨gb215, 0, none⟩ = some (.int .i64 a0_0) := (blk_cell BK215.out 0).trans rfl
         have hc1_ : w'.cell? ⟨gb215, 1, none⟩ = some (.bool a0_1) := (blk_cell BK215.out 1).trans rfl
         have hc2_ : w'.cell? ⟨gb215, 2, none⟩ = some (.int .i64 a0_2) := (blk_cell BK215.out 2).trans rfl
         have hc3_ : w'.cell? ⟨gb215, 3, none⟩ = some (.int .i64 a0_3) := (blk_cell BK215.out 3).trans rfl
         have hc4_ : w'.cell? ⟨gb215, 4, none⟩ = some (.int .i64 a0_4) := (blk_cell BK215.out 4).trans rfl
         have hc5_ : w'.cell? ⟨gb215, 5, none⟩ = some (.int .i64 a0_5) := (blk_cell BK215.out 5).trans rfl
         have hc6_ : w'.cell? ⟨gb215, 6, none⟩ = some (.string a0_6) := (blk_cell BK215.out 6).trans rfl
         have hc7_ : w'.cell? ⟨gb215, 7, none⟩ = some (.slice A0_7 l0_7.length c0_7) := (blk_cell BK215.out 7).trans rfl
         refine value_ (w1 := w') (v := .slice A0_7 l0_7.length c0_7) (by rfl) rfl ?_ ?_
         ·
          go_simp
          (try simp only [i64_w])
          try rfl
         refine hK.out _ _ ⟨v220, (by rw [ha.out]; exact putSel_upk 16 hb_ rfl rfl rfl), Q_BK215, Q_HB, Q_HO221⟩
        refine steps_cons ?_ ?_
        ·
         rintro b a w' ⟨v220, ha, Q_BK215, Q_HB, Q_HO221⟩ hb_ hon hoff
         refine ⟨_, rfl, fun K hK => ?_⟩
         have e38 : a.tmps[38]? = some (.slice A0_7 l0_7.length c0_7) := by rw [ha]; exact putSel_on (e := (29, 38, .slice A0_7 l0_7.length c0_7)) 16 rfl rfl (hon 29 (by kernel_rfl)) rfl
         replace ha := Aside0.mk ha
         have BK215 := Aside0.mk Q_BK215
         have HB := Aside0.mk Q_HB
         refine value_ (w1 := w') (v := .int .i64 (l0_7.length : Int)) (by rfl) rfl ?_ ?_
         ·
          go_simp
          (try simp only [i64_w])
          try rfl
         refine hK.out _ _ ⟨v220, (by rw [ha.out]; exact putSel_upk 17 hb_ rfl rfl rfl), Q_BK215, Q_HB, Q_HO221⟩
        refine steps_cons ?_ ?_
        ·
         rintro b a w' ⟨v220, ha, Q_BK215, Q_HB, Q_HO221⟩ hb_ hon hoff
         refine ⟨_, rfl, fun K hK => ?_⟩
         have e39 : a.tmps[39]? = some (.int .i64 (l0_7.length : Int)) := by rw [ha]; exact putSel_on (e := (30, 39, .int .i64 (l0_7.length : Int))) 17 rfl rfl (hon 30 (by kernel_rfl)) rfl
         replace ha := Aside0.mk ha
         have BK215 := Aside0.mk Q_BK215
         have HB := Aside0.mk Q_HB
         have HO221 := Aside0.mk (Q_HO221 (hon 20 (by kernel_rfl)))
         refine goes_ Try.func123 (by kernel_rfl) rfl #[.int .i64 (l0_7.length : Int)] (by rfl) rfl rfl (by first | (simp only [List.map_toArray, List.map_cons, List.map_nil, Act.eval, Array.getD_eq_getD_getElem?, Option.getD_some, e39]; done) | (simp only [List.map_toArray, List.map_cons, List.map_nil, Act.eval, Array.getD_eq_getD_getElem?, Option.getD_some, e39]; rfl)) ?_
         with_reducible refine (impl_Var.calls k (l0_7.length : Int) t224 _ A12.out).mono ?_
         rintro e w26 ⟨rfl, hb⟩
         refine ⟨_, rfl, ?_⟩
         have n0_ := Aside0.mk (Kd.R_below (by (with_reducible repeat (first | apply Kd.R_alloc | apply Kd.R_drewN | apply Kd.R_drew)); exact HO221.out) hb)
         have n1_ := Aside0.mk (blk_below (g := gb215) (o := .cells #[.int .i64 a0_0, .bool a0_1, .int .i64 a0_2, .int .i64 a0_3, .int .i64 a0_4, .int .i64 a0_5, .string a0_6, .slice A0_7 l0_7.length c0_7] 79 (0, 0)) (by (with_reducible repeat (first | refine blk_drewN ?_ _ | refine blk_drew ?_ | refine blk_alloc ?_ _)); exact BK215.out) hb)
         have n2_ := Aside0.mk (below_step (by repeat (first | (with_reducible first | exact HB.out | apply below_alloc | apply pw_below_drewN | apply below_drew1 | refine below_set ?_ GE215.out) | exact HB.out)) hb)
         clear HO221
         clear BK215
         clear HB
         have HO221 := n0_
         have BK215 := n1_
         have HB := n2_
         clear n0_ n1_ n2_
         (try clear hb)
         (try clear hb2)
         (try clear hk)
         (try clear hi)
         refine hK.out _ _ ⟨v220, (by rw [ha.out]; exact putSel_upk 18 hb_ rfl rfl rfl), (by (with_reducible repeat (first | refine blk_drewN ?_ _ | refine blk_drew ?_ | refine blk_alloc ?_ _)); exact BK215.out), (by repeat (first | (with_reducible first | exact HB.out | apply below_alloc | apply pw_below_drewN | apply below_drew1 | refine below_set ?_ GE215.out) | exact HB.out)), fun _ => (by (with_reducible repeat (first | apply Kd.R_alloc | apply Kd.R_drewN | apply Kd.R_drew)); exact HO221.out)⟩
        refine steps_cons ?_ ?_
        ·
         rintro b a w' ⟨v220, ha, Q_BK215, Q_HB, Q_HO221⟩ hb_ hon hoff
         refine ⟨_, rfl, fun K hK => ?_⟩
         have e36 : a.tmps[36]? = some (.string (((((⟨#[106]⟩ : ByteArray) ++ t217) ++ t218) ++ t222) ++ t223)) := by rw [ha]; exact putSel_on (e := (27, 36, .string (((((⟨#[106]⟩ : ByteArray) ++ t217) ++ t218) ++ t222) ++ t223))) 15 rfl rfl (hon 27 (by kernel_rfl)) rfl
         have e40 : a.tmps[40]? = some (.string t224) := by rw [ha]; exact putSel_on (e := (31, 40, .string t224)) 18 rfl rfl (hon 31 (by kernel_rfl)) rfl
         replace ha := Aside0.mk ha
         have BK215 := Aside0.mk Q_BK215
         have HB := Aside0.mk Q_HB
         have HO221 := Aside0.mk (Q_HO221 (hon 20 (by kernel_rfl)))
         refine value_ (w1 := w') (v := .string ((((((⟨#[106]⟩ : ByteArray) ++ t217) ++ t218) ++ t222) ++ t223) ++ t224)) (by rfl) rfl ?_ ?_
         ·
          go_simp
          (try simp only [i64_w])
          try rfl
         refine hK.out _ _ ⟨v220, (by rw [ha.out]; exact putSel_upk 19 hb_ rfl rfl rfl), Q_BK215, Q_HB, Q_HO221⟩
        refine steps_cons ?_ ?_
        ·
         rintro b a w' ⟨v220, ha, Q_BK215, Q_HB, Q_HO221⟩ hb_ hon hoff
         refine ⟨_, rfl, fun K hK => ?_⟩
         have e41 : a.tmps[41]? = some (.string ((((((⟨#[106]⟩ : ByteArray) ++ t217) ++ t218) ++ t222) ++ t223) ++ t224)) := by rw [ha]; exact putSel_on (e := (32, 41, .string ((((((⟨#[106]⟩ : ByteArray) ++ t217) ++ t218) ++ t222) ++ t223) ++ t224))) 19 rfl rfl (hon 32 (by kernel_rfl)) rfl
         replace ha := Aside0.mk ha
         have BK215 := Aside0.mk Q_BK215
         have HB := Aside0.mk Q_HB
         have HO221 := Aside0.mk (Q_HO221 (hon 20 (by kernel_rfl)))
         refine value_ (w1 := w') (v := .string ((((((⟨#[106]⟩ : ByteArray) ++ t217) ++ t218) ++ t222) ++ t223) ++ t224)) (by rfl) rfl ?_ ?_
         ·
          go_simp
          (try simp only [i64_w])
          try rfl
         refine hK.out _ _ ⟨v220, (by rw [ha.out]; exact putSel_upk 20 hb_ rfl rfl rfl), Q_BK215, Q_HB, Q_HO221⟩
        exact steps_nil
       rintro b a w26 hall ⟨v220, ha, Q_BK215, Q_HB, Q_HO221⟩
       clear BK215 HB
       have hb1_ := hall 1 (by kernel_rfl)
       have hb2_ := hall 2 (by kernel_rfl)
       have hb3_ := hall 3 (by kernel_rfl)
       have hb5_ := hall 5 (by kernel_rfl)
       have hb6_ := hall 6 (by kernel_rfl)
       have hb7_ := hall 7 (by kernel_rfl)
       have hb10_ := hall 10 (by kernel_rfl)
       have hb13_ := hall 13 (by kernel_rfl)
       have hb16_ := hall 16 (by kernel_rfl)
       have hb19_ := hall 19 (by kernel_rfl)
       have hb20_ := hall 20 (by kernel_rfl)
       have hb21_ := hall 21 (by kernel_rfl)
       have hb22_ := hall 22 (by kernel_rfl)
       have hb25_ := hall 25 (by kernel_rfl)
       have hb26_ := hall 26 (by kernel_rfl)
       have hb27_ := hall 27 (by kernel_rfl)
       have hb29_ := hall 29 (by kernel_rfl)
       have hb30_ := hall 30 (by kernel_rfl)
       have hb31_ := hall 31 (by kernel_rfl)
       have hb32_ := hall 32 (by kernel_rfl)
       have hb33_ := hall 33 (by kernel_rfl)
       subst ha
       simp only [putSel, hb1_, hb2_, hb3_, hb5_, hb6_, hb7_, hb10_, hb13_, hb16_, hb19_, hb20_, hb21_, hb22_, hb25_, hb26_, hb27_, hb29_, hb30_, hb31_, hb32_, hb33_, if_true, Act.put, List.setIfInBounds_toArray, List.set_cons_zero, List.set_cons_succ]
       have BK215 := Aside0.mk Q_BK215
       clear Q_BK215
       have HB := Aside0.mk Q_HB
       clear Q_HB
       have HO221 := Aside0.mk (Q_HO221 hb20_)
       clear Q_HO221
       clear hall hb1_ hb2_ hb3_ hb5_ hb6_ hb7_ hb10_ hb13_ hb16_ hb19_ hb20_ hb21_ hb22_ hb25_ hb26_ hb27_ hb29_ hb30_ hb31_ hb32_ hb33_
       have hcz27_0 : w26.cell? ⟨gb215, 0, none⟩ = some (.int .i64 a0_0) := (blk_cell BK215.out 0).trans rfl
       have hcz27_1 : w26.cell? ⟨gb215, 1, none⟩ = some (.bool a0_1) := (blk_cell BK215.out 1).trans rfl
       have hcz27_2 : w26.cell? ⟨gb215, 2, none⟩ = some (.int .i64 a0_2) := (blk_cell BK215.out 2).trans rfl
       have hcz27_3 : w26.cell? ⟨gb215, 3, none⟩ = some (.int .i64 a0_3) := (blk_cell BK215.out 3).trans rfl
       have hcz27_4 : w26.cell? ⟨gb215, 4, none⟩ = some (.int .i64 a0_4) := (blk_cell BK215.out 4).trans rfl
       have hcz27_5 : w26.cell? ⟨gb215, 5, none⟩ = some (.int .i64 a0_5) := (blk_cell BK215.out 5).trans rfl
       have hcz27_6 : w26.cell? ⟨gb215, 6, none⟩ = some (.string a0_6) := (blk_cell BK215.out 6).trans rfl
       have hcz27_7 : w26.cell? ⟨gb215, 7, none⟩ = some (.slice A0_7 l0_7.length c0_7) := (blk_cell BK215.out 7).trans rfl
       have hfz27_0 := blk_frozen BK215.out 0
       have hfz27_1 := blk_frozen BK215.out 1
       have hfz27_2 := blk_frozen BK215.out 2
       have hfz27_3 := blk_frozen BK215.out 3
       have hfz27_4 := blk_frozen BK215.out 4
       have hfz27_5 := blk_frozen BK215.out 5
       have hfz27_6 := blk_frozen BK215.out 6
       have hfz27_7 := blk_frozen BK215.out 7
       try go_wp2
       go_loopg [3, 45] k (fun kq v3 v45 w' => ∃ (x3_1 : ByteArray) (x45_1 : Int), v3 = .string x3_1 ∧ v45 = .int .i64 x45_1 ∧ Aside0 (impl_ShowJournal.l0 kq x3_1 l0_7 (l0_7.length : Int) x45_1 = some r) ∧ Aside0 (kq ≤ k) ∧ Aside0 (w'.heap[gb215]? = some (.cells #[.int .i64 a0_0, .bool a0_1, .int .i64 a0_2, .int .i64 a0_3, .int .i64 a0_4, .int .i64 a0_5, .string a0_6, (.slice A0_7 l0_7.length c0_7)] 79 (0, 0))) ∧ Aside0 (Below w.heap.size w w'))
       case atStart => exact ⟨((((((⟨#[106]⟩ : ByteArray) ++ t217) ++ t218) ++ t222) ++ t223) ++ t224), (0), (by first | rfl | (simp; done) | (simp [*]; done)), (by first | rfl | (simp; done) | (simp [*]; done)), H', ⟨Nat.le_refl _⟩, ⟨by (with_reducible repeat (first | refine blk_drewN ?_ _ | refine blk_drew ?_ | refine blk_alloc ?_ _)); exact BK215.out⟩, ⟨by repeat (first | (with_reducible first | exact HB.out | apply below_alloc | apply pw_below_drewN | apply below_drew1 | refine below_set ?_ GE215.out) | exact HB.out)⟩⟩
       case round =>
        clear H'
        try clear c1; try clear c2; try clear p2; try clear c3; try clear c4; try clear c5; try clear c6; try clear c7; try clear c11; try clear c11b0; try clear c11b1; try clear c11b2; try clear c12; try clear c13; try clear c13b0; try clear c13b1; try clear c13b2; try clear hcz15_0; try clear hcz15_1; try clear hcz15_2; try clear hcz15_3; try clear hcz15_4; try clear hcz15_5; try clear hcz15_6; try clear hcz15_7; try clear hcz27_0; try clear hcz27_1; try clear hcz27_2; try clear hcz27_3; try clear hcz27_4; try clear hcz27_5; try clear hcz27_6; try clear hcz27_7; try clear hfz15_0; try clear hfz15_1; try clear hfz15_2; try clear hfz15_3; try clear hfz15_4; try clear hfz15_5; try clear hfz15_6; try clear hfz15_7; try clear hfz27_0; try clear hfz27_1; try clear hfz27_2; try clear hfz27_3; try clear hfz27_4; try clear hfz27_5; try clear hfz27_6; try clear hfz27_7
        obtain ⟨x3_1, x45_1, rfl, rfl, HA, HK1, BK215, HB⟩ := hrel
        cases gk with
        | zero => exact absurd HA.out (by simp [impl_ShowJournal.l0])
        | succ k1 =>
         have H := HA.out
         clear HA
         simp only [impl_ShowJournal.l0] at H
         by_cases c28 : x45_1 < (l0_7.length : Int)
         ·
          rw [if_pos c28] at H
          have c28b0 : decide (x45_1 < (l0_7.length : Int)) = true := decide_eq_true c28
          clear c28
          by_cases c29 : 0 ≤ x45_1
          ·
           rw [if_pos c29] at H
           have c29b0 : decide (0 ≤ x45_1) = true := decide_eq_true c29
           clear c29
           by_cases c30 : x45_1 < (l0_7.length : Int)
           ·
            rw [if_pos c30] at H
            have c30b0 : decide (x45_1 < (l0_7.length : Int)) = true := decide_eq_true c30
            clear c30
            replace H := Option.bind_eq_some_iff.mp H
            obtain ⟨t227, A310, H⟩ := H
            replace H : ((impl_pieceText.f k1 ((rd_T165 l0_7 x45_1).f1)).bind fun t228 => (if t227.size + t228.size ≤ 9223372036854775807 then (if x3_1.size + (t227 ++ t228).size ≤ 9223372036854775807 then (impl_ShowJournal.l0 k1 (x3_1 ++ (t227 ++ t228)) l0_7 (l0_7.length : Int) (wrap64 (x45_1 + 1))) else (none)) else (none))) = some r := H
            have A31 := Aside0.mk A310
            clear A310
            replace H := Option.bind_eq_some_iff.mp H
            obtain ⟨t228, A320, H⟩ := H
            replace H : (if t227.size + t228.size ≤ 9223372036854775807 then (if x3_1.size + (t227 ++ t228).size ≤ 9223372036854775807 then (impl_ShowJournal.l0 k1 (x3_1 ++ (t227 ++ t228)) l0_7 (l0_7.length : Int) (wrap64 (x45_1 + 1))) else (none)) else (none)) = some r := H
            have A32 := Aside0.mk A320
            clear A320
            by_cases c33 : t227.size + t228.size ≤ 9223372036854775807
            ·
             rw [if_pos c33] at H
             have c33b0 := eq_true c33
             have c33b1 : decide (t227.size + t228.size ≤ 9223372036854775807) = true := decide_eq_true c33
             try have c33b2 : (9223372036854775807 < t227.size + t228.size) = False := eq_false (Nat.not_lt.2 c33)
             by_cases c34 : x3_1.size + (t227 ++ t228).size ≤ 9223372036854775807
             ·
              rw [if_pos c34] at H
              have c34b0 := eq_true c34
              have c34b1 : decide (x3_1.size + (t227 ++ t228).size ≤ 9223372036854775807) = true := decide_eq_true c34
              try have c34b2 : (9223372036854775807 < x3_1.size + (t227 ++ t228).size) = False := eq_false (Nat.not_lt.2 c34)
              (try (have c34s : x3_1.size + (t227.size + t228.size) ≤ 9223372036854775807 := (by have h_ := c34; simp only [ByteArray.size_append] at h_; exact h_); have c34t : (9223372036854775807 < x3_1.size + (t227.size + t228.size)) = False := eq_false (Nat.not_lt.2 c34s)))
              have H' := Aside0.mk H
              clear H
              have p225 : 0 ≤ (x45_1 : Int) := of_decide_eq_true (by first | (with_reducible assumption) | assumption)
              have q225 : x45_1 < (l0_7.length : Int) := of_decide_eq_true (by first | (with_reducible assumption) | assumption)
              obtain ⟨ad225, e225, hx225_0, hx225_1⟩ := at_T165 HR0_7.out x45_1 p225 q225
              cases e225
              replace hx225_0 := (HB.out.cell (World.block_lt_of_cell? w _ hx225_0)).trans hx225_0
              replace hx225_1 := (HB.out.cell (World.block_lt_of_cell? w _ hx225_1)).trans hx225_1
              replace p225 := eq_true p225
              replace q225 := eq_true q225
              try go_wp2_with (first | ((with_reducible refine gate_dst (N := 5) rfl ?_); refine box_event ?hg (N := 5) ?hd (cs := #[.int .i64 0, .string (⟨#[]⟩ : ByteArray)]) (t := 165) ?hr ?_; (case hd => rfl); (case hg => rfl); (case hr => first | (go_simp; done) | (go_simp; rfl)); intro gb226 hg w35 hbox hb; have n0_ := Aside0.mk (blk_below (g := gb215) (o := .cells #[.int .i64 a0_0, .bool a0_1, .int .i64 a0_2, .int .i64 a0_3, .int .i64 a0_4, .int .i64 a0_5, .string a0_6, .slice (some ad225) l0_7.length c0_7] 79 (0, 0)) (by (with_reducible repeat (first | refine blk_drewN ?_ _ | refine blk_drew ?_ | refine blk_alloc ?_ _)); exact BK215.out) hb); have n1_ := Aside0.mk (below_step (by repeat (first | (with_reducible first | exact HB.out | apply below_alloc | apply pw_below_drewN | apply below_drew1 | refine below_set ?_ GE215.out) | exact HB.out)) hb); have n2_ := Aside0.mk (hbox); have n3_ := Aside0.mk ((by rw [hg]; exact (below_size (by repeat (first | (with_reducible first | exact HB.out | apply below_alloc | apply pw_below_drewN | apply below_drew1 | refine below_set ?_ GE215.out) | exact HB.out))) : w.heap.size ≤ gb226)); have n4_ := Aside0.mk ((by rw [hg]; exact (below_size (by repeat (first | (with_reducible first | exact HB.out | apply below_alloc | apply pw_below_drewN | apply below_drew1 | refine below_set ?_ GE215.out) | exact HB.out))) : w.heap.size ≤ gb226)); have n5_ := Aside0.mk ((by rw [hg]; exact Nat.ne_of_lt (blk_lt (g := gb215) (o := .cells #[.int .i64 a0_0, .bool a0_1, .int .i64 a0_2, .int .i64 a0_3, .int .i64 a0_4, .int .i64 a0_5, .string a0_6, .slice (some ad225) l0_7.length c0_7] 79 (0, 0)) (by (with_reducible repeat (first | refine blk_drewN ?_ _ | refine blk_drew ?_ | refine blk_alloc ?_ _)); exact BK215.out)) : gb215 ≠ gb226)); have n6_ := Aside0.mk ((by rw [hg]; exact Nat.ne_of_gt (blk_lt (g := gb215) (o := .cells #[.int .i64 a0_0, .bool a0_1, .int .i64 a0_2, .int .i64 a0_3, .int .i64 a0_4, .int .i64 a0_5, .string a0_6, .slice (some ad225) l0_7.length c0_7] 79 (0, 0)) (by (with_reducible repeat (first | refine blk_drewN ?_ _ | refine blk_drew ?_ | refine blk_alloc ?_ _)); exact BK215.out)) : gb226 ≠ gb215)); clear BK215; clear HB; have BK215 := n0_; have HB := n1_; have BK226 := n2_; have GW226 := n3_; have GE226 := n4_; have NB215_226 := n5_; have NB226_215 := n6_; clear n0_ n1_ n2_ n3_ n4_ n5_ n6_; clear hb hbox hg; have hnb36 := NB226_215.out; have hnc36 := NB215_226.out; have hcz37_0 : w35.cell? ⟨gb226, 0, none⟩ = some (.int .i64 0) := (blk_cell BK226.out 0).trans rfl; have hcz37_1 : w35.cell? ⟨gb226, 1, none⟩ = some (.string (⟨#[]⟩ : ByteArray)) := (blk_cell BK226.out 1).trans rfl; have hfz37_0 := blk_frozen BK226.out 0; have hfz37_1 := blk_frozen BK226.out 1))
              have n0_ : Aside0 (((w35.setCell ⟨gb226, 0, none⟩ (.int .i64 ((rd_T165 l0_7 x45_1).f0))).setCell ⟨gb226, 1, none⟩ (.string ((rd_T165 l0_7 x45_1).f1))).heap[gb215]? = some (.cells #[.int .i64 a0_0, .bool a0_1, .int .i64 a0_2, .int .i64 a0_3, .int .i64 a0_4, .int .i64 a0_5, .string a0_6, .slice (some ad225) l0_7.length c0_7] 79 (0, 0))) := ⟨by (with_reducible repeat (first | refine blk_drewN ?_ _ | refine blk_drew ?_ | refine blk_alloc ?_ _)); refine blk_far ?_ NB215_226.out _; (with_reducible repeat (first | refine blk_drewN ?_ _ | refine blk_drew ?_ | refine blk_alloc ?_ _)); refine blk_far ?_ NB215_226.out _; (with_reducible repeat (first | refine blk_drewN ?_ _ | refine blk_drew ?_ | refine blk_alloc ?_ _)); exact BK215.out⟩
              have n1_ : Aside0 (((w35.setCell ⟨gb226, 0, none⟩ (.int .i64 ((rd_T165 l0_7 x45_1).f0))).setCell ⟨gb226, 1, none⟩ (.string ((rd_T165 l0_7 x45_1).f1))).heap[gb226]? = some (.cells #[.int .i64 ((rd_T165 l0_7 x45_1).f0), .string ((rd_T165 l0_7 x45_1).f1)] 165 (0, 0))) := ⟨by (with_reducible repeat (first | refine blk_drewN ?_ _ | refine blk_drew ?_ | refine blk_alloc ?_ _)); refine blk_put (cs := #[.int .i64 ((rd_T165 l0_7 x45_1).f0), .string (⟨#[]⟩ : ByteArray)]) ?_ 1 _ rfl; (with_reducible repeat (first | refine blk_drewN ?_ _ | refine blk_drew ?_ | refine blk_alloc ?_ _)); refine blk_put (cs := #[.int .i64 0, .string (⟨#[]⟩ : ByteArray)]) ?_ 0 _ rfl; (with_reducible repeat (first | refine blk_drewN ?_ _ | refine blk_drew ?_ | refine blk_alloc ?_ _)); exact BK226.out⟩
              have n2_ : Aside0 (Below w.heap.size w ((w35.setCell ⟨gb226, 0, none⟩ (.int .i64 ((rd_T165 l0_7 x45_1).f0))).setCell ⟨gb226, 1, none⟩ (.string ((rd_T165 l0_7 x45_1).f1)))) := ⟨by repeat (first | (with_reducible first | exact HB.out | apply below_alloc | apply pw_below_drewN | apply below_drew1 | refine below_set ?_ GE215.out | refine below_set ?_ GE226.out) | exact HB.out)⟩
              (try clear BK215)
              (try clear BK226)
              (try clear HB)
              generalize ((w35.setCell ⟨gb226, 0, none⟩ (.int .i64 ((rd_T165 l0_7 x45_1).f0))).setCell ⟨gb226, 1, none⟩ (.string ((rd_T165 l0_7 x45_1).f1))) = w38 at n0_ n1_ n2_ ⊢
              have BK215 := n0_
              have BK226 := n1_
              have HB := n2_
              clear n0_ n1_ n2_
              have n0_ := Aside0.mk (blk_drew BK215.out)
              have n1_ := Aside0.mk (blk_drew BK226.out)
              have n2_ := Aside0.mk (below_drew1 HB.out)
              clear BK215
              clear BK226
              clear HB
              have BK215 := n0_
              have BK226 := n1_
              have HB := n2_
              clear n0_ n1_ n2_
              refine start_ (n := 10) (S := fun w' => w'.cell? ⟨gb226, 0, none⟩ = some (.int .i64 ((rd_T165 l0_7 x45_1).f0)) ∧ w'.cell? ⟨gb226, 1, none⟩ = some (.string ((rd_T165 l0_7 x45_1).f1))) (ds := []) #[false, false, false, false, false, false, false, false, false, false] (by kernel_rfl) rfl rfl ⟨(blk_cell BK226.out 0).trans rfl, (blk_cell BK226.out 1).trans rfl⟩ (fun hHeld => ?_); refine with_tabW impl_ShowJournal.tab7 impl_ShowJournal.bits7 (fun HT_ HW_ => ?_)
              generalize w38.drew = w39 at BK215 BK226 HB hHeld ⊢
              refine pure_ (i := 0) (N := some 49) (v := ?_) (a' := ?_) #[true, false, false, false, false, false, false, false, false, false] rfl rfl (any_of HT_.out (by kernel_rfl)) (fun _ _ _ h => h) (Or.inl ⟨by rfl, ?_⟩) ?_ ?_
              rotate_left
              ·
               intro w'
               go_simp
               with_reducible rfl
              rotate_left
              ·
               simp only [Act.put, List.setIfInBounds_toArray, List.set_cons_zero, List.set_cons_succ, i64_w, i32_w]
               rfl
              refine pure_ (i := 1) (N := some 50) (v := ?_) (a' := ?_) #[true, true, false, false, false, false, false, false, false, false] rfl rfl (any_of HT_.out (by kernel_rfl)) (fun _ _ _ h => h) (Or.inl ⟨by rfl, ?_⟩) ?_ ?_
              rotate_left
              ·
               intro w'
               go_simp
               with_reducible rfl
              rotate_left
              ·
               simp only [Act.put, List.setIfInBounds_toArray, List.set_cons_zero, List.set_cons_succ, i64_w, i32_w]
               rfl
              refine pure_ (i := 4) (N := some 53) (v := ?_) (a' := ?_) #[true, true, false, false, true, false, false, false, false, false] rfl rfl (any_of HT_.out (by kernel_rfl)) (fun _ _ _ h => h) (Or.inl ⟨by rfl, ?_⟩) ?_ ?_
              rotate_left
              ·
               intro w'
               go_simp
               with_reducible rfl
              rotate_left
              ·
               simp only [Act.put, List.setIfInBounds_toArray, List.set_cons_zero, List.set_cons_succ, i64_w, i32_w]
               rfl
              refine take_ (i := 2) (N := some 51) (v := ?_) (a' := ?_) #[true, true, true, false, true, false, false, false, false, false] rfl rfl (take_ofW HT_.out HW_.out (by kernel_rfl)) (fun _ _ _ h => h) (Or.inl ⟨by rfl, ?_⟩) hHeld ?_ ?_
              rotate_left
              ·
               rintro w' ⟨s0, s1⟩
               go_simp
               with_reducible rfl
              rotate_left
              ·
               simp only [Act.put, List.setIfInBounds_toArray, List.set_cons_zero, List.set_cons_succ, i64_w, i32_w]
               rfl
              refine take_ (i := 5) (N := some 54) (v := ?_) (a' := ?_) #[true, true, true, false, true, true, false, false, false, false] rfl rfl (take_ofW HT_.out HW_.out (by kernel_rfl)) (fun _ _ _ h => h) (Or.inl ⟨by rfl, ?_⟩) hHeld ?_ ?_
              rotate_left
              ·
               rintro w' ⟨s0, s1⟩
               go_simp
               with_reducible rfl
              rotate_left
              ·
               simp only [Act.put, List.setIfInBounds_toArray, List.set_cons_zero, List.set_cons_succ, i64_w, i32_w]
               rfl
              refine one_ (i := 3) (N := some 52) #[true, true, true, true, true, true, false, false, false, false] rfl rfl (one_of HT_.out (by kernel_rfl)) (by decide) (fun K hK => ?_)
              refine goes_ Try.func123 (by kernel_rfl) rfl #[.int .i64 ((rd_T165 l0_7 x45_1).f0)] (by rfl) rfl rfl (by (try simp only [List.map_toArray, List.map_cons, List.map_nil]); first | done | rfl | (simp only [List.length_drop, List.length_take]; rfl)) ?_
              with_reducible refine (impl_Var.calls k1 ((rd_T165 l0_7 x45_1).f0) t227 _ A31.out).mono ?_
              rintro e w40 ⟨rfl, hb⟩
              refine ⟨_, rfl, ?_⟩
              have n0_ := Aside0.mk (blk_below (g := gb215) (o := .cells #[.int .i64 a0_0, .bool a0_1, .int .i64 a0_2, .int .i64 a0_3, .int .i64 a0_4, .int .i64 a0_5, .string a0_6, .slice (some ad225) l0_7.length c0_7] 79 (0, 0)) (by (with_reducible repeat (first | refine blk_drewN ?_ _ | refine blk_drew ?_ | refine blk_alloc ?_ _)); exact BK215.out) hb)
              have n1_ := Aside0.mk (blk_below (g := gb226) (o := .cells #[.int .i64 ((rd_T165 l0_7 x45_1).f0), .string ((rd_T165 l0_7 x45_1).f1)] 165 (0, 0)) (by (with_reducible repeat (first | refine blk_drewN ?_ _ | refine blk_drew ?_ | refine blk_alloc ?_ _)); exact BK226.out) hb)
              have n2_ := Aside0.mk (below_step (by repeat (first | (with_reducible first | exact HB.out | apply below_alloc | apply pw_below_drewN | apply below_drew1 | refine below_set ?_ GE215.out | refine below_set ?_ GE226.out) | exact HB.out)) hb)
              clear BK215
              clear BK226
              clear HB
              have BK215 := n0_
              have BK226 := n1_
              have HB := n2_
              clear n0_ n1_ n2_
              (try clear hb)
              (try clear hb2)
              (try clear hk)
              (try clear hi)
              refine hK.out _ _ ⟨(blk_cell BK226.out 0).trans rfl, (blk_cell BK226.out 1).trans rfl⟩ (fun hHeld => ?_)
              clear hK K
              refine norm_ (a' := ?_) ?_ ?_
              rotate_left
              ·
               show Act.put _ (some 52) _ = _
               simp only [Act.put, List.setIfInBounds_toArray, List.set_cons_zero, List.set_cons_succ, i64_w, i32_w]
               rfl
              refine one_ (i := 6) (N := some 55) #[true, true, true, true, true, true, true, false, false, false] rfl rfl (one_of HT_.out (by kernel_rfl)) (by decide) (fun K hK => ?_)
              refine goes_ Try.func126 (by kernel_rfl) rfl #[.string ((rd_T165 l0_7 x45_1).f1)] (by rfl) rfl rfl (by (try simp only [List.map_toArray, List.map_cons, List.map_nil]); first | done | rfl | (simp only [List.length_drop, List.length_take]; rfl)) ?_
              with_reducible refine (impl_pieceText.calls k1 ((rd_T165 l0_7 x45_1).f1) t228 _ A32.out).mono ?_
              rintro e w41 ⟨rfl, hb⟩
              refine ⟨_, rfl, ?_⟩
              have n0_ := Aside0.mk (blk_below (g := gb215) (o := .cells #[.int .i64 a0_0, .bool a0_1, .int .i64 a0_2, .int .i64 a0_3, .int .i64 a0_4, .int .i64 a0_5, .string a0_6, .slice (some ad225) l0_7.length c0_7] 79 (0, 0)) (by (with_reducible repeat (first | refine blk_drewN ?_ _ | refine blk_drew ?_ | refine blk_alloc ?_ _)); exact BK215.out) hb)
              have n1_ := Aside0.mk (blk_below (g := gb226) (o := .cells #[.int .i64 ((rd_T165 l0_7 x45_1).f0), .string ((rd_T165 l0_7 x45_1).f1)] 165 (0, 0)) (by (with_reducible repeat (first | refine blk_drewN ?_ _ | refine blk_drew ?_ | refine blk_alloc ?_ _)); exact BK226.out) hb)
              have n2_ := Aside0.mk (below_step (by repeat (first | (with_reducible first | exact HB.out | apply below_alloc | apply pw_below_drewN | apply below_drew1 | refine below_set ?_ GE215.out | refine below_set ?_ GE226.out) | exact HB.out)) hb)
              clear BK215
              clear BK226
              clear HB
              have BK215 := n0_
              have BK226 := n1_
              have HB := n2_
              clear n0_ n1_ n2_
              (try clear hb)
              (try clear hb2)
              (try clear hk)
              (try clear hi)
              refine hK.out _ _ ⟨(blk_cell BK226.out 0).trans rfl, (blk_cell BK226.out 1).trans rfl⟩ (fun hHeld => ?_)
              clear hK K
              refine norm_ (a' := ?_) ?_ ?_
              rotate_left
              ·
               show Act.put _ (some 55) _ = _
               simp only [Act.put, List.setIfInBounds_toArray, List.set_cons_zero, List.set_cons_succ, i64_w, i32_w]
               rfl
              refine pure_ (i := 7) (N := some 56) (v := ?_) (a' := ?_) #[true, true, true, true, true, true, true, true, false, false] rfl rfl (any_of HT_.out (by kernel_rfl)) (fun _ _ _ h => h) (Or.inl ⟨by rfl, ?_⟩) ?_ ?_
              rotate_left
              ·
               intro w'
               go_simp
               with_reducible rfl
              rotate_left
              ·
               simp only [Act.put, List.setIfInBounds_toArray, List.set_cons_zero, List.set_cons_succ, i64_w, i32_w]
               rfl
              refine pure_ (i := 8) (N := some 57) (v := ?_) (a' := ?_) #[true, true, true, true, true, true, true, true, true, false] rfl rfl (any_of HT_.out (by kernel_rfl)) (fun _ _ _ h => h) (Or.inl ⟨by rfl, ?_⟩) ?_ ?_
              rotate_left
              ·
               intro w'
               go_simp
               with_reducible rfl
              rotate_left
              ·
               simp only [Act.put, List.setIfInBounds_toArray, List.set_cons_zero, List.set_cons_succ, i64_w, i32_w]
               rfl
              refine pure_ (i := 9) (N := some 3) (v := ?_) (a' := ?_) #[true, true, true, true, true, true, true, true, true, true] rfl rfl (any_of HT_.out (by kernel_rfl)) (fun _ _ _ h => h) (Or.inl ⟨by rfl, ?_⟩) ?_ ?_
              rotate_left
              ·
               intro w'
               go_simp
               with_reducible rfl
              rotate_left
              ·
               simp only [Act.put, List.setIfInBounds_toArray, List.set_cons_zero, List.set_cons_succ, i64_w, i32_w]
               rfl
              refine done_ (done_of HT_.out (by kernel_rfl)) ?_
              try go_wp2
              go_roundg k1
              case measure => have := HK1.out; omega
              case rel => exact ⟨(x3_1 ++ (t227 ++ t228)), (wrap64 (x45_1 + 1)), (by first | rfl | (simp; done) | (simp [*]; done)), (by first | rfl | (simp; done) | (simp [*]; done)), H', ⟨by have := HK1.out; omega⟩, ⟨by (with_reducible repeat (first | refine blk_drewN ?_ _ | refine blk_drew ?_ | refine blk_alloc ?_ _)); exact BK215.out⟩, ⟨by repeat (first | (with_reducible first | exact HB.out | apply below_alloc | apply pw_below_drewN | apply below_drew1 | refine below_set ?_ GE215.out | refine below_set ?_ GE226.out) | exact HB.out)⟩⟩
             ·
              rw [if_neg c34] at H
              exact absurd H (by simp)
            ·
             rw [if_neg c33] at H
             exact absurd H (by simp)
           ·
            rw [if_neg c30] at H
            exact absurd H (by simp)
          ·
           rw [if_neg c29] at H
           exact absurd H (by simp)
         ·
          rw [if_neg c28] at H
          have c28b0 : decide (x45_1 < (l0_7.length : Int)) = false := decide_eq_false c28
          clear c28
          replace H := Option.bind_eq_some_iff.mp H
          obtain ⟨t229, A420, H⟩ := H
          replace H : (some t229) = some r := H
          have A42 := Aside0.mk A420
          clear A420
          obtain rfl := Option.some.inj H
          go_wp2_with (first | ((with_reducible refine gate_callee (f := 127) rfl ?_); refine goesL_ (some 60) rfl rfl Try.func127 (by kernel_rfl) rfl #[.string x3_1] rfl (by (try simp only [List.map_toArray, List.map_cons, List.map_nil]); first | done | rfl | (simp only [List.length_drop, List.length_take]; rfl)) ?_; (with_reducible refine (impl_packed.calls k1 x3_1 t229 _ A42.out).mono ?_); rintro e w43 ⟨rfl, hb⟩; refine ⟨_, rfl, ?_⟩; have n0_ := Aside0.mk (blk_below (g := gb215) (o := .cells #[.int .i64 a0_0, .bool a0_1, .int .i64 a0_2, .int .i64 a0_3, .int .i64 a0_4, .int .i64 a0_5, .string a0_6, .slice A0_7 l0_7.length c0_7] 79 (0, 0)) (by (with_reducible repeat (first | refine blk_drewN ?_ _ | refine blk_drew ?_ | refine blk_alloc ?_ _)); exact BK215.out) hb); have n1_ := Aside0.mk (below_step (by repeat (first | (with_reducible first | exact HB.out | apply below_alloc | apply pw_below_drewN | apply below_drew1 | refine below_set ?_ GE215.out) | exact HB.out)) hb); clear BK215; clear HB; have BK215 := n0_; have HB := n1_; clear n0_ n1_; (try clear hb); (try clear hb2); (try clear hk); (try clear hi)))
          go_ret
          exact ⟨by first | rfl | (simp [errW_none, errW_some] <;> rfl) | (simp [*, errW_none, errW_some] <;> rfl), by repeat (first | (with_reducible first | exact HB.out | apply below_alloc | apply pw_below_drewN | apply below_drew1 | refine below_set ?_ GE215.out) | exact HB.out)⟩
      ·
       rw [if_neg c13] at H
       exact absurd H (by simp)
     ·
      rw [if_neg c11] at H
      exact absurd H (by simp)
    ·
     rw [if_neg c9] at H
     exact absurd H (by simp)
   ·
    rw [if_neg c7] at H
    exact absurd H (by simp)
  ·
   rw [if_neg c5] at H
   exact absurd H (by simp)
 ·
  replace c3 := Bool.eq_false_iff.mpr c3
  subst c3
  have H1 : (some (⟨#[]⟩ : ByteArray)) = some r := by rw [if_neg (show ¬ (false = true) by decide)] at H; exact H
  clear H
  have H := H1
  clear H1
  obtain rfl := Option.some.inj H
  go_enter Try.func44, Try.ntmps44
  go_wp2_with (first | ((with_reducible refine gate_dst (N := 1) rfl ?_); refine box_event ?hg (N := 1) ?hd (cs := #[.int .i64 a0_0, .bool a0_1, .int .i64 a0_2, .int .i64 a0_3, .int .i64 a0_4, .int .i64 a0_5, .string a0_6, .slice A0_7 l0_7.length c0_7]) (t := 79) ?hr ?_; (case hd => rfl); (case hg => rfl); (case hr => first | (go_simp; done) | (go_simp; rfl)); intro gb215 hg w44 hbox hb; have n0_ := Aside0.mk (below_step (by repeat (first | (with_reducible first | exact HB.out | apply below_alloc | apply pw_below_drewN | apply below_drew1) | exact HB.out)) hb); have n1_ := Aside0.mk (hbox); have n2_ := Aside0.mk ((by rw [hg]; exact (below_size (by repeat (first | (with_reducible first | exact HB.out | apply below_alloc | apply pw_below_drewN | apply below_drew1) | exact HB.out))) : w.heap.size ≤ gb215)); have n3_ := Aside0.mk ((by rw [hg]; exact (below_size (by repeat (first | (with_reducible first | exact HB.out | apply below_alloc | apply pw_below_drewN | apply below_drew1) | exact HB.out))) : w.heap.size ≤ gb215)); clear HB; have HB := n0_; have BK215 := n1_; have GW215 := n2_; have GE215 := n3_; clear n0_ n1_ n2_ n3_; clear hb hbox hg; have hcz45_0 : w44.cell? ⟨gb215, 0, none⟩ = some (.int .i64 a0_0) := (blk_cell BK215.out 0).trans rfl; have hcz45_1 : w44.cell? ⟨gb215, 1, none⟩ = some (.bool a0_1) := (blk_cell BK215.out 1).trans rfl; have hcz45_2 : w44.cell? ⟨gb215, 2, none⟩ = some (.int .i64 a0_2) := (blk_cell BK215.out 2).trans rfl; have hcz45_3 : w44.cell? ⟨gb215, 3, none⟩ = some (.int .i64 a0_3) := (blk_cell BK215.out 3).trans rfl; have hcz45_4 : w44.cell? ⟨gb215, 4, none⟩ = some (.int .i64 a0_4) := (blk_cell BK215.out 4).trans rfl; have hcz45_5 : w44.cell? ⟨gb215, 5, none⟩ = some (.int .i64 a0_5) := (blk_cell BK215.out 5).trans rfl; have hcz45_6 : w44.cell? ⟨gb215, 6, none⟩ = some (.string a0_6) := (blk_cell BK215.out 6).trans rfl; have hcz45_7 : w44.cell? ⟨gb215, 7, none⟩ = some (.slice A0_7 l0_7.length c0_7) := (blk_cell BK215.out 7).trans rfl; have hfz45_0 := blk_frozen BK215.out 0; have hfz45_1 := blk_frozen BK215.out 1; have hfz45_2 := blk_frozen BK215.out 2; have hfz45_3 := blk_frozen BK215.out 3; have hfz45_4 := blk_frozen BK215.out 4; have hfz45_5 := blk_frozen BK215.out 5; have hfz45_6 := blk_frozen BK215.out 6; have hfz45_7 := blk_frozen BK215.out 7) | ((with_reducible refine gate_callee (f := 122) rfl ?_); refine goesL_ (some 7) rfl rfl Try.func122 (by kernel_rfl) rfl #[.agg #[.int .i64 a0_0, .bool a0_1, .int .i64 a0_2, .int .i64 a0_3, .int .i64 a0_4, .int .i64 a0_5, .string a0_6, .slice A0_7 l0_7.length c0_7]] rfl (by (try simp only [List.map_toArray, List.map_cons, List.map_nil]); first | done | rfl | (simp only [List.length_drop, List.length_take]; rfl)) ?_; (with_reducible refine (impl_isJournal.calls k a0_0 a0_1 a0_2 a0_3 a0_4 a0_5 a0_6 _ _ l0_7 false _ ?side1 ?side2 A2.out).mono ?_); (case side1 => repeat (first | exact (Kd.C_below HR0_7.out HB.out) | (with_reducible refine Kd.C_alloc ?_ _) | (with_reducible refine Kd.C_drewN ?_ _) | (with_reducible refine Kd.C_drew ?_))); (case side2 => exact HC0_7.out); rintro e w46 ⟨rfl, hb⟩; refine ⟨_, rfl, ?_⟩; have n0_ := Aside0.mk (blk_below (g := gb215) (o := .cells #[.int .i64 a0_0, .bool a0_1, .int .i64 a0_2, .int .i64 a0_3, .int .i64 a0_4, .int .i64 a0_5, .string a0_6, .slice A0_7 l0_7.length c0_7] 79 (0, 0)) (by (with_reducible repeat (first | refine blk_drewN ?_ _ | refine blk_drew ?_ | refine blk_alloc ?_ _)); exact BK215.out) hb); have n1_ := Aside0.mk (below_step (by repeat (first | (with_reducible first | exact HB.out | apply below_alloc | apply pw_below_drewN | apply below_drew1 | refine below_set ?_ GE215.out) | exact HB.out)) hb); clear BK215; clear HB; have BK215 := n0_; have HB := n1_; clear n0_ n1_; (try clear hb); (try clear hb2); (try clear hk); (try clear hi)))
  go_ret
  exact ⟨by first | rfl | (simp [errW_none, errW_some] <;> rfl) | (simp [*, errW_none, errW_some] <;> rfl), by repeat (first | (with_reducible first | exact HB.out | apply below_alloc | apply pw_below_drewN | apply below_drew1 | refine below_set ?_ GE215.out) | exact HB.out)⟩

end Go.Proofs.Ytadmodbdkmmplaa.QFnExactShowJournal
