/- Lean functions that answer as the Go functions do, and proofs that the calls come to these answers. Written for this claim by a program of this session, out of the kit's print; conditions: the premises of each theorem. -/
import Derived.Test.YtadmodbdkmmplaaProg
import Derived.Below
import Derived.Deep.Draws
import Derived.Deep.AppendLies
import Derived.Maps.AppendAt
import Derived.OwnWalk
import Derived.Laws.BytesArg
import Derived.Laws.MakeOwn
import Derived.Laws.OwnMore
import Derived.Deep.OwnRows
import Derived.Tactics
import Derived.Lib.ConvBytes
import Derived.Laws.Slices
import Derived.WalkKit
import Derived.KernelRfl
import Derived.RowKit3
import Derived.Deep.LoopGhost
import Derived.Deep.QuietTactic
import Derived.BigQuiet
import Derived.WideLaws
import Derived.Deep.DeepCutAuto
import Derived.Deep.CutBlock
import Derived.Deep.RegionHeld3
import Derived.Laws.Rows
import Derived.Lib.AppendStr
import Derived.ArgAppend
import Derived.Laws.IdiomCopy
import Derived.OrdersHeld
import Derived.Laws.BitsLemmas
import Derived.RowKit
import Derived.Shelf.Abstract
import Derived.Lib.Bytealg
import Derived.Lib.Walk
import Derived.Test.YtadmodbdkmmplaaAny
import Derived.Test.YtadmodbdkmmplaaAnyM
import Derived.Test.YtadmodbdkmmplaaWWords
import Derived.Test.YtadmodbdkmmplaaWLast
import Derived.Test.YtadmodbdkmmplaaWTab
import Derived.Test.YtadmodbdkmmplaaWFour
import Derived.Test.YtadmodbdkmmplaaWQPut
import Derived.Test.YtadmodbdkmmplaaWApart
import Derived.Test.YtadmodbdkmmplaaWArr
import Derived.Test.YtadmodbdkmmplaaWZeros
import Derived.Test.YtadmodbdkmmplaaWFoot
import Derived.Test.YtadmodbdkmmplaaWKept
import Derived.Test.YtadmodbdkmmplaaWShare
import Derived.Test.YtadmodbdkmmplaaWN
import Derived.Test.YtadmodbdkmmplaaWFootNe
import Derived.Test.YtadmodbdkmmplaaWAt
import Derived.Test.YtadmodbdkmmplaaWEqStruct
import Derived.Test.YtadmodbdkmmplaaWRepsOne
import Derived.Test.YtadmodbdkmmplaaWInv
import Derived.Test.YtadmodbdkmmplaaWInvWords
import Derived.Test.YtadmodbdkmmplaaWGuard
import Derived.Test.YtadmodbdkmmplaaWNEv
import Derived.Test.YtadmodbdkmmplaaWMore
namespace Go.Proofs.Ytadmodbdkmmplaa.QFnExactShowJournal
open Go.RowKit Go.Proofs.YtadmodbdkmmplaaW.PrintWords Go.Proofs.YtadmodbdkmmplaaW.PrintLast Go.Proofs.YtadmodbdkmmplaaW.PrintMore
attribute [local go_sem] max2_int min2_int max_two min_two max_three min_three max_four min_four   -- for this text's walks alone
set_option linter.unusedVariables false
set_option linter.unusedSimpArgs false



def errW : Option Int → Value
 | none => .nilIface
 | some c => .iface 0 (.int .i64 c)
theorem errW_none : errW none = .nilIface := rfl
theorem errW_some (c : Int) : errW (some c) = .iface 0 (.int .i64 c) := rfl

theorem info3 : (Try.prog.info? 3).map (fun i => (i.zero, i.size, i.bytes)) = some (some (.int .i64 0), 1, 8) := by kernel_rfl
theorem info5 : (Try.prog.info? 5).map (fun i => (i.zero, i.size, i.bytes)) = some (some (.int .u8 0), 1, 1) := by kernel_rfl
theorem info165 : (Try.prog.info? 165).map (fun i => (i.zero, i.size, i.bytes)) = some (some (.agg #[(.int .i64 0), (.string ⟨#[]⟩)]), 2, 24) := by kernel_rfl
-- the values' own types
/-! #### struct type 221 -/
structure S221 where
 f0 : Int
 f1 : ByteArray
def z221 : S221 := ⟨(0 : Int), (⟨#[]⟩ : ByteArray)⟩
def k221 : Kd S221 := Kd.iso (Kd.pair (Kd.int .i64) Kd.string) (fun x : S221 => (x.f0, x.f1))
theorem k221_open {w : World} {x : S221} {cs : List Value} (h : k221.K w x cs) : cs = [.int .i64 x.f0, .string x.f1] := by
 obtain ⟨_, _, rfl, rfl, rfl⟩ := h
 exact rfl
theorem k221_openM {w : World} {base : Nat} {ok : Nat → Prop} {x : S221} {cs : List Value} (h : k221.M w base ok x cs) : cs = [.int .i64 x.f0, .string x.f1] := by
 obtain ⟨_, _, rfl, rfl, rfl⟩ := h
 exact rfl
theorem k221_mk (w : World) (x : S221)  : k221.K w x [.int .i64 x.f0, .string x.f1] := ⟨[.int .i64 x.f0], [.string x.f1], rfl, rfl, rfl⟩
theorem k221_mkM (w : World) (base : Nat) (ok : Nat → Prop) (x : S221)  : k221.M w base ok x [.int .i64 x.f0, .string x.f1] := ⟨[.int .i64 x.f0], [.string x.f1], rfl, rfl, rfl⟩
def rd_T221 (xs : List S221) (i : Int) : S221 := xs.getD i.toNat z221
theorem at_T221 {w : World} {A : Option Addr} {n : Nat} {xs : List S221} (h : Kd.C k221 w A n xs) (i : Int) (h0 : 0 ≤ i) (h1 : i < n) : ∃ ad , A = some ad ∧ w.cell? (ad.add (i.toNat * 2)) = some (.int .i64 (rd_T221 xs i).f0) ∧ w.cell? ⟨(ad.add (i.toNat * 2)).block, (ad.add (i.toNat * 2)).off + 1, none⟩ = some (.string (rd_T221 xs i).f1) := by
 obtain ⟨ad, c, e, _, hK, hc0⟩ := Kd.C_get h z221 i h0 h1
 have hc : ∀ j u, c[j]? = some u → w.cell? (ad.add (i.toNat * 2 + j)) = some u := hc0
 obtain rfl := k221_open hK
 exact ⟨ad, e, hc 0 _ rfl, by rw [← add_field _ _ 1 (by omega)]; exact hc 1 _ rfl⟩

/-! #### struct type 165 -/
structure S165 where
 f0 : Int
 f1 : ByteArray
def z165 : S165 := ⟨(0 : Int), (⟨#[]⟩ : ByteArray)⟩
def k165 : Kd S165 := Kd.iso (Kd.pair (Kd.int .i64) Kd.string) (fun x : S165 => (x.f0, x.f1))
theorem k165_open {w : World} {x : S165} {cs : List Value} (h : k165.K w x cs) : cs = [.int .i64 x.f0, .string x.f1] := by
 obtain ⟨_, _, rfl, rfl, rfl⟩ := h
 exact rfl
theorem k165_openM {w : World} {base : Nat} {ok : Nat → Prop} {x : S165} {cs : List Value} (h : k165.M w base ok x cs) : cs = [.int .i64 x.f0, .string x.f1] := by
 obtain ⟨_, _, rfl, rfl, rfl⟩ := h
 exact rfl
theorem k165_mk (w : World) (x : S165)  : k165.K w x [.int .i64 x.f0, .string x.f1] := ⟨[.int .i64 x.f0], [.string x.f1], rfl, rfl, rfl⟩
theorem k165_mkM (w : World) (base : Nat) (ok : Nat → Prop) (x : S165)  : k165.M w base ok x [.int .i64 x.f0, .string x.f1] := ⟨[.int .i64 x.f0], [.string x.f1], rfl, rfl, rfl⟩
def rd_T165 (xs : List S165) (i : Int) : S165 := xs.getD i.toNat z165
theorem at_T165 {w : World} {A : Option Addr} {n : Nat} {xs : List S165} (h : Kd.C k165 w A n xs) (i : Int) (h0 : 0 ≤ i) (h1 : i < n) : ∃ ad , A = some ad ∧ w.cell? (ad.add (i.toNat * 2)) = some (.int .i64 (rd_T165 xs i).f0) ∧ w.cell? ⟨(ad.add (i.toNat * 2)).block, (ad.add (i.toNat * 2)).off + 1, none⟩ = some (.string (rd_T165 xs i).f1) := by
 obtain ⟨ad, c, e, _, hK, hc0⟩ := Kd.C_get h z165 i h0 h1
 have hc : ∀ j u, c[j]? = some u → w.cell? (ad.add (i.toNat * 2 + j)) = some u := hc0
 obtain rfl := k165_open hK
 exact ⟨ad, e, hc 0 _ rfl, by rw [← add_field _ _ 1 (by omega)]; exact hc 1 _ rfl⟩

end Go.Proofs.Ytadmodbdkmmplaa.QFnExactShowJournal
