-- written by the workplace's driver round the kit's printer (wip/tools/myprint.py)
import Derived.Test.YtbdmpeekhlmebaaProg
import Derived.Below
import Derived.Deep.Draws
import Derived.Deep.AppendLies
import Derived.Maps.AppendAt
import Derived.OwnWalk
import Derived.Laws.BytesArg
import Derived.Laws.MakeOwn
import Derived.Laws.OwnMore
import Derived.Deep.OwnRows
import Derived.Tactics
import Derived.Lib.ConvBytes
import Derived.Laws.Slices
import Derived.WalkKit
import Derived.KernelRfl
import Derived.RowKit3
import Derived.Deep.LoopGhost
import Derived.Deep.QuietTactic
import Derived.BigQuiet
import Derived.WideLaws
import Derived.Deep.DeepCutAuto
import Derived.Deep.CutBlock
import Derived.Deep.RegionHeld3
import Derived.Laws.Rows
import Derived.Lib.AppendStr
import Derived.ArgAppend
import Derived.Laws.IdiomCopy
import Derived.OrdersHeld
import Derived.Laws.BitsLemmas
import Derived.RowKit
import Derived.Test.YtbdmpeekhlmebaaWWords
import Derived.Test.YtbdmpeekhlmebaaWLast
import Derived.Test.YtbdmpeekhlmebaaWTab
import Derived.Test.YtbdmpeekhlmebaaWFour
import Derived.Test.YtbdmpeekhlmebaaWQPut
import Derived.Test.YtbdmpeekhlmebaaWApart
import Derived.Test.YtbdmpeekhlmebaaWArr
import Derived.Test.YtbdmpeekhlmebaaWZeros
import Derived.Test.YtbdmpeekhlmebaaWFoot
import Derived.Test.YtbdmpeekhlmebaaWKept
import Derived.Test.YtbdmpeekhlmebaaWShare
import Derived.Test.YtbdmpeekhlmebaaWN
import Derived.Test.YtbdmpeekhlmebaaWFootNe
import Derived.Test.YtbdmpeekhlmebaaWAt
import Derived.Test.YtbdmpeekhlmebaaWEqStruct
import Derived.Test.YtbdmpeekhlmebaaWRepsOne
import Derived.Test.YtbdmpeekhlmebaaWInv
import Derived.Test.YtbdmpeekhlmebaaWInvWords
import Derived.Test.YtbdmpeekhlmebaaWGuard
import Derived.Test.YtbdmpeekhlmebaaWNEv
import Derived.Test.YtbdmpeekhlmebaaWMore
namespace Go.Proofs.Ytbdmpeekhlmebaa.P
open Go.RowKit Go.Proofs.YtbdmpeekhlmebaaW.PrintWords Go.Proofs.YtbdmpeekhlmebaaW.PrintLast Go.Proofs.YtbdmpeekhlmebaaW.PrintMore
attribute [local go_sem] max2_int min2_int max_two min_two max_three min_three max_four min_four   -- for this text's walks alone
set_option linter.unusedVariables false
set_option linter.unusedSimpArgs false



def errW : Option Int → Value
  | none => .nilIface
  | some c => .iface 0 (.int .i64 c)
theorem errW_none : errW none = .nilIface := rfl
theorem errW_some (c : Int) : errW (some c) = .iface 0 (.int .i64 c) := rfl

-- the values' own types
/-! #### struct type 24 -/
structure S24 where
  f0 : Int
  f1 : Int
def z24 : S24 := ⟨(0 : Int), (0 : Int)⟩
def k24 : Kd S24 := Kd.iso (Kd.pair (Kd.int .i64) (Kd.int .u64)) (fun x : S24 => (x.f0, x.f1))
theorem k24_open {w : World} {x : S24} {cs : List Value} (h : k24.K w x cs) : cs = [.int .i64 x.f0, .int .u64 x.f1] := by
  obtain ⟨_, _, rfl, rfl, rfl⟩ := h
  exact rfl
theorem k24_openM {w : World} {base : Nat} {ok : Nat → Prop} {x : S24} {cs : List Value} (h : k24.M w base ok x cs) : cs = [.int .i64 x.f0, .int .u64 x.f1] := by
  obtain ⟨_, _, rfl, rfl, rfl⟩ := h
  exact rfl
theorem k24_mk (w : World) (x : S24)  : k24.K w x [.int .i64 x.f0, .int .u64 x.f1] := ⟨[.int .i64 x.f0], [.int .u64 x.f1], rfl, rfl, rfl⟩
theorem k24_mkM (w : World) (base : Nat) (ok : Nat → Prop) (x : S24)  : k24.M w base ok x [.int .i64 x.f0, .int .u64 x.f1] := ⟨[.int .i64 x.f0], [.int .u64 x.f1], rfl, rfl, rfl⟩
def rd_T24 (xs : List S24) (i : Int) : S24 := xs.getD i.toNat z24
theorem at_T24 {w : World} {A : Option Addr} {n : Nat} {xs : List S24} (h : Kd.C k24 w A n xs) (i : Int) (h0 : 0 ≤ i) (h1 : i < n) : ∃ ad , A = some ad ∧ w.cell? (ad.add (i.toNat * 2)) = some (.int .i64 (rd_T24 xs i).f0) ∧ w.cell? ⟨(ad.add (i.toNat * 2)).block, (ad.add (i.toNat * 2)).off + 1, none⟩ = some (.int .u64 (rd_T24 xs i).f1) := by
  obtain ⟨ad, c, e, _, hK, hc0⟩ := Kd.C_get h z24 i h0 h1
  have hc : ∀ j u, c[j]? = some u → w.cell? (ad.add (i.toNat * 2 + j)) = some u := hc0
  obtain rfl := k24_open hK
  exact ⟨ad, e, hc 0 _ rfl, by rw [← add_field _ _ 1 (by omega)]; exact hc 1 _ rfl⟩

def rd_L6 (xs : List (List Int)) (i : Int) : (List Int) := xs.getD i.toNat ([] : List Int)
theorem at_L6 {w : World} {A : Option Addr} {n : Nat} {xs : List (List Int)} (h : Kd.C (Kd.slice 5 (Kd.int .u8)) w A n xs) (i : Int) (h0 : 0 ≤ i) (h1 : i < n) : ∃ ad A0 c0, A = some ad ∧ w.cell? (ad.add i.toNat) = some (.slice A0 (rd_L6 xs i).length c0) ∧ (rd_L6 xs i).length ≤ c0 ∧ (Kd.int .u8).C w A0 (rd_L6 xs i).length (rd_L6 xs i) := by
  obtain ⟨ad, c, e, _, hK, hc0⟩ := Kd.C_get h ([] : List Int) i h0 h1
  have hc : ∀ j u, c[j]? = some u → w.cell? (ad.add (i.toNat * 1 + j)) = some u := hc0
  obtain ⟨A0, c0, rfl, l0, g0⟩ := hK
  exact ⟨ad, A0, c0, e, by have hq := hc 0 _ rfl; rwa [Nat.mul_one, Nat.add_zero] at hq, l0, g0⟩

/-! #### struct type 35 -/
structure S35 where
  f0 : ByteArray
  f1 : ByteArray
  f2 : Int
  f3 : Int
  f4 : Bool
  f5 : (List Int)
  f6 : S24
  f7 : Bool
  f8 : Int
def z35 : S35 := ⟨(⟨#[]⟩ : ByteArray), (⟨#[]⟩ : ByteArray), (0 : Int), (0 : Int), false, ([] : List Int), z24, false, (0 : Int)⟩
def k35 : Kd S35 := Kd.iso (Kd.pair Kd.string (Kd.pair Kd.string (Kd.pair (Kd.int .u64) (Kd.pair (Kd.int .u64) (Kd.pair Kd.bool (Kd.pair (Kd.slice 5 (Kd.int .u8)) (Kd.pair k24 (Kd.pair Kd.bool (Kd.int .u64))))))))) (fun x : S35 => (x.f0, x.f1, x.f2, x.f3, x.f4, x.f5, x.f6, x.f7, x.f8))
theorem k35_open {w : World} {x : S35} {cs : List Value} (h : k35.K w x cs) : ∃ A5 c5, cs = [.string x.f0, .string x.f1, .int .u64 x.f2, .int .u64 x.f3, .bool x.f4, .slice A5 x.f5.length c5, .int .i64 x.f6.f0, .int .u64 x.f6.f1, .bool x.f7, .int .u64 x.f8] ∧ x.f5.length ≤ c5 ∧ (Kd.int .u8).C w A5 x.f5.length x.f5 := by
  obtain ⟨_, _, rfl, rfl, ⟨_, _, rfl, rfl, ⟨_, _, rfl, rfl, ⟨_, _, rfl, rfl, ⟨_, _, rfl, rfl, ⟨_, _, rfl, ⟨A5, c5, rfl, l5, g5⟩, ⟨_, _, rfl, s6, ⟨_, _, rfl, rfl, rfl⟩⟩⟩⟩⟩⟩⟩⟩ := h
  obtain rfl := k24_open s6
  exact ⟨A5, c5, rfl, l5, g5⟩
theorem k35_openM {w : World} {base : Nat} {ok : Nat → Prop} {x : S35} {cs : List Value} (h : k35.M w base ok x cs) : ∃ v5, cs = [.string x.f0, .string x.f1, .int .u64 x.f2, .int .u64 x.f3, .bool x.f4, v5, .int .i64 x.f6.f0, .int .u64 x.f6.f1, .bool x.f7, .int .u64 x.f8] ∧ (Kd.int .u8).R 5 w base ok v5 x.f5 := by
  obtain ⟨_, _, rfl, rfl, ⟨_, _, rfl, rfl, ⟨_, _, rfl, rfl, ⟨_, _, rfl, rfl, ⟨_, _, rfl, rfl, ⟨_, _, rfl, ⟨v5, rfl, g5⟩, ⟨_, _, rfl, s6, ⟨_, _, rfl, rfl, rfl⟩⟩⟩⟩⟩⟩⟩⟩ := h
  obtain rfl := k24_openM s6
  exact ⟨v5, rfl, g5⟩
theorem k35_mk (w : World) (x : S35) {A5 : Option Addr} {c5 : Nat} (l5 : x.f5.length ≤ c5) (g5 : (Kd.int .u8).C w A5 x.f5.length x.f5) : k35.K w x [.string x.f0, .string x.f1, .int .u64 x.f2, .int .u64 x.f3, .bool x.f4, .slice A5 x.f5.length c5, .int .i64 x.f6.f0, .int .u64 x.f6.f1, .bool x.f7, .int .u64 x.f8] := ⟨[.string x.f0], [.string x.f1, .int .u64 x.f2, .int .u64 x.f3, .bool x.f4, .slice A5 x.f5.length c5, .int .i64 x.f6.f0, .int .u64 x.f6.f1, .bool x.f7, .int .u64 x.f8], rfl, rfl, ⟨[.string x.f1], [.int .u64 x.f2, .int .u64 x.f3, .bool x.f4, .slice A5 x.f5.length c5, .int .i64 x.f6.f0, .int .u64 x.f6.f1, .bool x.f7, .int .u64 x.f8], rfl, rfl, ⟨[.int .u64 x.f2], [.int .u64 x.f3, .bool x.f4, .slice A5 x.f5.length c5, .int .i64 x.f6.f0, .int .u64 x.f6.f1, .bool x.f7, .int .u64 x.f8], rfl, rfl, ⟨[.int .u64 x.f3], [.bool x.f4, .slice A5 x.f5.length c5, .int .i64 x.f6.f0, .int .u64 x.f6.f1, .bool x.f7, .int .u64 x.f8], rfl, rfl, ⟨[.bool x.f4], [.slice A5 x.f5.length c5, .int .i64 x.f6.f0, .int .u64 x.f6.f1, .bool x.f7, .int .u64 x.f8], rfl, rfl, ⟨[.slice A5 x.f5.length c5], [.int .i64 x.f6.f0, .int .u64 x.f6.f1, .bool x.f7, .int .u64 x.f8], rfl, ⟨A5, c5, rfl, l5, g5⟩, ⟨[.int .i64 x.f6.f0, .int .u64 x.f6.f1], [.bool x.f7, .int .u64 x.f8], rfl, (k24_mk w x.f6 ), ⟨[.bool x.f7], [.int .u64 x.f8], rfl, rfl, rfl⟩⟩⟩⟩⟩⟩⟩⟩
theorem k35_mkM (w : World) (base : Nat) (ok : Nat → Prop) (x : S35) {v5 : Value} (g5 : (Kd.int .u8).R 5 w base ok v5 x.f5) : k35.M w base ok x [.string x.f0, .string x.f1, .int .u64 x.f2, .int .u64 x.f3, .bool x.f4, v5, .int .i64 x.f6.f0, .int .u64 x.f6.f1, .bool x.f7, .int .u64 x.f8] := ⟨[.string x.f0], [.string x.f1, .int .u64 x.f2, .int .u64 x.f3, .bool x.f4, v5, .int .i64 x.f6.f0, .int .u64 x.f6.f1, .bool x.f7, .int .u64 x.f8], rfl, rfl, ⟨[.string x.f1], [.int .u64 x.f2, .int .u64 x.f3, .bool x.f4, v5, .int .i64 x.f6.f0, .int .u64 x.f6.f1, .bool x.f7, .int .u64 x.f8], rfl, rfl, ⟨[.int .u64 x.f2], [.int .u64 x.f3, .bool x.f4, v5, .int .i64 x.f6.f0, .int .u64 x.f6.f1, .bool x.f7, .int .u64 x.f8], rfl, rfl, ⟨[.int .u64 x.f3], [.bool x.f4, v5, .int .i64 x.f6.f0, .int .u64 x.f6.f1, .bool x.f7, .int .u64 x.f8], rfl, rfl, ⟨[.bool x.f4], [v5, .int .i64 x.f6.f0, .int .u64 x.f6.f1, .bool x.f7, .int .u64 x.f8], rfl, rfl, ⟨[v5], [.int .i64 x.f6.f0, .int .u64 x.f6.f1, .bool x.f7, .int .u64 x.f8], rfl, ⟨v5, rfl, g5⟩, ⟨[.int .i64 x.f6.f0, .int .u64 x.f6.f1], [.bool x.f7, .int .u64 x.f8], rfl, (k24_mkM w base ok x.f6 ), ⟨[.bool x.f7], [.int .u64 x.f8], rfl, rfl, rfl⟩⟩⟩⟩⟩⟩⟩⟩
def rd_T35 (xs : List S35) (i : Int) : S35 := xs.getD i.toNat z35
theorem at_T35 {w : World} {A : Option Addr} {n : Nat} {xs : List S35} (h : Kd.C k35 w A n xs) (i : Int) (h0 : 0 ≤ i) (h1 : i < n) : ∃ ad A5 c5, A = some ad ∧ w.cell? (ad.add (i.toNat * 10)) = some (.string (rd_T35 xs i).f0) ∧ w.cell? ⟨(ad.add (i.toNat * 10)).block, (ad.add (i.toNat * 10)).off + 1, none⟩ = some (.string (rd_T35 xs i).f1) ∧ w.cell? ⟨(ad.add (i.toNat * 10)).block, (ad.add (i.toNat * 10)).off + 2, none⟩ = some (.int .u64 (rd_T35 xs i).f2) ∧ w.cell? ⟨(ad.add (i.toNat * 10)).block, (ad.add (i.toNat * 10)).off + 3, none⟩ = some (.int .u64 (rd_T35 xs i).f3) ∧ w.cell? ⟨(ad.add (i.toNat * 10)).block, (ad.add (i.toNat * 10)).off + 4, none⟩ = some (.bool (rd_T35 xs i).f4) ∧ w.cell? ⟨(ad.add (i.toNat * 10)).block, (ad.add (i.toNat * 10)).off + 5, none⟩ = some (.slice A5 (rd_T35 xs i).f5.length c5) ∧ w.cell? ⟨(ad.add (i.toNat * 10)).block, (ad.add (i.toNat * 10)).off + 6, none⟩ = some (.int .i64 (rd_T35 xs i).f6.f0) ∧ w.cell? ⟨(ad.add (i.toNat * 10)).block, (ad.add (i.toNat * 10)).off + 7, none⟩ = some (.int .u64 (rd_T35 xs i).f6.f1) ∧ w.cell? ⟨(ad.add (i.toNat * 10)).block, (ad.add (i.toNat * 10)).off + 8, none⟩ = some (.bool (rd_T35 xs i).f7) ∧ w.cell? ⟨(ad.add (i.toNat * 10)).block, (ad.add (i.toNat * 10)).off + 9, none⟩ = some (.int .u64 (rd_T35 xs i).f8) ∧ (rd_T35 xs i).f5.length ≤ c5 ∧ (Kd.int .u8).C w A5 (rd_T35 xs i).f5.length (rd_T35 xs i).f5 := by
  obtain ⟨ad, c, e, _, hK, hc0⟩ := Kd.C_get h z35 i h0 h1
  have hc : ∀ j u, c[j]? = some u → w.cell? (ad.add (i.toNat * 10 + j)) = some u := hc0
  obtain ⟨A5, c5, rfl, l5, g5⟩ := k35_open hK
  exact ⟨ad, A5, c5, e, hc 0 _ rfl, by rw [← add_field _ _ 1 (by omega)]; exact hc 1 _ rfl, by rw [← add_field _ _ 2 (by omega)]; exact hc 2 _ rfl, by rw [← add_field _ _ 3 (by omega)]; exact hc 3 _ rfl, by rw [← add_field _ _ 4 (by omega)]; exact hc 4 _ rfl, by rw [← add_field _ _ 5 (by omega)]; exact hc 5 _ rfl, by rw [← add_field _ _ 6 (by omega)]; exact hc 6 _ rfl, by rw [← add_field _ _ 7 (by omega)]; exact hc 7 _ rfl, by rw [← add_field _ _ 8 (by omega)]; exact hc 8 _ rfl, by rw [← add_field _ _ 9 (by omega)]; exact hc 9 _ rfl, l5, g5⟩

/-! #### struct type 40 -/
structure S40 where
  f0 : S24
  f1 : Int
  f2 : Bool
def z40 : S40 := ⟨z24, (0 : Int), false⟩
def k40 : Kd S40 := Kd.iso (Kd.pair k24 (Kd.pair (Kd.int .u64) Kd.bool)) (fun x : S40 => (x.f0, x.f1, x.f2))
theorem k40_open {w : World} {x : S40} {cs : List Value} (h : k40.K w x cs) : cs = [.int .i64 x.f0.f0, .int .u64 x.f0.f1, .int .u64 x.f1, .bool x.f2] := by
  obtain ⟨_, _, rfl, s0, ⟨_, _, rfl, rfl, rfl⟩⟩ := h
  obtain rfl := k24_open s0
  exact rfl
theorem k40_openM {w : World} {base : Nat} {ok : Nat → Prop} {x : S40} {cs : List Value} (h : k40.M w base ok x cs) : cs = [.int .i64 x.f0.f0, .int .u64 x.f0.f1, .int .u64 x.f1, .bool x.f2] := by
  obtain ⟨_, _, rfl, s0, ⟨_, _, rfl, rfl, rfl⟩⟩ := h
  obtain rfl := k24_openM s0
  exact rfl
theorem k40_mk (w : World) (x : S40)  : k40.K w x [.int .i64 x.f0.f0, .int .u64 x.f0.f1, .int .u64 x.f1, .bool x.f2] := ⟨[.int .i64 x.f0.f0, .int .u64 x.f0.f1], [.int .u64 x.f1, .bool x.f2], rfl, (k24_mk w x.f0 ), ⟨[.int .u64 x.f1], [.bool x.f2], rfl, rfl, rfl⟩⟩
theorem k40_mkM (w : World) (base : Nat) (ok : Nat → Prop) (x : S40)  : k40.M w base ok x [.int .i64 x.f0.f0, .int .u64 x.f0.f1, .int .u64 x.f1, .bool x.f2] := ⟨[.int .i64 x.f0.f0, .int .u64 x.f0.f1], [.int .u64 x.f1, .bool x.f2], rfl, (k24_mkM w base ok x.f0 ), ⟨[.int .u64 x.f1], [.bool x.f2], rfl, rfl, rfl⟩⟩
def rd_T40 (xs : List S40) (i : Int) : S40 := xs.getD i.toNat z40
theorem at_T40 {w : World} {A : Option Addr} {n : Nat} {xs : List S40} (h : Kd.C k40 w A n xs) (i : Int) (h0 : 0 ≤ i) (h1 : i < n) : ∃ ad , A = some ad ∧ w.cell? (ad.add (i.toNat * 4)) = some (.int .i64 (rd_T40 xs i).f0.f0) ∧ w.cell? ⟨(ad.add (i.toNat * 4)).block, (ad.add (i.toNat * 4)).off + 1, none⟩ = some (.int .u64 (rd_T40 xs i).f0.f1) ∧ w.cell? ⟨(ad.add (i.toNat * 4)).block, (ad.add (i.toNat * 4)).off + 2, none⟩ = some (.int .u64 (rd_T40 xs i).f1) ∧ w.cell? ⟨(ad.add (i.toNat * 4)).block, (ad.add (i.toNat * 4)).off + 3, none⟩ = some (.bool (rd_T40 xs i).f2) := by
  obtain ⟨ad, c, e, _, hK, hc0⟩ := Kd.C_get h z40 i h0 h1
  have hc : ∀ j u, c[j]? = some u → w.cell? (ad.add (i.toNat * 4 + j)) = some u := hc0
  obtain rfl := k40_open hK
  exact ⟨ad, e, hc 0 _ rfl, by rw [← add_field _ _ 1 (by omega)]; exact hc 1 _ rfl, by rw [← add_field _ _ 2 (by omega)]; exact hc 2 _ rfl, by rw [← add_field _ _ 3 (by omega)]; exact hc 3 _ rfl⟩

def rd_L9 (xs : List (List S40)) (i : Int) : (List S40) := xs.getD i.toNat ([] : List S40)
theorem at_L9 {w : World} {A : Option Addr} {n : Nat} {xs : List (List S40)} (h : Kd.C (Kd.slice 40 k40) w A n xs) (i : Int) (h0 : 0 ≤ i) (h1 : i < n) : ∃ ad A0 c0, A = some ad ∧ w.cell? (ad.add i.toNat) = some (.slice A0 (rd_L9 xs i).length c0) ∧ (rd_L9 xs i).length ≤ c0 ∧ k40.C w A0 (rd_L9 xs i).length (rd_L9 xs i) := by
  obtain ⟨ad, c, e, _, hK, hc0⟩ := Kd.C_get h ([] : List S40) i h0 h1
  have hc : ∀ j u, c[j]? = some u → w.cell? (ad.add (i.toNat * 1 + j)) = some u := hc0
  obtain ⟨A0, c0, rfl, l0, g0⟩ := hK
  exact ⟨ad, A0, c0, e, by have hq := hc 0 _ rfl; rwa [Nat.mul_one, Nat.add_zero] at hq, l0, g0⟩

end Go.Proofs.Ytbdmpeekhlmebaa.P
