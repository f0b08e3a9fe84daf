/- Parts of the proofs of this seat, in one text. -/
import Derived.Test.YtlnpmodhejakiaaProg
import Derived.Below
import Derived.Deep.Draws
import Derived.Deep.AppendLies
import Derived.Maps.AppendAt
import Derived.OwnWalk
import Derived.Laws.BytesArg
import Derived.Laws.MakeOwn
import Derived.Laws.OwnMore
import Derived.Deep.OwnRows
import Derived.Tactics
import Derived.Lib.ConvBytes
import Derived.Laws.Slices
import Derived.WalkKit
import Derived.KernelRfl
import Derived.RowKit3
import Derived.Deep.LoopGhost
import Derived.Deep.QuietTactic
import Derived.BigQuiet
import Derived.WideLaws
import Derived.Deep.DeepCutAuto
import Derived.Deep.CutBlock
import Derived.Deep.RegionHeld3
import Derived.Laws.Rows
import Derived.Lib.AppendStr
import Derived.ArgAppend
import Derived.Laws.IdiomCopy
import Derived.OrdersHeld
import Derived.Laws.BitsLemmas
import Derived.RowKit
import Derived.Test.YtlnpmodhejakiaaYW
import Derived.IntWalk
import Derived.Laws.CopyRow
import Derived.StillTailTactics
import Derived.RegionCalls
import Derived.Lib.LazyBuf
import Derived.Laws.LoneSync
namespace Go.Proofs.Ytlnpmodhejakiaa.PA
open Go.RowKit Go.Proofs.YtlnpmodhejakiaaW.PrintWords Go.Proofs.YtlnpmodhejakiaaW.PrintLast Go.Proofs.YtlnpmodhejakiaaW.PrintMore
attribute [local go_sem] max2_int min2_int max_two min_two max_three min_three max_four min_four   -- for this text's walks alone
set_option linter.unusedVariables false
set_option linter.unusedSimpArgs false
def errW : Option Int → Value
  | none => .nilIface
  | some c => .iface 0 (.int .i64 c)
theorem errW_none : errW none = .nilIface := rfl
theorem errW_some (c : Int) : errW (some c) = .iface 0 (.int .i64 c) := rfl
theorem info5 : (Try.prog.info? 5).map (fun i => (i.zero, i.size, i.bytes)) = some (some (.int .u8 0), 1, 1) := by kernel_rfl
-- the values' own types
structure S69 where
  f0 : Int
  f1 : Int
  f2 : ByteArray
  f3 : Int
  f4 : ByteArray
  f5 : ByteArray
  f6 : Int
  f7 : Int
  f8 : (List Int)
  f9 : (List Int)
def k69 : Kd S69 := Kd.iso (Kd.pair (Kd.int .u64) (Kd.pair (Kd.int .u64) (Kd.pair Kd.string (Kd.pair (Kd.int .i64) (Kd.pair Kd.string (Kd.pair Kd.string (Kd.pair (Kd.int .u64) (Kd.pair (Kd.int .i64) (Kd.pair (Kd.slice 5 (Kd.int .u8)) (Kd.slice 5 (Kd.int .u8))))))))))) (fun x : S69 => (x.f0, x.f1, x.f2, x.f3, x.f4, x.f5, x.f6, x.f7, x.f8, x.f9))
theorem k69_mk (w : World) (x : S69) {A8 : Option Addr} {c8 : Nat} (l8 : x.f8.length ≤ c8) (g8 : (Kd.int .u8).C w A8 x.f8.length x.f8) {A9 : Option Addr} {c9 : Nat} (l9 : x.f9.length ≤ c9) (g9 : (Kd.int .u8).C w A9 x.f9.length x.f9) : k69.K w x [.int .u64 x.f0, .int .u64 x.f1, .string x.f2, .int .i64 x.f3, .string x.f4, .string x.f5, .int .u64 x.f6, .int .i64 x.f7, .slice A8 x.f8.length c8, .slice A9 x.f9.length c9] := ⟨[.int .u64 x.f0], [.int .u64 x.f1, .string x.f2, .int .i64 x.f3, .string x.f4, .string x.f5, .int .u64 x.f6, .int .i64 x.f7, .slice A8 x.f8.length c8, .slice A9 x.f9.length c9], rfl, rfl, ⟨[.int .u64 x.f1], [.string x.f2, .int .i64 x.f3, .string x.f4, .string x.f5, .int .u64 x.f6, .int .i64 x.f7, .slice A8 x.f8.length c8, .slice A9 x.f9.length c9], rfl, rfl, ⟨[.string x.f2], [.int .i64 x.f3, .string x.f4, .string x.f5, .int .u64 x.f6, .int .i64 x.f7, .slice A8 x.f8.length c8, .slice A9 x.f9.length c9], rfl, rfl, ⟨[.int .i64 x.f3], [.string x.f4, .string x.f5, .int .u64 x.f6, .int .i64 x.f7, .slice A8 x.f8.length c8, .slice A9 x.f9.length c9], rfl, rfl, ⟨[.string x.f4], [.string x.f5, .int .u64 x.f6, .int .i64 x.f7, .slice A8 x.f8.length c8, .slice A9 x.f9.length c9], rfl, rfl, ⟨[.string x.f5], [.int .u64 x.f6, .int .i64 x.f7, .slice A8 x.f8.length c8, .slice A9 x.f9.length c9], rfl, rfl, ⟨[.int .u64 x.f6], [.int .i64 x.f7, .slice A8 x.f8.length c8, .slice A9 x.f9.length c9], rfl, rfl, ⟨[.int .i64 x.f7], [.slice A8 x.f8.length c8, .slice A9 x.f9.length c9], rfl, rfl, ⟨[.slice A8 x.f8.length c8], [.slice A9 x.f9.length c9], rfl, ⟨A8, c8, rfl, l8, g8⟩, ⟨A9, c9, rfl, l9, g9⟩⟩⟩⟩⟩⟩⟩⟩⟩⟩
structure S89 where
  f0 : ByteArray
  f1 : Int
  f2 : Bool
  f3 : Bool
  f4 : Int
  f5 : Int
  f6 : ByteArray
  f7 : Int
  f8 : Int
def k89 : Kd S89 := Kd.iso (Kd.pair Kd.string (Kd.pair (Kd.int .i64) (Kd.pair Kd.bool (Kd.pair Kd.bool (Kd.pair (Kd.int .i64) (Kd.pair (Kd.int .i64) (Kd.pair Kd.string (Kd.pair (Kd.int .i64) (Kd.int .i64))))))))) (fun x : S89 => (x.f0, x.f1, x.f2, x.f3, x.f4, x.f5, x.f6, x.f7, x.f8))
theorem k89_open {w : World} {x : S89} {cs : List Value} (h : k89.K w x cs) : cs = [.string x.f0, .int .i64 x.f1, .bool x.f2, .bool x.f3, .int .i64 x.f4, .int .i64 x.f5, .string x.f6, .int .i64 x.f7, .int .i64 x.f8] := by
  obtain ⟨_, _, rfl, rfl, ⟨_, _, rfl, rfl, ⟨_, _, rfl, rfl, ⟨_, _, rfl, rfl, ⟨_, _, rfl, rfl, ⟨_, _, rfl, rfl, ⟨_, _, rfl, rfl, ⟨_, _, rfl, rfl, rfl⟩⟩⟩⟩⟩⟩⟩⟩ := h
  exact rfl
structure S93 where
  f0 : Int
  f1 : Int
def k93 : Kd S93 := Kd.iso (Kd.pair (Kd.int .i64) (Kd.int .u64)) (fun x : S93 => (x.f0, x.f1))
theorem k93_open {w : World} {x : S93} {cs : List Value} (h : k93.K w x cs) : cs = [.int .i64 x.f0, .int .u64 x.f1] := by
  obtain ⟨_, _, rfl, rfl, rfl⟩ := h
  exact rfl
structure S95 where
  f0 : ByteArray
  f1 : ByteArray
  f2 : Int
  f3 : Int
  f4 : Bool
  f5 : (List Int)
  f6 : S93
  f7 : Bool
  f8 : Int
def k95 : Kd S95 := Kd.iso (Kd.pair Kd.string (Kd.pair Kd.string (Kd.pair (Kd.int .u64) (Kd.pair (Kd.int .u64) (Kd.pair Kd.bool (Kd.pair (Kd.slice 5 (Kd.int .u8)) (Kd.pair k93 (Kd.pair Kd.bool (Kd.int .u64))))))))) (fun x : S95 => (x.f0, x.f1, x.f2, x.f3, x.f4, x.f5, x.f6, x.f7, x.f8))
theorem k95_open {w : World} {x : S95} {cs : List Value} (h : k95.K w x cs) : ∃ A5 c5, cs = [.string x.f0, .string x.f1, .int .u64 x.f2, .int .u64 x.f3, .bool x.f4, .slice A5 x.f5.length c5, .int .i64 x.f6.f0, .int .u64 x.f6.f1, .bool x.f7, .int .u64 x.f8] ∧ x.f5.length ≤ c5 ∧ (Kd.int .u8).C w A5 x.f5.length x.f5 := by
  obtain ⟨_, _, rfl, rfl, ⟨_, _, rfl, rfl, ⟨_, _, rfl, rfl, ⟨_, _, rfl, rfl, ⟨_, _, rfl, rfl, ⟨_, _, rfl, ⟨A5, c5, rfl, l5, g5⟩, ⟨_, _, rfl, s6, ⟨_, _, rfl, rfl, rfl⟩⟩⟩⟩⟩⟩⟩⟩ := h
  obtain rfl := k93_open s6
  exact ⟨A5, c5, rfl, l5, g5⟩
structure S195 where
  f0 : Int
  f1 : (List Int)
def k195 : Kd S195 := Kd.iso (Kd.pair (Kd.int .i64) (Kd.slice 5 (Kd.int .u8))) (fun x : S195 => (x.f0, x.f1))
structure S101 where
  f0 : ByteArray
  f1 : ByteArray
  f2 : Int
  f3 : Int
  f4 : (List S195)
def k101 : Kd S101 := Kd.iso (Kd.pair Kd.string (Kd.pair Kd.string (Kd.pair (Kd.int .u64) (Kd.pair (Kd.int .u64) (Kd.slice 195 k195))))) (fun x : S101 => (x.f0, x.f1, x.f2, x.f3, x.f4))
theorem k101_open {w : World} {x : S101} {cs : List Value} (h : k101.K w x cs) : ∃ A4 c4, cs = [.string x.f0, .string x.f1, .int .u64 x.f2, .int .u64 x.f3, .slice A4 x.f4.length c4] ∧ x.f4.length ≤ c4 ∧ k195.C w A4 x.f4.length x.f4 := by
  obtain ⟨_, _, rfl, rfl, ⟨_, _, rfl, rfl, ⟨_, _, rfl, rfl, ⟨_, _, rfl, rfl, ⟨A4, c4, rfl, l4, g4⟩⟩⟩⟩⟩ := h
  exact ⟨A4, c4, rfl, l4, g4⟩
end Go.Proofs.Ytlnpmodhejakiaa.PA
namespace Go.Proofs.Ytlnpmodhejakiaa.Sha
abbrev W := BitVec 32
structure V8 where
  (a b c d e f g h : W)
def V8.add (x y : V8) : V8 := ⟨x.a + y.a, x.b + y.b, x.c + y.c, x.d + y.d, x.e + y.e, x.f + y.f, x.g + y.g, x.h + y.h⟩
def V8.l (x : V8) : List W := [x.a, x.b, x.c, x.d, x.e, x.f, x.g, x.h]
def wd (b : List Int) (i : Nat) : W := BitVec.ofInt 32 (b.getD (4 * i) 0 * 16777216 + b.getD (4 * i + 1) 0 * 65536 + b.getD (4 * i + 2) 0 * 256 + b.getD (4 * i + 3) 0)
def ch (e f g : W) : W := g ^^^ (e &&& (f ^^^ g))
def maj (a b c : W) : W := (a &&& b) ||| (c &&& (a ||| b))
def f1 (i : Nat) (v : V8) : W := if i / 20 = 0 then ch v.b v.c v.d else if i / 20 = 2 then maj v.b v.c v.d else v.b ^^^ v.c ^^^ v.d
def k1 (i : Nat) : W := [0x5a827999, 0x6ed9eba1, 0x8f1bbcdc, 0xca62c1d6].getD (i / 20) 0
def add5 (x y : V8) : V8 := ⟨x.a + y.a, x.b + y.b, x.c + y.c, x.d + y.d, x.e + y.e, x.f, x.g, x.h⟩
structure HS where
  h : V8
  block : List Int
  n : Nat
def addB (comp : V8 → List Int → V8) (s : HS) (x : Int) : HS :=
  let bl := s.block.set (s.n % 64) x
  ⟨if (s.n + 1) % 64 = 0 then comp s.h bl else s.h, bl, s.n + 1⟩
def add (comp : V8 → List Int → V8) (s : HS) (l : List Int) : HS := l.foldl (addB comp) s
open Go
section
variable (comp : V8 → List Int → V8)
end
end Go.Proofs.Ytlnpmodhejakiaa.Sha
namespace Go.Proofs.Ytlnpmodhejakiaa.D
open Go.RowKit Go.Proofs.YtlnpmodhejakiaaW.PrintWords Go.Proofs.YtlnpmodhejakiaaW.PrintLast Go.Proofs.YtlnpmodhejakiaaW.PrintMore Go.Proofs.Ytlnpmodhejakiaa.Sha
set_option linter.unusedVariables false
set_option linter.unusedSimpArgs false
end Go.Proofs.Ytlnpmodhejakiaa.D
namespace Go.Proofs.Ytlnpmodhejakiaa.D
open Go.RowKit Go.Proofs.YtlnpmodhejakiaaW.PrintWords Go.Proofs.YtlnpmodhejakiaaW.PrintLast Go.Proofs.YtlnpmodhejakiaaW.PrintMore Go.Proofs.Ytlnpmodhejakiaa.Sha
set_option linter.unusedVariables false
set_option linter.unusedSimpArgs false
structure Wr (B g : Nat) (w w' : World) : Prop where
  os : w'.os = w.os
  tape : w'.tape = w.tape
  output : w'.output = w.output
  size : w.heap.size ≤ w'.heap.size
  block : ∀ k, k < B → k ≠ g → w'.heap[k]? = w.heap[k]?
theorem Wr.refl (B g : Nat) (w : World) : Wr B g w w := ⟨rfl, rfl, rfl, Nat.le_refl _, fun _ _ _ => rfl⟩
theorem Wr.of_below {B : Nat} {w w' : World} (h : Below B w w') (g : Nat) : Wr B g w w' := ⟨h.os, h.tape, h.output, h.size, fun k hk _ => h.block k hk⟩
theorem Wr.trans {B B' g : Nat} {w w1 w2 : World} (h : Wr B g w w1) (k : Wr B' g w1 w2) (hB : B ≤ B') : Wr B g w w2 :=
  ⟨k.os.trans h.os, k.tape.trans h.tape, k.output.trans h.output, Nat.le_trans h.size k.size, fun i hi hg => (k.block i (Nat.lt_of_lt_of_le hi hB) hg).trans (h.block i hi hg)⟩
theorem Wr.below {B g : Nat} {w w' : World} (h : Wr B g w w') (hg : B ≤ g) : Below B w w' := ⟨h.os, h.tape, h.output, h.size, fun k hk => h.block k hk (by omega)⟩
theorem Wr.lower {B B' g : Nat} {w w' : World} (h : Wr B g w w') (hB : B' ≤ B) : Wr B' g w w' := ⟨h.os, h.tape, h.output, h.size, fun k hk => h.block k (by omega)⟩
theorem Wr.setCell {B g : Nat} {w w' : World} (h : Wr B g w w') (i : Nat) (u : Value) : Wr B g w (w'.setCell ⟨g, i, none⟩ u) :=
  ⟨h.os, h.tape, h.output, by simpa [World.setCell] using h.size, fun k hk hne => (Below.heap_setCell w' ⟨g, i, none⟩ u k hne).trans (h.block k hk hne)⟩
theorem Wr.drewN {B g : Nat} {w w' : World} (h : Wr B g w w') (n : Nat) : Wr B g w (w'.drewN n) := ⟨h.os, h.tape, h.output, h.size, h.block⟩
theorem Wr.drew {B g : Nat} {w w' : World} (h : Wr B g w w') : Wr B g w w'.drew := ⟨h.os, h.tape, h.output, h.size, h.block⟩
theorem Wr.blk {B g k : Nat} {w w' : World} {o : Obj} (h : Wr B g w w') (hb : w.heap[k]? = some o) (hk : k < B) (hne : k ≠ g) : w'.heap[k]? = some o := (h.block k hk hne).trans hb
section
variable {P : Program} {ops : Array Oper} {rest : List Oper} {o : Oper} {a : Act} {Q : Exit → Act → World → Prop}
theorem addr_add (g off j : Nat) : (⟨g, off, none⟩ : Addr).add j = ⟨g, off + j, none⟩ := by unfold Addr.add; split <;> simp_all
theorem lit_event {W : World} (hgd : o.guard = none) {N : Tmp} (_hd : o.dst = some N) {cs : Array Value} {t : TypeId} {n : Nat}
    (hrun : (execOp a.eval o).run P W = .ok (.value (.slice (some ⟨W.heap.size, 0, none⟩) n n)) (W.alloc (.cells cs t (0, 0))))
    (h : ∀ g, g = W.heap.size → ∀ w1, w1.heap[g]? = some (.cells cs t (0, 0)) → Below W.heap.size W w1 → wpList P ops Q rest (a.put o.dst (.slice (some ⟨g, 0, none⟩) n n)) w1) : wpList P ops Q (o :: rest) a W :=
  Kd.event_run hgd hrun (h _ rfl _ (blk_new W _) (below_alloc (Below.refl _ _) _))
end
end Go.Proofs.Ytlnpmodhejakiaa.D
namespace Go.Proofs.Ytlnpmodhejakiaa.D
open Go.RowKit Go.Proofs.YtlnpmodhejakiaaW.PrintWords Go.Proofs.YtlnpmodhejakiaaW.PrintLast Go.Proofs.YtlnpmodhejakiaaW.PrintMore
set_option linter.unusedVariables false
set_option linter.unusedSimpArgs false
theorem infoU8c : (Try.prog.info? 5).map (fun i => (i.zero, i.size, i.bytes)) = some (some (.int .u8 0), 1, 1) := by kernel_rfl
def slices_Clone_byte_byte.f (l0 : List Int) : Option (List Int) := if l0.length < 140737488355328 then some l0 else none
set_option maxHeartbeats 8000000 in
set_option maxRecDepth 100000 in
theorem slices_Clone_byte_byte.calls (A0 : Option Addr) (c0 : Nat) (l0 : List Int) (r : List Int) (w : World) (hr0 : Kd.C (Kd.int .u8) w A0 l0.length l0) (hc0 : l0.length ≤ c0) (h : slices_Clone_byte_byte.f l0 = some r) :
    Calls Try.prog 133 #[.slice A0 l0.length c0] w fun e w' => ∃ v0_ : Value, e = .returned v0_ ∧ Kd.R (Kd.int .u8) 5 w' w.heap.size (fun _ => True) v0_ r ∧ Below w.heap.size w w' := by
  unfold slices_Clone_byte_byte.f at h
  by_cases hl : l0.length < 140737488355328
  · rw [if_pos hl] at h
    obtain rfl := Option.some.inj h
    clear h
    have HR0 := Aside0.mk hr0
    have HL := Aside0.mk hl
    have HB := Aside0.mk (Below.refl w.heap.size w)
    cases A0 with
    | none =>
      have h0 : l0 = [] := by
        have hq := hr0.2.2
        rcases Nat.eq_zero_or_pos l0.length with h | h
        · exact List.length_eq_zero_iff.1 h
        · obtain ⟨ad, e, _⟩ := hq h; cases e
      subst h0
      clear hr0 hl hc0
      have hnil : (binOp .eql 22 (.slice none 0 c0) (.slice none 0 0)).run Try.prog w = .ok (.bool true) w := Go.run_eql_slice_nil (P := Try.prog) w 22 5 none 0 c0 Try.underlying22
      show Calls _ _ #[.slice none 0 c0] w _
      go_enter Try.func133, Try.ntmps133
      go_wp2
      go_ret
      exact ⟨_, rfl, Kd.R_nil _ _ _ _ _, Below.refl _ _⟩
    | some ad =>
      clear hr0 hl
      have hnil : (binOp .eql 22 (.slice (some ad) l0.length c0) (.slice none 0 0)).run Try.prog w = .ok (.bool false) w := Go.run_eql_slice_nil (P := Try.prog) w 22 5 (some ad) l0.length c0 Try.underlying22
      go_enter Try.func133, Try.ntmps133
      go_wp2_with (first
        | ((with_reducible refine gate_dst (N := 5) rfl ?_); refine Kd.R_lit (Kd.int .u8) _ 5 ?hg (N := 5) ?hd (xs := ([] : List Int)) (inner := []) (ok := fun _ => True) (okp := fun _ => True) ?hr ?hp (fun _ hk => hk) trivial (Below.refl _ _) (Nat.le_refl _) (by simp) ?_; (case hd => rfl); (case hg => rfl); (case hr => first | (go_simp; done) | (go_simp; rfl)); (case hp => exact (Reps.none _ _)); intro v316 w5 ho6 hb hg_ hnew_; clear hg_ hnew_; have HO := Aside0.mk ho6; have HB1 := Aside0.mk (below_step HB.out hb); clear HB hb ho6)
        | ((with_reducible refine gate_builtin (b := .append) (xs := #[.tmp 5, .tmp 6]) rfl ?_); at_builtin; refine Kd.R_append_rows (Kd.int .u8) (w0 := w) w.heap.size rfl (.tmp 5) (.tmp 6) 22 5 (.int .u8 0) 1 rfl Try.underlying22 infoU8c rfl (by decide) (by omega) v316 [] l0 _ _ _ (fun _ => True) (fun _ => False) rfl rfl ?aO ?aR (fun _ _ h => h) (fun _ h => h.elim) ?aF ?aB ?aS ?aL ?_; (case aR => exact (Kd.C_below HR0.out HB1.out)); (case aB => exact HB1.out); (case aF => exact (fun _ _ => trivial)); (case aO => exact HO.out); (case aS => exact HB1.out.size); (case aL => have := HL.out; simp only [List.length_nil]; omega); intro v319 w7 ho hb hg hat; rw [List.nil_append] at ho; have n1_ := Aside0.mk ho; have n0_ := Aside0.mk hb; clear ho hb hg hat))
      go_ret
      exact ⟨_, rfl, n1_.out, n0_.out⟩
  · rw [if_neg hl] at h
    cases h
set_option maxHeartbeats 4000000 in
theorem atomic_load (g off : Nat) (x : Int) (w : World) (h0 : w.cell? ⟨g, off, none⟩ = some (.int .u32 x)) (f0 : w.frozen? ⟨g, off, none⟩ = false) :
    Calls Try.prog 138 #[.pointer (some ⟨g, off, none⟩)] w fun e w' => e = .returned (.bool (x != 0)) ∧ w' = w := by
  have hld := run_call_load (P := Try.prog) Try.func182 (by kernel_rfl) (by kernel_rfl) (by kernel_rfl) .u32 (by kernel_rfl) h0
  go_enter Try.func138, Try.ntmps138
  go_wp2
  go_ret
  exact ⟨rfl, rfl⟩
set_option maxHeartbeats 4000000 in
theorem atomic_store (g off : Nat) (x : Int) (w : World) (h0 : w.cell? ⟨g, off, none⟩ = some (.int .u32 x)) (f0 : w.frozen? ⟨g, off, none⟩ = false) :
    Calls Try.prog 139 #[.pointer (some ⟨g, off, none⟩), .bool true] w fun e w' => e = .returned (.tuple #[]) ∧ w' = (w.setCell ⟨g, off, none⟩ (.int .u32 1)).drew := by
  have hst := run_call_store (P := Try.prog) Try.func183 (by kernel_rfl) (by kernel_rfl) (by kernel_rfl) (by kernel_rfl) (k := .u32) (y := 1) (w := w.drew) (a := ⟨g, off, none⟩) h0 f0
  go_enter Try.func139, Try.ntmps139
  go_wp2
  go_region_calls
  all_goals (go_end0; exact ⟨rfl, rfl⟩)
end Go.Proofs.Ytlnpmodhejakiaa.D
namespace Go.Proofs.Ytlnpmodhejakiaa.D
open Go.RowKit Go.Proofs.YtlnpmodhejakiaaW.PrintWords Go.Proofs.YtlnpmodhejakiaaW.PrintLast Go.Proofs.YtlnpmodhejakiaaW.PrintMore
set_option linter.unusedVariables false
set_option linter.unusedSimpArgs false
def IsR (g : Nat) (w : World) (l : List Int) (bad : Bool) : Prop := ∃ A c, w.heap[g]? = some (.cells #[.slice A l.length c, .int .u32 (if bad = true then 1 else 0)] 158 (0, 0)) ∧ Kd.C (Kd.int .u8) w A l.length l ∧ l.length ≤ c ∧ (0 < l.length → ∀ ad, A = some ad → ad.block ≠ g)
theorem IsR.below {g : Nat} {w w' : World} {l : List Int} {bad : Bool} (h : IsR g w l bad) (hb : Below w.heap.size w w') : IsR g w' l bad := by
  obtain ⟨A, c, h1, h2, h3, h4⟩ := h
  exact ⟨A, c, blk_below h1 hb, Kd.C_below h2 hb, h3, h4⟩
theorem C_wr' {w w' : World} {A : Option Addr} {l : List Int} {g : Nat} (h : Kd.C (Kd.int .u8) w A l.length l) (hW : Wr w.heap.size g w w') (hg : 0 < l.length → ∀ ad, A = some ad → ad.block ≠ g) : Kd.C (Kd.int .u8) w' A l.length l := by
  refine ⟨h.1, h.2.1, fun h0 => ?_⟩
  obtain ⟨ad, rfl, hc⟩ := h.2.2 h0
  refine ⟨ad, rfl, fun j p hj => ?_⟩
  obtain ⟨c, e1, e2, e3⟩ := hc j p hj
  refine ⟨c, e1, e2, fun i u hu => ?_⟩
  have h1 := e3 i u hu
  have hb : (ad.add (j * (Kd.int .u8).sz + i)).block = ad.block := by unfold Addr.add; split <;> rfl
  have hlt := World.block_lt_of_cell? w _ h1
  exact (World.cell?_of_block (hW.block _ hlt (by rw [hb]; exact hg h0 ad rfl))).trans h1
def numBE (l : List Int) : Int := l.foldl (fun n x => n * 256 + x) 0
theorem numBE_snoc (l : List Int) (x : Int) : numBE (l ++ [x]) = numBE l * 256 + x := by unfold numBE; rw [List.foldl_append]; rfl
theorem numBE_go (l : List Int) : ∀ (a : Int) (m : Nat), 0 ≤ a → a < 256 ^ m → (∀ x ∈ l, 0 ≤ x ∧ x ≤ 255) → 0 ≤ l.foldl (fun n x => n * 256 + x) a ∧ l.foldl (fun n x => n * 256 + x) a < 256 ^ (m + l.length) := by
  induction l with
  | nil => intro a m h0 h1 _; exact ⟨h0, h1⟩
  | cons x t ih =>
    intro a m h0 h1 h
    obtain ⟨h3, h4⟩ := h x (List.mem_cons_self ..)
    have := ih (a * 256 + x) (m + 1) (by omega) (by rw [Int.pow_succ]; omega) (fun y hy => h y (List.mem_cons_of_mem _ hy))
    rw [List.foldl_cons, List.length_cons, show m + (t.length + 1) = m + 1 + t.length by omega]
    exact this
theorem numBE_bd (l : List Int) (h : ∀ x ∈ l, 0 ≤ x ∧ x ≤ 255) : 0 ≤ numBE l ∧ numBE l < 256 ^ l.length := by
  have := numBE_go l 0 0 (by omega) (by decide) h
  rw [Nat.zero_add] at this
  exact this
theorem or_low (a x : Int) (h0 : 0 ≤ a) (h1 : a < 72057594037927936) (hx0 : 0 ≤ x) (hx1 : x ≤ 255) : bits .or .u64 (a * 256) x = a * 256 + x := by
  obtain ⟨n, rfl⟩ := Int.eq_ofNat_of_zero_le h0
  obtain ⟨m, rfl⟩ := Int.eq_ofNat_of_zero_le hx0
  unfold bits
  show IntKind.u64.wrap ((BitVec.ofInt 64 ((n : Int) * 256) ||| BitVec.ofInt 64 (m : Int)).toNat : Int) = _
  rw [BitVec.toNat_or, show ((n : Int) * 256) = ((n * 256 : Nat) : Int) by omega, BitVec.ofInt_natCast, BitVec.ofInt_natCast, BitVec.toNat_ofNat, BitVec.toNat_ofNat, Nat.mod_eq_of_lt (by omega), Nat.mod_eq_of_lt (by omega)]
  have := Nat.shiftLeft_add_eq_or_of_lt (show m < 2 ^ 8 by omega) n
  rw [show n <<< 8 = n * 256 by rw [Nat.shiftLeft_eq]] at this
  rw [← this, IntKind.wrap_u64]
  omega
theorem C_at {w : World} {A : Option Addr} {l : List Int} {n : Nat} (h : Kd.C (Kd.int .u8) w A n l) (i : Nat) (hi : i < l.length) : ∃ ad, A = some ad ∧ w.cell? (ad.add i) = some (.int .u8 (l.getD i 0)) := by
  obtain ⟨ad, rfl, hc⟩ := h.2.2 (by have := h.1; omega)
  refine ⟨ad, rfl, ?_⟩
  obtain ⟨c, e1, e2, e3⟩ := hc i (l.getD i 0) (by rw [List.getD_eq_getElem?_getD, List.getElem?_eq_getElem hi]; rfl)
  have e2' : c = [.int .u8 (l.getD i 0)] := e2
  subst e2'
  have := e3 0 _ rfl
  rw [show i * (Kd.int .u8).sz + 0 = i from by show i * 1 + 0 = i; omega] at this
  exact this
theorem C_far {w : World} {A : Option Addr} {l : List Int} (hr : Kd.C (Kd.int .u8) w A l.length l) (h0 : 0 < l.length) (ad : Addr) (h : A = some ad) {g : Nat} (hg : w.heap.size ≤ g) : ad.block ≠ g := by
  obtain ⟨ad', e, h1⟩ := C_at hr 0 h0
  rw [h] at e
  cases e
  have := World.block_lt_of_cell? w _ h1
  have hb : (ad.add 0).block = ad.block := by unfold Addr.add; split <;> rfl
  omega
set_option maxHeartbeats 4000000 in
set_option maxRecDepth 100000 in
theorem read_any (A0 : Option Addr) (c0 : Nat) (l0 : List Int) (w : World) (hr0 : Kd.C (Kd.int .u8) w A0 l0.length l0) (hc0 : l0.length ≤ c0) (hl : l0.length < 140737488355328) :
    Calls Try.prog 56 #[.slice A0 l0.length c0] w fun e w' => ∃ g : Nat, e = .returned (.pointer (some ⟨g, 0, none⟩)) ∧ w.heap.size ≤ g ∧ IsR g w' l0 false ∧ Below w.heap.size w w' := by
  have HC := Aside0.mk (slices_Clone_byte_byte.calls A0 c0 l0 l0 w hr0 hc0 (by unfold slices_Clone_byte_byte.f; rw [if_pos hl]))
  clear hr0 hc0
  go_enter Try.func56, Try.ntmps56
  go_wp2_with (first
    | (go_at_call 133; (with_reducible refine HC.out.mono ?_); rintro e w1 ⟨v, rfl, ho, hb⟩; obtain ⟨A, c, rfl, hc, hC⟩ := Kd.R_reads ho; have HC1 := Aside0.mk hC; have Hc := Aside0.mk hc; have HB := Aside0.mk hb; clear ho hb hC hc)
    | ((with_reducible refine gate_dst (N := 6) rfl ?_); refine box_event ?hg (N := 6) ?hd (cs := #[.slice A l0.length c, .int .u32 0]) (t := 158) ?hr ?_; (case hd => rfl); (case hg => rfl); (case hr => first | (go_simp; done) | (go_simp; rfl)); intro g hg w2 hbox hBl; have K := Aside0.mk hbox; have HB2 := Aside0.mk (below_step HB.out hBl); have C2 := Aside0.mk (Kd.C_below HC1.out hBl); have G := Aside0.mk (show w.heap.size ≤ g by have := HB.out.size; omega); have NE := Aside0.mk (fun h0 ad h => C_far HC1.out h0 ad h (Nat.le_of_eq hg.symm)); clear hg hbox hBl))
  go_ret
  exact ⟨g, rfl, G.out, ⟨A, c, K.out, C2.out, Hc.out, NE.out⟩, HB2.out⟩
end Go.Proofs.Ytlnpmodhejakiaa.D
