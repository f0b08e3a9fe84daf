/- Parts of the proofs of this seat, in one text. -/
import Derived.Test.YtlnpmodhejakiaaYMb
import Derived.Test.YtlnpmodhejakiaaYPCx1
import Derived.Test.YtlnpmodhejakiaaYMa
import Derived.Laws.CopyOwn
import Derived.Deep.LoopGhost
import Derived.Test.YtlnpmodhejakiaaProg
import Derived.Below
import Derived.Deep.Draws
import Derived.Deep.AppendLies
import Derived.Maps.AppendAt
import Derived.OwnWalk
import Derived.Laws.BytesArg
import Derived.Laws.MakeOwn
import Derived.Laws.OwnMore
import Derived.Deep.OwnRows
import Derived.Tactics
import Derived.Lib.ConvBytes
import Derived.Laws.Slices
import Derived.WalkKit
import Derived.KernelRfl
import Derived.RowKit3
import Derived.Deep.QuietTactic
import Derived.BigQuiet
import Derived.WideLaws
import Derived.Deep.DeepCutAuto
import Derived.Deep.CutBlock
import Derived.Deep.RegionHeld3
import Derived.Laws.Rows
import Derived.Lib.AppendStr
import Derived.ArgAppend
import Derived.Laws.IdiomCopy
import Derived.OrdersHeld
import Derived.Laws.BitsLemmas
import Derived.RowKit
import Derived.Test.YtlnpmodhejakiaaYW
import Derived.Laws.BitsAllLaws
namespace Go.Proofs.Ytlnpmodhejakiaa.D
end Go.Proofs.Ytlnpmodhejakiaa.D
namespace Go.Proofs.Ytlnpmodhejakiaa.PC
end Go.Proofs.Ytlnpmodhejakiaa.PC
namespace Go.Proofs.Ytlnpmodhejakiaa.AV
end Go.Proofs.Ytlnpmodhejakiaa.AV
namespace Go.Proofs.Ytlnpmodhejakiaa.PV
open Go.Proofs.Ytlnpmodhejakiaa.D Go.Proofs.Ytlnpmodhejakiaa.PC Go.Proofs.Ytlnpmodhejakiaa.AV
open Go.RowKit Go.Proofs.YtlnpmodhejakiaaW.PrintWords Go.Proofs.YtlnpmodhejakiaaW.PrintLast Go.Proofs.YtlnpmodhejakiaaW.PrintMore
attribute [local go_sem] max2_int min2_int max_two min_two max_three min_three max_four min_four   -- for this text's walks alone
set_option linter.unusedVariables false
set_option linter.unusedSimpArgs false
end Go.Proofs.Ytlnpmodhejakiaa.PV
namespace Go.Proofs.Ytlnpmodhejakiaa.D
open Go.RowKit Go.Proofs.YtlnpmodhejakiaaW.PrintWords Go.Proofs.YtlnpmodhejakiaaW.PrintLast Go.Proofs.YtlnpmodhejakiaaW.PrintMore Go.Proofs.Ytlnpmodhejakiaa.Sha
set_option linter.unusedVariables false
set_option linter.unusedSimpArgs false
end Go.Proofs.Ytlnpmodhejakiaa.D
namespace Go.Proofs.Ytlnpmodhejakiaa.D
open Go.RowKit Go.Proofs.YtlnpmodhejakiaaW.PrintWords Go.Proofs.YtlnpmodhejakiaaW.PrintLast Go.Proofs.YtlnpmodhejakiaaW.PrintMore Go.Proofs.Ytlnpmodhejakiaa.Sha
set_option linter.unusedVariables false
set_option linter.unusedSimpArgs false
end Go.Proofs.Ytlnpmodhejakiaa.D
namespace Go.Proofs.Ytlnpmodhejakiaa.D
open Go.RowKit Go.Proofs.YtlnpmodhejakiaaW.PrintWords Go.Proofs.YtlnpmodhejakiaaW.PrintLast Go.Proofs.YtlnpmodhejakiaaW.PrintMore Go.Proofs.Ytlnpmodhejakiaa.Sha
set_option linter.unusedVariables false
set_option linter.unusedSimpArgs false
section
variable (fn : Nat) (s : HS) (hb : s.block.length = 64)
end
section
variable {P : Program} {ops : Array Oper} {rest : List Oper} {o : Oper} {a : Act} {Q : Exit → Act → World → Prop}
end
end Go.Proofs.Ytlnpmodhejakiaa.D
namespace Go.Proofs.Ytlnpmodhejakiaa.D
open Go.RowKit Go.Proofs.YtlnpmodhejakiaaW.PrintWords Go.Proofs.YtlnpmodhejakiaaW.PrintLast Go.Proofs.YtlnpmodhejakiaaW.PrintMore Go.Proofs.Ytlnpmodhejakiaa.Sha
set_option linter.unusedVariables false
set_option linter.unusedSimpArgs false
end Go.Proofs.Ytlnpmodhejakiaa.D
namespace Go.Proofs.Ytlnpmodhejakiaa.D
open Go.RowKit Go.Proofs.YtlnpmodhejakiaaW.PrintWords Go.Proofs.YtlnpmodhejakiaaW.PrintLast Go.Proofs.YtlnpmodhejakiaaW.PrintMore Go.Proofs.Ytlnpmodhejakiaa.Sha
set_option linter.unusedVariables false
set_option linter.unusedSimpArgs false
end Go.Proofs.Ytlnpmodhejakiaa.D
namespace Go.Proofs.Ytlnpmodhejakiaa.D
open Go.RowKit Go.Proofs.YtlnpmodhejakiaaW.PrintWords Go.Proofs.YtlnpmodhejakiaaW.PrintLast Go.Proofs.YtlnpmodhejakiaaW.PrintMore Go.Proofs.Ytlnpmodhejakiaa.Sha
set_option linter.unusedVariables false
set_option linter.unusedSimpArgs false
end Go.Proofs.Ytlnpmodhejakiaa.D
namespace Go.Proofs.Ytlnpmodhejakiaa.D
open Go.RowKit Go.Proofs.YtlnpmodhejakiaaW.PrintWords Go.Proofs.YtlnpmodhejakiaaW.PrintLast Go.Proofs.YtlnpmodhejakiaaW.PrintMore Go.Proofs.Ytlnpmodhejakiaa.Sha
set_option linter.unusedVariables false
set_option linter.unusedSimpArgs false
def okB (l : List Int) : Prop := l.length ≤ 140737488355328 ∧ ∀ x ∈ l, 0 ≤ x ∧ x ≤ 255
instance (l : List Int) : Decidable (okB l) := inferInstanceAs (Decidable (_ ∧ _))
end Go.Proofs.Ytlnpmodhejakiaa.D
namespace Go.Proofs.Ytlnpmodhejakiaa.D
end Go.Proofs.Ytlnpmodhejakiaa.D
namespace Go.Proofs.Ytlnpmodhejakiaa.PC
end Go.Proofs.Ytlnpmodhejakiaa.PC
namespace Go.Proofs.Ytlnpmodhejakiaa.AV
end Go.Proofs.Ytlnpmodhejakiaa.AV
namespace Go.Proofs.Ytlnpmodhejakiaa.PV
open Go.Proofs.Ytlnpmodhejakiaa.D Go.Proofs.Ytlnpmodhejakiaa.PC Go.Proofs.Ytlnpmodhejakiaa.AV
open Go.RowKit Go.Proofs.YtlnpmodhejakiaaW.PrintWords Go.Proofs.YtlnpmodhejakiaaW.PrintLast Go.Proofs.YtlnpmodhejakiaaW.PrintMore
attribute [local go_sem] max2_int min2_int max_two min_two max_three min_three max_four min_four   -- for this text's walks alone
set_option linter.unusedVariables false
set_option linter.unusedSimpArgs false
end Go.Proofs.Ytlnpmodhejakiaa.PV
namespace Go.Proofs.Ytlnpmodhejakiaa.CP
open Go.RowKit Go.Proofs.YtlnpmodhejakiaaW.PrintWords Go.Proofs.YtlnpmodhejakiaaW.PrintLast Go.Proofs.YtlnpmodhejakiaaW.PrintMore Go.Proofs.Ytlnpmodhejakiaa.PC Go.Proofs.Ytlnpmodhejakiaa.D
set_option linter.unusedVariables false
set_option linter.unusedSimpArgs false
def byteAt (n : Int) (i : Nat) : Int := n / 2 ^ (8 * i) % 256
def longL (n : Int) : Nat → List Int
  | 0 => []
  | i + 1 => byteAt n i :: longL n i
theorem longL_len (n : Int) : ∀ m, (longL n m).length = m
  | 0 => rfl
  | m + 1 => by rw [longL, List.length_cons, longL_len n m]
theorem shr_by (n : Int) (i : Nat) (hi : i < 8) : (shr .u64 n (IntKind.u64.wrap (wrap64 (8 * (i : Int))))) % 256 = byteAt n i := by
  have e1 : wrap64 (8 * (i : Int)) = 8 * (i : Int) := by unfold wrap64; omega
  have e : IntKind.u64.wrap (wrap64 (8 * (i : Int))) = 8 * (i : Int) := by rw [e1, IntKind.wrap_u64]; omega
  rw [e]
  unfold shr byteAt
  rw [show min (8 * (i : Int)).toNat IntKind.u64.bits = 8 * i by show min _ 64 = _; omega]
theorem clong_go (n : Int) (L : Nat) (hL : L ≤ 140737488355000) : ∀ (m k : Nat) (out : List Int), m ≤ 8 → m < k → out.length + m ≤ L → canon_long.l0 k out n ((m : Int) - 1) = some (out ++ longL n m) := by
  intro m
  induction m with
  | zero =>
    intro k out _ hk _
    obtain ⟨k, rfl⟩ : ∃ j, k = j + 1 := ⟨k - 1, by omega⟩
    rw [canon_long.l0, if_neg (by omega), longL, List.append_nil]
  | succ m ih =>
    intro k out hm hk hl
    obtain ⟨k, rfl⟩ : ∃ j, k = j + 1 := ⟨k - 1, by omega⟩
    have e0 : ((m + 1 : Nat) : Int) - 1 = (m : Int) := by omega
    have e1 : wrap64 ((m : Int) - 1) = (m : Int) - 1 := by unfold wrap64; omega
    have e2 : wrap64 (8 * (m : Int)) = 8 * (m : Int) := by unfold wrap64; omega
    have e3 : (0 : Int) ≤ IntKind.u64.wrap (wrap64 (8 * (m : Int))) := by rw [e2, IntKind.wrap_u64]; omega
    rw [e0, canon_long.l0, if_pos (show (m : Int) ≥ 0 by omega), if_pos e3, if_pos (by omega), shr_by n m (by omega), e1, ih k (out ++ [byteAt n m]) (by omega) (by omega) (by rw [List.length_append, List.length_singleton]; omega), longL, List.append_assoc]
    rfl
theorem clong (n : Int) (m k : Nat) (out : List Int) (hm : m ≤ 8) (hk : m < k) (hl : out.length + m ≤ 140737488355000) : canon_long.f k out n (m : Int) = some (out ++ longL n m) := by
  unfold canon_long.f
  rw [show wrap64 ((m : Int) - 1) = (m : Int) - 1 by unfold wrap64; omega]
  exact clong_go n 140737488355000 (Nat.le_refl _) m k out hm hk hl
theorem rlong_go (n : Int) : ∀ (m k : Nat) (out : List Int), m ≤ 8 → m < k → out.length + m ≤ 8 → steleref02_long.l0 k n out ((m : Int) - 1) = some (out ++ longL n m) := by
  intro m
  induction m with
  | zero =>
    intro k out _ hk _
    obtain ⟨k, rfl⟩ : ∃ j, k = j + 1 := ⟨k - 1, by omega⟩
    rw [steleref02_long.l0, if_neg (by omega), longL, List.append_nil]
  | succ m ih =>
    intro k out hm hk hl
    obtain ⟨k, rfl⟩ : ∃ j, k = j + 1 := ⟨k - 1, by omega⟩
    have e0 : ((m + 1 : Nat) : Int) - 1 = (m : Int) := by omega
    have e1 : wrap64 ((m : Int) - 1) = (m : Int) - 1 := by unfold wrap64; omega
    have e2 : wrap64 (8 * (m : Int)) = 8 * (m : Int) := by unfold wrap64; omega
    have e3 : (0 : Int) ≤ IntKind.u64.wrap (wrap64 (8 * (m : Int))) := by rw [e2, IntKind.wrap_u64]; omega
    rw [e0, steleref02_long.l0, if_pos (show (m : Int) ≥ 0 by omega), if_pos e3, if_pos (by omega), shr_by n m (by omega), e1, ih k (out ++ [byteAt n m]) (by omega) (by omega) (by rw [List.length_append, List.length_singleton]; omega), longL, List.append_assoc]
    rfl
theorem rlong (n : Int) (m k : Nat) (hm : m ≤ 8) (hk : m < k) : steleref02_long.f k n (m : Int) = some (longL n m) := by
  unfold steleref02_long.f
  rw [show wrap64 ((m : Int) - 1) = (m : Int) - 1 by unfold wrap64; omega]
  have := rlong_go n m k [] hm hk (by simpa using hm)
  rwa [List.nil_append] at this
theorem rjoin (a b : List Int) (h : a.length + b.length ≤ 140737488355000) : steleref02_join.f a b = some (a ++ b) := by
  unfold steleref02_join.f
  rw [Option.bind_some, if_pos (by simp only [List.length_nil]; omega), Option.bind_some, List.nil_append, if_pos (by omega)]
theorem cpart (out : List Int) (sign n : Int) (m k : Nat) (hm : m ≤ 8) (hk : m < k) (hl : out.length + 9 ≤ 140737488355000) : canon_part.f k out sign n (m : Int) = some (out ++ sign :: longL n m) := by
  unfold canon_part.f slices_Clone_byte_byte.f
  rw [if_pos (by omega), Option.bind_some, if_pos (by omega), clong n m k _ hm hk (by rw [List.length_append, List.length_singleton]; omega), Option.bind_some, List.append_assoc]
  rfl
def uintL (out : List Int) (n : Int) : List Int := out ++ 117 :: longL n 8
def textL (out : List Int) (s : ByteArray) : List Int := out ++ 115 :: longL (s.size : Int) 4 ++ bytesOf s
def boolL (out : List Int) (b : Bool) : List Int := out ++ [if b = true then 116 else 102]
theorem wrapN (n : Nat) (h : n ≤ 140737488355328) : IntKind.u64.wrap (n : Int) = (n : Int) := by rw [IntKind.wrap_u64]; omega
theorem c_uint (k : Nat) (hk : 9 ≤ k) (out : List Int) (n : Int) (h : out.length + 9 ≤ 140737488355000) : canon_Uint.f k out n = some (uintL out n) := by
  unfold canon_Uint.f
  have := cpart out 117 n 8 k (by omega) (by omega) h
  rw [show ((8 : Nat) : Int) = 8 from rfl] at this
  rw [this]; rfl
theorem c_text (k : Nat) (hk : 9 ≤ k) (out : List Int) (s : ByteArray) (h : out.length + s.size + 9 ≤ 140737488355000) : canon_Text.f k out s = some (textL out s) := by
  unfold canon_Text.f
  have := cpart out 115 (s.size : Int) 4 k (by omega) (by omega) (by omega)
  rw [show ((4 : Nat) : Int) = 4 from rfl] at this
  rw [wrapN _ (by omega), this, Option.bind_some, if_pos (by rw [List.length_append, List.length_cons, longL_len]; omega)]
  rfl
theorem c_bool (k : Nat) (hk : 9 ≤ k) (out : List Int) (b : Bool) (h : out.length + 9 ≤ 140737488355000) : canon_Bool.f k out b = some (boolL out b) := by
  unfold canon_Bool.f
  cases b with
  | true =>
    have := cpart out 116 0 0 k (by omega) (by omega) h
    rw [show ((0 : Nat) : Int) = 0 from rfl] at this
    rw [if_pos rfl, this]; rfl
  | false =>
    have := cpart out 102 0 0 k (by omega) (by omega) h
    rw [show ((0 : Nat) : Int) = 0 from rfl] at this
    rw [if_neg (by simp), this]; rfl
theorem r_sign (out : List Int) (sign : Int) (v : List Int) (hv : v.length ≤ 8) (h : out.length + 9 ≤ 140737488355000) : steleref02_join.f (out ++ [sign]) v = some (out ++ sign :: v) := by
  rw [rjoin _ _ (by rw [List.length_append, List.length_singleton]; omega), List.append_assoc]; rfl
theorem r_nil (out : List Int) (h : out.length + 9 ≤ 140737488355000) : steleref02_join.f out [] = some out := by
  rw [rjoin _ _ (by simp only [List.length_nil]; omega), List.append_nil]
theorem r_uint (k : Nat) (hk : 9 ≤ k) (out : List Int) (n : Int) (h : out.length + 9 ≤ 140737488355000) : steleref02_Uint.f k out n = some (uintL out n) := by
  unfold steleref02_Uint.f
  have := rlong n 8 k (by omega) (by omega)
  rw [show ((8 : Nat) : Int) = 8 from rfl] at this
  rw [r_nil out h, Option.bind_some, if_pos (by omega), this, Option.bind_some, r_sign out 117 _ (by rw [longL_len]; omega) h]; rfl
theorem r_bool (out : List Int) (b : Bool) (h : out.length + 9 ≤ 140737488355000) : steleref02_Bool.f out b = some (boolL out b) := by
  unfold steleref02_Bool.f
  cases b with
  | true => rw [if_pos rfl, r_nil out h, Option.bind_some, if_pos (by omega)]; rfl
  | false => rw [if_neg (by simp), r_nil out h, Option.bind_some, if_pos (by omega)]; rfl
end Go.Proofs.Ytlnpmodhejakiaa.CP
namespace Go.Proofs.Ytlnpmodhejakiaa.D
open Go.RowKit Go.Proofs.YtlnpmodhejakiaaW.PrintWords Go.Proofs.YtlnpmodhejakiaaW.PrintLast Go.Proofs.YtlnpmodhejakiaaW.PrintMore Go.Proofs.Ytlnpmodhejakiaa.CP
set_option linter.unusedVariables false
set_option linter.unusedSimpArgs false
def steleref02_Text.f (l0 : List Int) (a1 : ByteArray) : Option (List Int) := if l0.length + a1.size + 9 ≤ 140737488355000 then some (textL l0 a1) else none
theorem byte_C_string (W : World) (s : ByteArray) (hs : s.size ≤ 9223372036854775807) : Kd.C (Kd.int .u8) (Lib.bytesWorld W 5 s) (some ⟨W.heap.size, 0, none⟩) s.size (bytesOf s) := Kd.C_of_reads (h1 := fun _ => rfl) (enc := Value.int .u8) (d := 0) (readsInt_of.1 (bytes_reads W 5 s hs))
theorem join_b (A : Option Addr) (c : Nat) (l : List Int) (w4 : World) (r : List Int) (s : ByteArray) (hb : (bytesOf s).length = s.size) (hC : Kd.C (Kd.int .u8) (Lib.bytesWorld w4 5 s) A l.length l) (hc : l.length ≤ c) (hC2 : Kd.C (Kd.int .u8) (Lib.bytesWorld w4 5 s) (some ⟨w4.heap.size, 0, none⟩) s.size (bytesOf s)) (hg : s.size ≤ grownCap w4 s.size 0 5) (h : PC.steleref02_join.f l (bytesOf s) = some r) :
    Calls Try.prog 131 #[.slice A l.length c, .slice (some ⟨w4.heap.size, 0, none⟩) s.size (grownCap w4 s.size 0 5)] (Lib.bytesWorld w4 5 s) fun e w' => ∃ v0_ : Value, e = .returned v0_ ∧ Kd.R (Kd.int .u8) 5 w' (Lib.bytesWorld w4 5 s).heap.size (fun _ => True) v0_ r ∧ Below (Lib.bytesWorld w4 5 s).heap.size (Lib.bytesWorld w4 5 s) w' := by
  obtain ⟨G, hG⟩ : ∃ G, grownCap w4 s.size 0 5 = G := ⟨_, rfl⟩
  rw [hG] at hg ⊢
  rw [← hb] at hg hC2 ⊢
  exact PC.steleref02_join.calls A c l _ G (bytesOf s) r _ hC hc hC2 hg h
set_option maxHeartbeats 8000000 in
set_option maxRecDepth 100000 in
theorem steleref02_Text.calls (A0 : Option Addr) (c0 : Nat) (l0 : List Int) (a1 : ByteArray) (r : List Int) (w : World) (hr0 : Kd.C (Kd.int .u8) w A0 l0.length l0) (hc0 : l0.length ≤ c0) (h : steleref02_Text.f l0 a1 = some r) :
    Calls Try.prog 45 #[.slice A0 l0.length c0, .string a1] w fun e w' => ∃ v0_ : Value, e = .returned v0_ ∧ Kd.R (Kd.int .u8) 5 w' w.heap.size (fun _ => True) v0_ r ∧ Below w.heap.size w w' := by
  unfold steleref02_Text.f at h
  by_cases hl : l0.length + a1.size + 9 ≤ 140737488355000
  · rw [if_pos hl] at h
    obtain rfl := Option.some.inj h
    clear h
    have HR := Aside0.mk hr0
    have HC := Aside0.mk hc0
    have HL := Aside0.mk hl
    have HB := Aside0.mk (Below.refl w.heap.size w)
    have J0 := Aside0.mk (r_nil l0 (by omega))
    have wn := wrapN a1.size (by omega)
    have hL := longL_len (a1.size : Int) 4
    have J1 := Aside0.mk (show PC.steleref02_long.f 9 (a1.size : Int) 4 = some (longL (a1.size : Int) 4) from rlong (a1.size : Int) 4 9 (by omega) (by omega))
    have J2 := Aside0.mk (r_sign l0 115 (longL (a1.size : Int) 4) (by rw [hL]; omega) (by omega))
    have J3 := Aside0.mk (rjoin (l0 ++ 115 :: longL (a1.size : Int) 4) (bytesOf a1) (by rw [List.length_append, List.length_cons, hL, bytesOf_length]; omega))
    have hsz63 : a1.size ≤ 9223372036854775807 := by omega
    have BC := Aside0.mk (fun W => byte_C_string W a1 hsz63)
    have GC := Aside0.mk (fun W => grownCap_ge W a1.size 0 5)
    have kb := fun W => print_bytes (P := Try.prog) 9 22 5 Try.underlying9 Try.underlying22 Try.underlying5 a1 W
    have hbl := Aside0.mk (bytesOf_length a1)
    obtain ⟨L, hLe⟩ : ∃ L, longL (a1.size : Int) 4 = L := ⟨_, rfl⟩
    rw [hLe] at J1 J2 J3
    have HT := Aside0.mk (show textL l0 a1 = l0 ++ 115 :: L ++ bytesOf a1 by unfold textL; rw [hLe])
    obtain ⟨P1, hP1⟩ : ∃ L', l0 ++ 115 :: L = L' := ⟨_, rfl⟩
    rw [hP1] at J2 J3 HT
    obtain ⟨P0, hP0⟩ : ∃ L', l0 ++ [115] = L' := ⟨_, rfl⟩
    rw [hP0] at J2
    have HP0 := Aside0.mk hP0
    clear hL hLe hP1 hr0 hc0 hl hP0
    go_enter Try.func45, Try.ntmps45
    go_wp2_with (first
      | ((with_reducible refine gate_dst (N := 6) rfl ?_); refine goesL_ (some 6) rfl rfl Try.func131 (by kernel_rfl) rfl #[.slice A0 l0.length c0, .slice none 0 0] rfl (by (try simp only [List.map_toArray, List.map_cons, List.map_nil]); first | done | rfl) ?_; refine (PC.steleref02_join.calls A0 c0 l0 none 0 [] l0 _ HR.out HC.out (Kd.C_nil _ _) (Nat.le_refl _) J0.out).mono ?_; rintro e w1 ⟨v6, rfl, ho, hb⟩; have R6 := Aside0.mk ho; have HB1 := Aside0.mk hb; clear HB ho hb; refine ⟨_, rfl, ?_⟩)
      | ((with_reducible refine gate_builtin (b := .append) (xs := #[.tmp 6, .tmp 7]) rfl ?_); at_builtin; refine Kd.R_append (Kd.int .u8) (w0 := w) w.heap.size rfl (.tmp 6) (.tmp 7) 22 5 (.int .u8 0) 1 rfl Try.underlying22 infoU8c rfl (by decide) (by omega) v6 l0 115 [.int .u8 115] (fun _ => True) (fun _ => False) rfl rfl ?aP (fun _ hk => hk.elim) ?aF ?aO ?aB ?aS ?aL ?_; (case aP => exact rfl); (case aB => exact HB1.out); (case aF => exact (fun _ _ => trivial)); (case aO => exact R6.out); (case aS => exact HB1.out.size); (case aL => have := HL.out; omega); intro v8 w2 ho hb hg hat; rw [HP0.out] at ho; have HB2 := Aside0.mk hb; obtain ⟨A8, c8, rfl, hc8, C8⟩ := Kd.R_reads ho; have C8 := Aside0.mk C8; have HC8 := Aside0.mk hc8; clear ho hb hg hat HB1 R6 hc8)
      | ((with_reducible refine gate_dst (N := 12) rfl ?_); refine goesL_ (some 12) rfl rfl Try.func132 (by kernel_rfl) rfl #[.int .u64 (a1.size : Int), .int .i64 4] rfl (by (try simp only [List.map_toArray, List.map_cons, List.map_nil]); first | done | rfl) ?_; refine (PC.steleref02_long.calls 9 (a1.size : Int) 4 L _ J1.out).mono ?_; rintro e w3 ⟨v12, rfl, ho, hb⟩; obtain ⟨A12, c12, rfl, hc12, C12⟩ := Kd.R_reads ho; have C12 := Aside0.mk C12; have HC12 := Aside0.mk hc12; have C8' := Aside0.mk (Kd.C_below C8.out hb); have HB3 := Aside0.mk (below_step HB2.out hb); clear ho hb HB2 C8 hc12; refine ⟨_, rfl, ?_⟩)
      | ((with_reducible refine gate_dst (N := 13) rfl ?_); refine goesL_ (some 13) rfl rfl Try.func131 (by kernel_rfl) rfl #[.slice A8 P0.length c8, .slice A12 L.length c12] rfl (by (try simp only [List.map_toArray, List.map_cons, List.map_nil]); first | done | rfl) ?_; refine (PC.steleref02_join.calls A8 c8 P0 A12 c12 L P1 _ C8'.out HC8.out C12.out HC12.out J2.out).mono ?_; rintro e w4 ⟨v13, rfl, ho, hb⟩; obtain ⟨A13, c13, rfl, hc13, C13⟩ := Kd.R_reads ho; have C13 := Aside0.mk C13; have HC13 := Aside0.mk hc13; have HB4 := Aside0.mk (below_step HB3.out hb); clear ho hb HB3 C8' C12 hc13; refine ⟨_, rfl, ?_⟩)
      | ((with_reducible refine gate_dst (N := 16) rfl ?_); refine goesL_ (some 16) rfl rfl Try.func131 (by kernel_rfl) rfl #[.slice A13 P1.length c13, .slice (some ⟨w4.heap.size, 0, none⟩) a1.size (grownCap w4 a1.size 0 5)] rfl (by (try simp only [List.map_toArray, List.map_cons, List.map_nil]); first | done | rfl) ?_; have J4 := join_b A13 c13 P1 w4 _ a1 hbl.out (Kd.C_below C13.out (bytes_below (Below.refl _ _) (Nat.le_refl _) _ _)) HC13.out (BC.out w4) (GC.out w4) J3.out; refine J4.mono ?_; rintro e w5 ⟨v16, rfl, ho, hb⟩; have HB5 := Aside0.mk (below_step (bytes_below HB4.out HB4.out.size _ _) hb); have R16 := Aside0.mk (Kd.R_lower ho (bytes_below HB4.out HB4.out.size _ _).size); rw [← HT.out] at R16; clear J4 ho hb HB4 C13; refine ⟨_, rfl, ?_⟩))
    go_ret
    exact ⟨_, rfl, R16.out, HB5.out⟩
  · rw [if_neg hl] at h
    cases h
end Go.Proofs.Ytlnpmodhejakiaa.D
namespace Go.Proofs.Ytlnpmodhejakiaa.D
end Go.Proofs.Ytlnpmodhejakiaa.D
namespace Go.Proofs.Ytlnpmodhejakiaa.PG
open Go.Proofs.Ytlnpmodhejakiaa.D
open Go.RowKit Go.Proofs.YtlnpmodhejakiaaW.PrintWords Go.Proofs.YtlnpmodhejakiaaW.PrintLast Go.Proofs.YtlnpmodhejakiaaW.PrintMore
attribute [local go_sem] max2_int min2_int max_two min_two max_three min_three max_four min_four   -- for this text's walks alone
set_option linter.unusedVariables false
set_option linter.unusedSimpArgs false
def errW : Option Int → Value
  | none => .nilIface
  | some c => .iface 0 (.int .i64 c)
theorem errW_none : errW none = .nilIface := rfl
theorem errW_some (c : Int) : errW (some c) = .iface 0 (.int .i64 c) := rfl
theorem info5 : (Try.prog.info? 5).map (fun i => (i.zero, i.size, i.bytes)) = some (some (.int .u8 0), 1, 1) := by kernel_rfl
-- the values' own types
end Go.Proofs.Ytlnpmodhejakiaa.PG
namespace Go.Proofs.Ytlnpmodhejakiaa.D
end Go.Proofs.Ytlnpmodhejakiaa.D
namespace Go.Proofs.Ytlnpmodhejakiaa.PG
open Go.Proofs.Ytlnpmodhejakiaa.D
open Go.RowKit Go.Proofs.YtlnpmodhejakiaaW.PrintWords Go.Proofs.YtlnpmodhejakiaaW.PrintLast Go.Proofs.YtlnpmodhejakiaaW.PrintMore
attribute [local go_sem] max2_int min2_int max_two min_two max_three min_three max_four min_four   -- for this text's walks alone
set_option linter.unusedVariables false
set_option linter.unusedSimpArgs false
end Go.Proofs.Ytlnpmodhejakiaa.PG
namespace Go.Proofs.Ytlnpmodhejakiaa.D
end Go.Proofs.Ytlnpmodhejakiaa.D
namespace Go.Proofs.Ytlnpmodhejakiaa.PG
open Go.Proofs.Ytlnpmodhejakiaa.D
open Go.RowKit Go.Proofs.YtlnpmodhejakiaaW.PrintWords Go.Proofs.YtlnpmodhejakiaaW.PrintLast Go.Proofs.YtlnpmodhejakiaaW.PrintMore
attribute [local go_sem] max2_int min2_int max_two min_two max_three min_three max_four min_four   -- for this text's walks alone
set_option linter.unusedVariables false
set_option linter.unusedSimpArgs false
-- NOT PRINTED: function 31 (steleref01_Sha1)
-- NOT PRINTED: function 3 (stelelaw01_DigestSha1)
-- NOT PRINTED: function 33 (steleref01_Sha256)
-- NOT PRINTED: function 4 (stelelaw01_DigestSha256)
end Go.Proofs.Ytlnpmodhejakiaa.PG
namespace Go.Proofs.Ytlnpmodhejakiaa.D
end Go.Proofs.Ytlnpmodhejakiaa.D
namespace Go.Proofs.Ytlnpmodhejakiaa.PG
open Go.Proofs.Ytlnpmodhejakiaa.D
open Go.RowKit Go.Proofs.YtlnpmodhejakiaaW.PrintWords Go.Proofs.YtlnpmodhejakiaaW.PrintLast Go.Proofs.YtlnpmodhejakiaaW.PrintMore
attribute [local go_sem] max2_int min2_int max_two min_two max_three min_three max_four min_four   -- for this text's walks alone
set_option linter.unusedVariables false
set_option linter.unusedSimpArgs false
def steleref01_Same.l0 : Nat → List Int → List Int → Int → Option (Bool)
  | 0, _, _, _ => none
  | k + 1, x0, x1, x5 => if x5 < (x0.length : Int) then (if 0 ≤ x5 then (if x5 < (x1.length : Int) then (if (rd x0 x5) = (rd x1 x5) then (steleref01_Same.l0 k x0 x1 (wrap64 (x5 + 1))) else (some false)) else (none)) else (none)) else (some true)
def steleref01_Same.f (k : Nat) (l0 : List Int) (l1 : List Int) : Option (Bool) := if (l0.length : Int) = (l1.length : Int) then (steleref01_Same.l0 k l0 l1 0) else (some false)
set_option maxHeartbeats 8000000 in
set_option maxRecDepth 100000 in
theorem steleref01_Same.calls (k : Nat) (A0 : Option Addr) (c0 : Nat) (l0 : List Int) (A1 : Option Addr) (c1 : Nat) (l1 : List Int) (r : Bool) (w : World) (hr0 : Kd.C (Kd.int .u8) w A0 l0.length l0) (hc0 : l0.length ≤ c0) (hr1 : Kd.C (Kd.int .u8) w A1 l1.length l1) (hc1 : l1.length ≤ c1) (h : steleref01_Same.f k l0 l1 = some r) :
    Calls Try.prog 29 #[.slice A0 l0.length c0, .slice A1 l1.length c1] w fun e w' => e = .returned (.bool r) ∧ Drawn0 w w' := by
  have HR0 := Aside0.mk hr0
  have HC0 := Aside0.mk hc0
  clear hr0 hc0
  have HR1 := Aside0.mk hr1
  have HC1 := Aside0.mk hc1
  clear hr1 hc1
  have H : (if (l0.length : Int) = (l1.length : Int) then (steleref01_Same.l0 k l0 l1 0) else (some false)) = some r := h
  clear h
  by_cases c3 : (l0.length : Int) = (l1.length : Int)
  · rw [if_pos c3] at H
    have c3b0 : ((l0.length : Int) == (l1.length : Int)) = true := beq_iff_eq.mpr c3
    have c3b1 : ((l0.length : Int) != (l1.length : Int)) = false := bne_eq_false_iff_eq.mpr c3
    have c3b2 : (l0.length == l1.length) = true := by first | simpa using c3 | (simp at c3 ⊢; omega)
    clear c3
    have H' := Aside0.mk H
    clear H
    go_enter Try.func29, Try.ntmps29
    go_wp2
    repeat (go_quiet (fail); try go_wp2)
    go_loopg [5] k (fun kq v5 w' => ∃ (x5_1 : Int), v5 = .int .i64 x5_1 ∧ Aside0 (steleref01_Same.l0 kq l0 l1 x5_1 = some r) ∧ Aside0 (kq ≤ k) ∧ Drawn0 w w')
    case atStart => exact ⟨(0), (by first | rfl | (simp; done) | (simp [*]; done)), H', ⟨Nat.le_refl _⟩, by repeat (first | exact Drawn0.refl _ | apply Drawn0.step)⟩
    case round =>
      clear H'
      try clear c1
      try clear c2
      try clear p2
      try clear c3
      try clear c3b0
      try clear c3b1
      try clear c3b2
      obtain ⟨x5_1, rfl, HA, HK1, ⟨m1, rfl⟩⟩ := hrel
      cases gk with
      | zero => exact absurd HA.out (by simp [steleref01_Same.l0])
      | succ k1 =>
        have H := HA.out
        clear HA
        simp only [steleref01_Same.l0] at H
        by_cases c4 : x5_1 < (l0.length : Int)
        · rw [if_pos c4] at H
          have c4b0 : decide (x5_1 < (l0.length : Int)) = true := decide_eq_true c4
          clear c4
          by_cases c5 : 0 ≤ x5_1
          · rw [if_pos c5] at H
            have c5b0 : decide (0 ≤ x5_1) = true := decide_eq_true c5
            clear c5
            by_cases c6 : x5_1 < (l1.length : Int)
            · rw [if_pos c6] at H
              have c6b0 : decide (x5_1 < (l1.length : Int)) = true := decide_eq_true c6
              clear c6
              by_cases c7 : (rd l0 x5_1) = (rd l1 x5_1)
              · rw [if_pos c7] at H
                have c7b0 : ((rd l0 x5_1) == (rd l1 x5_1)) = true := beq_iff_eq.mpr c7
                have c7b1 : ((rd l0 x5_1) != (rd l1 x5_1)) = false := bne_eq_false_iff_eq.mpr c7
                clear c7
                have H' := Aside0.mk H
                clear H
                have p102 : 0 ≤ (x5_1 : Int) := of_decide_eq_true (by first | (with_reducible assumption) | assumption)
                have q102 : x5_1 < (l0.length : Int) := of_decide_eq_true (by first | (with_reducible assumption) | assumption)
                obtain ⟨ad102, e102, hx102_0⟩ := Kd.at_int HR0.out x5_1 p102 q102
                cases e102
                replace p102 := eq_true p102
                replace q102 := eq_true q102
                have p103 : 0 ≤ (x5_1 : Int) := of_decide_eq_true (by first | (with_reducible assumption) | assumption)
                have q103 : x5_1 < (l1.length : Int) := of_decide_eq_true (by first | (with_reducible assumption) | assumption)
                obtain ⟨ad103, e103, hx103_0⟩ := Kd.at_int HR1.out x5_1 p103 q103
                cases e103
                replace p103 := eq_true p103
                replace q103 := eq_true q103
                go_wp2
                repeat (go_quiet (fail); try go_wp2)
                go_roundg k1
                case measure => have := HK1.out; omega
                case rel => exact ⟨(wrap64 (x5_1 + 1)), (by first | rfl | (simp; done) | (simp [*]; done)), H', ⟨by have := HK1.out; omega⟩, by repeat (first | exact Drawn0.refl _ | apply Drawn0.step)⟩
              · rw [if_neg c7] at H
                have c7b0 : ((rd l0 x5_1) == (rd l1 x5_1)) = false := beq_eq_false_iff_ne.mpr c7
                have c7b1 : ((rd l0 x5_1) != (rd l1 x5_1)) = true := bne_iff_ne.mpr c7
                obtain rfl := Option.some.inj H
                have p102 : 0 ≤ (x5_1 : Int) := of_decide_eq_true (by first | (with_reducible assumption) | assumption)
                have q102 : x5_1 < (l0.length : Int) := of_decide_eq_true (by first | (with_reducible assumption) | assumption)
                obtain ⟨ad102, e102, hx102_0⟩ := Kd.at_int HR0.out x5_1 p102 q102
                cases e102
                replace p102 := eq_true p102
                replace q102 := eq_true q102
                have p103 : 0 ≤ (x5_1 : Int) := of_decide_eq_true (by first | (with_reducible assumption) | assumption)
                have q103 : x5_1 < (l1.length : Int) := of_decide_eq_true (by first | (with_reducible assumption) | assumption)
                obtain ⟨ad103, e103, hx103_0⟩ := Kd.at_int HR1.out x5_1 p103 q103
                cases e103
                replace p103 := eq_true p103
                replace q103 := eq_true q103
                go_wp2
                repeat (go_quiet (fail); try go_wp2)
                go_ret
                exact ⟨by first | rfl | (simp; done) | (simp [*]; done), by repeat (first | exact Drawn0.refl _ | apply Drawn0.step)⟩
            · rw [if_neg c6] at H
              exact absurd H (by simp)
          · rw [if_neg c5] at H
            exact absurd H (by simp)
        · rw [if_neg c4] at H
          have c4b0 : decide (x5_1 < (l0.length : Int)) = false := decide_eq_false c4
          clear c4
          obtain rfl := Option.some.inj H
          go_wp2
          repeat (go_quiet (fail); try go_wp2)
          go_ret
          exact ⟨by first | rfl | (simp; done) | (simp [*]; done), by repeat (first | exact Drawn0.refl _ | apply Drawn0.step)⟩
  · rw [if_neg c3] at H
    have c3b0 : ((l0.length : Int) == (l1.length : Int)) = false := beq_eq_false_iff_ne.mpr c3
    have c3b1 : ((l0.length : Int) != (l1.length : Int)) = true := bne_iff_ne.mpr c3
    have c3b2 : (l0.length == l1.length) = false := by first | simpa using c3 | (simp at c3 ⊢; omega)
    obtain rfl := Option.some.inj H
    go_enter Try.func29, Try.ntmps29
    go_wp2
    repeat (go_quiet (fail); try go_wp2)
    go_ret
    exact ⟨by first | rfl | (simp; done) | (simp [*]; done), by repeat (first | exact Drawn0.refl _ | apply Drawn0.step)⟩
end Go.Proofs.Ytlnpmodhejakiaa.PG
namespace Go.Proofs.Ytlnpmodhejakiaa.D
open Go.RowKit Go.Proofs.YtlnpmodhejakiaaW.PrintWords Go.Proofs.YtlnpmodhejakiaaW.PrintLast Go.Proofs.YtlnpmodhejakiaaW.PrintMore Go.Proofs.Ytlnpmodhejakiaa.Sha Go.Proofs.Ytlnpmodhejakiaa.PG
set_option linter.unusedVariables false
set_option linter.unusedSimpArgs false
end Go.Proofs.Ytlnpmodhejakiaa.D
namespace Go.Proofs.Ytlnpmodhejakiaa.D
open Go.RowKit Go.Proofs.YtlnpmodhejakiaaW.PrintWords Go.Proofs.YtlnpmodhejakiaaW.PrintLast Go.Proofs.YtlnpmodhejakiaaW.PrintMore
set_option linter.unusedVariables false
section
variable {P : Program} {md : Region.Mode} {ops : Array Oper} {Q : Exit → Act → World → Prop} {S : World → Prop} {ds : List Nat}
def YieldsC (P : Program) (ops : Array Oper) (S : World → Prop) (o : Oper) (v : Value) (a : Act) : Prop :=
  Region.wanted o (yielded ops a.tmps) = true ∧ ∀ w, S w → ∃ f args, (execOp a.eval o).run P w = .ok (.enter f args) w ∧ Calls P f args w (fun e w'' => e = .returned v ∧ w'' = w)
theorem YieldsC.op {i : Nat} {o : Oper} {v : Value} {a : Act} (hi : ops[i]? = some o) (hy : YieldsC P ops S o v a)
    {K : Act → World → Prop} {w : World} (hS : S w) (h : K (a.put o.dst v) w) : wpOp P ops Q i K a w := by
  unfold Go.wpOp
  simp only [hi]
  obtain ⟨hw, hv⟩ := hy
  obtain ⟨f, args, hr, hc⟩ := hv w hS
  simp only [hw, if_true]
  refine .inl ?_
  unfold Oper.wp
  rw [hr, Oper.upon_enter]
  refine hc.mono fun e w'' ⟨he, hw''⟩ => ?_
  subst he hw''
  exact h
end
end Go.Proofs.Ytlnpmodhejakiaa.D
namespace Go.Proofs.Ytlnpmodhejakiaa.D
open Go.RowKit Go.Proofs.YtlnpmodhejakiaaW.PrintWords Go.Proofs.YtlnpmodhejakiaaW.PrintLast Go.Proofs.YtlnpmodhejakiaaW.PrintMore Go.Proofs.Ytlnpmodhejakiaa.Sha Go.Proofs.Ytlnpmodhejakiaa.PG
set_option linter.unusedVariables false
set_option linter.unusedSimpArgs false
end Go.Proofs.Ytlnpmodhejakiaa.D
namespace Go.Proofs.Ytlnpmodhejakiaa.D
open Go.RowKit Go.Proofs.YtlnpmodhejakiaaW.PrintWords Go.Proofs.YtlnpmodhejakiaaW.PrintLast Go.Proofs.YtlnpmodhejakiaaW.PrintMore Go.Proofs.Ytlnpmodhejakiaa.Sha Go.Proofs.Ytlnpmodhejakiaa.PG
set_option linter.unusedVariables false
set_option linter.unusedSimpArgs false
def h5 (h v : V8) (i : Nat) : List W := ((add5 h v).l.take 5).take i ++ (h.l.take 5).drop i
end Go.Proofs.Ytlnpmodhejakiaa.D
namespace Go.Proofs.Ytlnpmodhejakiaa.D
open Go.RowKit Go.Proofs.YtlnpmodhejakiaaW.PrintWords Go.Proofs.YtlnpmodhejakiaaW.PrintLast Go.Proofs.YtlnpmodhejakiaaW.PrintMore Go.Proofs.Ytlnpmodhejakiaa.Sha
set_option linter.unusedVariables false
def okR (l : List Int) : Prop := l.length ≤ 140737488340000 ∧ ∀ x ∈ l, 0 ≤ x ∧ x ≤ 255
instance (l : List Int) : Decidable (okR l) := inferInstanceAs (Decidable (_ ∧ _))
end Go.Proofs.Ytlnpmodhejakiaa.D
namespace Go.Proofs.Ytlnpmodhejakiaa.D
end Go.Proofs.Ytlnpmodhejakiaa.D
namespace Go.Proofs.Ytlnpmodhejakiaa.PC
end Go.Proofs.Ytlnpmodhejakiaa.PC
namespace Go.Proofs.Ytlnpmodhejakiaa.AV
end Go.Proofs.Ytlnpmodhejakiaa.AV
namespace Go.Proofs.Ytlnpmodhejakiaa.PV
open Go.Proofs.Ytlnpmodhejakiaa.D Go.Proofs.Ytlnpmodhejakiaa.PC Go.Proofs.Ytlnpmodhejakiaa.AV
open Go.RowKit Go.Proofs.YtlnpmodhejakiaaW.PrintWords Go.Proofs.YtlnpmodhejakiaaW.PrintLast Go.Proofs.YtlnpmodhejakiaaW.PrintMore
attribute [local go_sem] max2_int min2_int max_two min_two max_three min_three max_four min_four   -- for this text's walks alone
set_option linter.unusedVariables false
set_option linter.unusedSimpArgs false
-- NOT PRINTED: function 74 (stelelaw14_alive)
end Go.Proofs.Ytlnpmodhejakiaa.PV
namespace Go.Proofs.Ytlnpmodhejakiaa.AV
open Go.RowKit Go.Proofs.YtlnpmodhejakiaaW.PrintWords Go.Proofs.YtlnpmodhejakiaaW.PrintLast Go.Proofs.YtlnpmodhejakiaaW.PrintMore
set_option linter.unusedVariables false
set_option linter.unusedSimpArgs false
end Go.Proofs.Ytlnpmodhejakiaa.AV
namespace Go.Proofs.Ytlnpmodhejakiaa.D
end Go.Proofs.Ytlnpmodhejakiaa.D
namespace Go.Proofs.Ytlnpmodhejakiaa.PC
end Go.Proofs.Ytlnpmodhejakiaa.PC
namespace Go.Proofs.Ytlnpmodhejakiaa.AV
end Go.Proofs.Ytlnpmodhejakiaa.AV
namespace Go.Proofs.Ytlnpmodhejakiaa.PV
open Go.Proofs.Ytlnpmodhejakiaa.D Go.Proofs.Ytlnpmodhejakiaa.PC Go.Proofs.Ytlnpmodhejakiaa.AV
open Go.RowKit Go.Proofs.YtlnpmodhejakiaaW.PrintWords Go.Proofs.YtlnpmodhejakiaaW.PrintLast Go.Proofs.YtlnpmodhejakiaaW.PrintMore
attribute [local go_sem] max2_int min2_int max_two min_two max_three min_three max_four min_four   -- for this text's walks alone
set_option linter.unusedVariables false
set_option linter.unusedSimpArgs false
-- NOT PRINTED: function 19 (stelelaw14_AuditShows)
-- NOT PRINTED: function 77 (steleref14_Next)
-- NOT PRINTED: function 15 (stelelaw14_AuditNexts)
-- NOT PRINTED: function 16 (stelelaw14_AuditVerifies)
-- NOT PRINTED: function 17 (stelelaw14_AuditChains)
-- NOT PRINTED: function 83 (steleref14_Collision)
-- NOT PRINTED: function 18 (stelelaw14_AuditEdited)
end Go.Proofs.Ytlnpmodhejakiaa.PV
namespace Go.Proofs.Ytlnpmodhejakiaa.AV
open Go.RowKit Go.Proofs.YtlnpmodhejakiaaW.PrintWords Go.Proofs.YtlnpmodhejakiaaW.PrintLast Go.Proofs.YtlnpmodhejakiaaW.PrintMore Go.Proofs.Ytlnpmodhejakiaa.Sha Go.Proofs.Ytlnpmodhejakiaa.D Go.Proofs.Ytlnpmodhejakiaa.PC Go.Proofs.Ytlnpmodhejakiaa.CP Go.Proofs.Ytlnpmodhejakiaa.PV
set_option linter.unusedVariables false
set_option linter.unusedSimpArgs false
def B255 (l : List Int) : Prop := ∀ y ∈ l, 0 ≤ y ∧ y ≤ 255
theorem B255.nil : B255 [] := fun _ h => by simp at h
theorem B255.cons {a : Int} {b : List Int} (ha : 0 ≤ a ∧ a ≤ 255) (hb : B255 b) : B255 (a :: b) := fun y h => (List.mem_cons.1 h).elim (fun e => e ▸ ha) (hb y)
theorem wrap_nat (i : Nat) (h : i < 9223372036854775807) : wrap64 ((i : Int) + 1) = ((i + 1 : Nat) : Int) := by unfold wrap64; omega
theorem drop_rd (a : List Int) (i : Nat) (h : i < a.length) : a.drop i = rd a (i : Int) :: a.drop (i + 1) := by
  unfold rd
  rw [Int.toNat_natCast, List.getD_eq_getElem?_getD, List.getElem?_eq_getElem h, Option.getD_some]
  exact List.drop_eq_getElem_cons h
theorem rsame_loop (a b : List Int) (hl : a.length = b.length) (hn : a.length < 9223372036854775807) : ∀ (d k i : Nat), i + d = a.length → d < k → steleref01_Same.l0 k a b (i : Int) = some (a.drop i == b.drop i) := by
  intro d
  induction d with
  | zero =>
    intro k i hi hk
    obtain ⟨k, rfl⟩ : ∃ m, k = m + 1 := ⟨k - 1, by omega⟩
    simp only [steleref01_Same.l0]
    rw [if_neg (by omega), List.drop_of_length_le (by omega), List.drop_of_length_le (by omega)]; rfl
  | succ d ih =>
    intro k i hi hk
    obtain ⟨k, rfl⟩ : ∃ m, k = m + 1 := ⟨k - 1, by omega⟩
    simp only [steleref01_Same.l0]
    rw [if_pos (by omega), if_pos (by omega), if_pos (by omega), wrap_nat i (by omega), ih k (i + 1) (by omega) (by omega), drop_rd a i (by omega), drop_rd b i (by omega)]
    by_cases e : rd a (i : Int) = rd b (i : Int)
    · rw [if_pos e, e]; simp
    · rw [if_neg e]; simp [e]
theorem rsame (a b : List Int) (hn : a.length < 9223372036854775807) (k : Nat) (hk : a.length < k) : steleref01_Same.f k a b = some (a == b) := by
  unfold steleref01_Same.f
  by_cases e : a.length = b.length
  · rw [if_pos (by omega)]
    have := rsame_loop a b e hn a.length k 0 (by omega) hk
    simpa using this
  · rw [if_neg (by omega)]
    have : a ≠ b := fun h => e (by rw [h])
    simp [this]
structure okX (x : S69) : Prop where
  s0 : 0 ≤ x.f0 ∧ x.f0 ≤ 18446744073709551615
  s1 : 0 ≤ x.f1 ∧ x.f1 ≤ 18446744073709551615
  s6 : 0 ≤ x.f6 ∧ x.f6 ≤ 18446744073709551615
  s3 : -9223372036854775808 ≤ x.f3 ∧ x.f3 ≤ 9223372036854775807
  s7 : -9223372036854775808 ≤ x.f7 ∧ x.f7 ≤ 9223372036854775807
  bulk : x.f2.size + x.f4.size + x.f5.size + x.f8.length + x.f9.length ≤ 1000000
  b8 : B255 x.f8
  b9 : B255 x.f9
theorem uintL_len (out : List Int) (n : Int) : (uintL out n).length = out.length + 9 := by unfold uintL; rw [List.length_append, List.length_cons, longL_len]
theorem textL_len (out : List Int) (s : ByteArray) : (textL out s).length = out.length + s.size + 5 := by unfold textL; rw [List.length_append, List.length_append, List.length_cons, longL_len, bytesOf_length]; omega
def pos (a : Int) : Int := mx a 0
theorem pos_wrap (a : Int) (h : a ≤ 9223372036854775807) : IntKind.u64.wrap (mx a 0) = pos a := by
  unfold pos mx
  rw [IntKind.wrap_u64]
  split <;> omega
theorem r_text (out : List Int) (s : ByteArray) (h : out.length + s.size + 9 ≤ 140737488355000) : steleref02_Text.f out s = some (textL out s) := by unfold steleref02_Text.f; rw [if_pos h]
end Go.Proofs.Ytlnpmodhejakiaa.AV
namespace Go.Proofs.Ytlnpmodhejakiaa.AV
open Go.RowKit Go.Proofs.YtlnpmodhejakiaaW.PrintWords Go.Proofs.YtlnpmodhejakiaaW.PrintLast Go.Proofs.YtlnpmodhejakiaaW.PrintMore Go.Proofs.Ytlnpmodhejakiaa.Sha Go.Proofs.Ytlnpmodhejakiaa.D Go.Proofs.Ytlnpmodhejakiaa.PC Go.Proofs.Ytlnpmodhejakiaa.CP Go.Proofs.Ytlnpmodhejakiaa.PV
set_option linter.unusedVariables false
set_option linter.unusedSimpArgs false
structure RecC (w : World) (x : S69) (A8 : Option Addr) (c8 : Nat) (A9 : Option Addr) (c9 : Nat) : Prop where
  C8 : Kd.C (Kd.int .u8) w A8 x.f8.length x.f8
  h8 : x.f8.length ≤ c8
  C9 : Kd.C (Kd.int .u8) w A9 x.f9.length x.f9
  h9 : x.f9.length ≤ c9
theorem RecC.below {w w' : World} {x : S69} {A8 A9 : Option Addr} {c8 c9 : Nat} (h : RecC w x A8 c8 A9 c9) (hb : Below w.heap.size w w') : RecC w' x A8 c8 A9 c9 := ⟨Kd.C_below h.C8 hb, h.h8, Kd.C_below h.C9 hb, h.h9⟩
theorem RecC.k {w : World} {x : S69} {A8 A9 : Option Addr} {c8 c9 : Nat} (h : RecC w x A8 c8 A9 c9) : k69.K w x [.int .u64 x.f0, .int .u64 x.f1, .string x.f2, .int .i64 x.f3, .string x.f4, .string x.f5, .int .u64 x.f6, .int .i64 x.f7, .slice A8 x.f8.length c8, .slice A9 x.f9.length c9] := k69_mk w x h.h8 h.C8 h.h9 h.C9
theorem bsame_c (A : Option Addr) (c : Nat) (l : List Int) (A1 : Option Addr) (c1 : Nat) (m : List Int) (w : World) (hC : Kd.C (Kd.int .u8) w A l.length l) (hc : l.length ≤ c) (hC1 : Kd.C (Kd.int .u8) w A1 m.length m) (hc1 : m.length ≤ c1) (hl : l.length ≤ 140737488355328) :
    Calls Try.prog 29 #[.slice A l.length c, .slice A1 m.length c1] w fun e w' => e = .returned (.bool (l == m)) ∧ Below w.heap.size w w' :=
  (steleref01_Same.calls (l.length + 1) A c l A1 c1 m _ w hC hc hC1 hc1 (rsame l m (by omega) _ (by omega))).mono fun e w' ⟨he, hd⟩ => ⟨he, hd.below⟩
theorem C_none (w : World) (A : Option Addr) : Kd.C (Kd.int .u8) w A 0 [] := ⟨rfl, by omega, fun h => absurd h (by omega)⟩
end Go.Proofs.Ytlnpmodhejakiaa.AV
namespace Go.Proofs.Ytlnpmodhejakiaa.AV
open Go.RowKit Go.Proofs.YtlnpmodhejakiaaW.PrintWords Go.Proofs.YtlnpmodhejakiaaW.PrintLast Go.Proofs.YtlnpmodhejakiaaW.PrintMore Go.Proofs.Ytlnpmodhejakiaa.Sha Go.Proofs.Ytlnpmodhejakiaa.D Go.Proofs.Ytlnpmodhejakiaa.PC Go.Proofs.Ytlnpmodhejakiaa.CP Go.Proofs.Ytlnpmodhejakiaa.PV
set_option linter.unusedVariables false
set_option linter.unusedSimpArgs false
def raw (f0 f1 : Int) (f2 : ByteArray) (f3 : Int) (f4 f5 : ByteArray) (f6 f7 : Int) (f8 f9 : List Int) : Prop :=
  (0 ≤ f0 ∧ f0 ≤ 18446744073709551615) ∧ (0 ≤ f1 ∧ f1 ≤ 18446744073709551615) ∧ (0 ≤ f6 ∧ f6 ≤ 18446744073709551615) ∧ (-9223372036854775808 ≤ f3 ∧ f3 ≤ 9223372036854775807) ∧ (-9223372036854775808 ≤ f7 ∧ f7 ≤ 9223372036854775807) ∧ (f2.size ≤ 140737488355328 ∧ f4.size ≤ 140737488355328 ∧ f5.size ≤ 140737488355328 ∧ f8.length ≤ 140737488355328 ∧ f9.length ≤ 140737488355328) ∧ B255 f8 ∧ B255 f9
def rawX (x : S69) : Prop := raw x.f0 x.f1 x.f2 x.f3 x.f4 x.f5 x.f6 x.f7 x.f8 x.f9
theorem rawX.ok {x : S69} (h : rawX x) (hb : x.f2.size + x.f4.size + x.f5.size + x.f8.length + x.f9.length ≤ 5000) : okX x := by
  obtain ⟨h0, h1, h6, h3, h7, _, h8, h9⟩ := h
  exact ⟨h0, h1, h6, h3, h7, by omega, h8, h9⟩
end Go.Proofs.Ytlnpmodhejakiaa.AV
