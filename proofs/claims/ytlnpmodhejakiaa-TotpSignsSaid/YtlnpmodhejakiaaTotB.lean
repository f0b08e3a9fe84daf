/- totp.Unbase32 by hand. -/
import Derived.Test.YtlnpmodhejakiaaTotA
import Derived.Test.YtlnpmodhejakiaaCanA
import Derived.Test.YtlnpmodhejakiaaCanT
namespace Go.Proofs.Ytlnpmodhejakiaa.T
open Go.RowKit Go.Proofs.YtlnpmodhejakiaaW.PrintWords Go.Proofs.YtlnpmodhejakiaaW.PrintLast Go.Proofs.YtlnpmodhejakiaaW.PrintMore
open Go.Proofs.Ytlnpmodhejakiaa.D (byte_C_string infoU8c)
set_option linter.unusedVariables false
set_option linter.unusedSimpArgs false
def idx (c : Int) : Int := Lib.indexByte sgs.data.toList c.toNat.toUInt8
theorem indexByte_lt (l : List UInt8) (c : UInt8) : Lib.indexByte l c < (l.length : Int) ∨ (l = [] ∧ Lib.indexByte l c = -1) := by
  induction l with
  | nil => exact Or.inr ⟨rfl, rfl⟩
  | cons b l ih =>
    refine Or.inl ?_
    rw [Lib.indexByte, List.length_cons]
    split
    · omega
    · split
      · omega
      · rcases ih with h | ⟨h1, h2⟩ <;> omega
theorem idx_bd (c : Int) : -1 ≤ idx c ∧ idx c < 32 := by
  refine ⟨Lib.indexByte_ge _ _, ?_⟩
  rcases indexByte_lt sgs.data.toList c.toNat.toUInt8 with h | ⟨h, _⟩
  · exact h
  · cases h
def unext (s : List Int × Int × Nat) (n : Int) : List Int × Int × Nat :=
  if 3 ≤ s.2.2 then (s.1 ++ [(s.2.1 * 32 + n) % 4294967296 / 2 ^ (s.2.2 - 3) % 256], (s.2.1 * 32 + n) % 4294967296, s.2.2 - 3)
  else (s.1, (s.2.1 * 32 + n) % 4294967296, s.2.2 + 5)
theorem unext_hi (o : List Int) (b : Int) (j : Nat) (n : Int) : unext (o, b, j + 3) n = (o ++ [(b * 32 + n) % 4294967296 / 2 ^ j % 256], (b * 32 + n) % 4294967296, j) := by
  unfold unext
  rw [if_pos (Nat.le_add_left 3 j)]
  simp only [Nat.add_sub_cancel]
theorem unext_lo (o : List Int) (b : Int) (m : Nat) (n : Int) (h : ¬ 3 ≤ m) : unext (o, b, m) n = (o, (b * 32 + n) % 4294967296, m + 5) := by
  unfold unext
  rw [if_neg h]
def ustep (s : Option (List Int × Int × Nat)) (c : Int) : Option (List Int × Int × Nat) := s.bind fun s => if idx c < 0 then none else some (unext s (idx c))
def unrun (l : List Int) : Option (List Int × Int × Nat) := l.foldl ustep (some ([], 0, 0))
theorem unrun_none (l : List Int) : l.foldl ustep none = none := by
  induction l with
  | nil => rfl
  | cons c l ih => rw [List.foldl_cons]; exact ih
theorem unrun_snoc (l : List Int) (c : Int) : unrun (l ++ [c]) = ustep (unrun l) c := by unfold unrun; rw [List.foldl_append]; rfl
theorem unrun_take_none (l : List Int) (k : Nat) (h : unrun (l.take k) = none) : unrun l = none := by
  have : unrun l = (l.drop k).foldl ustep (unrun (l.take k)) := by
    unfold unrun
    rw [← List.foldl_append, List.take_append_drop]
  rw [this, h, unrun_none]
def unb (s : ByteArray) : List Int × Int := match unrun (bytesOf s) with
  | none => ([], 4)
  | some r => if (⟨(b32 r.1).toArray⟩ : ByteArray) = s then (r.1, 0) else ([], 4)
theorem or32' (b x : Int) (hx : 0 ≤ x ∧ x < 32) (hb : 0 ≤ b) : bits .or .u32 (b * 32 % 4294967296) x = (b * 32 + x) % 4294967296 := by
  have e1 : b * 32 % 4294967296 = (b % 134217728) * 32 := by omega
  have e2 : (b * 32 + x) % 4294967296 = (b % 134217728) * 32 + x := by omega
  rw [e1, e2]
  have h0 : 0 ≤ b % 134217728 := Int.emod_nonneg _ (by decide)
  have h1 : b % 134217728 < 134217728 := Int.emod_lt_of_pos _ (by decide)
  obtain ⟨n, hn⟩ := Int.eq_ofNat_of_zero_le h0
  obtain ⟨m, rfl⟩ := Int.eq_ofNat_of_zero_le hx.1
  rw [hn] at h1 ⊢
  unfold bits
  show IntKind.u32.wrap ((BitVec.ofInt 32 ((n : Int) * 32) ||| BitVec.ofInt 32 (m : Int)).toNat : Int) = _
  rw [BitVec.toNat_or, show ((n : Int) * 32) = ((n * 32 : Nat) : Int) by omega, BitVec.ofInt_natCast, BitVec.ofInt_natCast, BitVec.toNat_ofNat, BitVec.toNat_ofNat, Nat.mod_eq_of_lt (by omega), Nat.mod_eq_of_lt (by omega)]
  have := Nat.shiftLeft_add_eq_or_of_lt (show m < 2 ^ 5 by omega) n
  rw [show n <<< 5 = n * 32 by rw [Nat.shiftLeft_eq]] at this
  rw [← this, IntKind.wrap_u32]
  omega
set_option maxHeartbeats 8000000 in
set_option maxRecDepth 100000 in
theorem unb_any (s : ByteArray) (w : World) (hs : s.size ≤ 1000000000000) :
    Calls Try.prog 69 #[.string s] w fun e w' => ∃ v, e = .returned (.tuple #[v, .int .i64 (unb s).2]) ∧ Kd.R (Kd.int .u8) 5 w' w.heap.size (fun _ => True) v (unb s).1 ∧ Below w.heap.size w w' := by
  have HS := Aside0.mk hs
  have kb := fun W => print_bytes (P := Try.prog) 9 22 5 Try.underlying9 Try.underlying22 Try.underlying5 s W
  have hbl := bytesOf_length s
  have HBL := Aside0.mk hbl
  have hbd := Aside0.mk (show ∀ x ∈ bytesOf s, 0 ≤ x ∧ x ≤ 255 from by
    intro x hx
    unfold bytesOf at hx
    obtain ⟨b, _, rfl⟩ := List.mem_map.1 hx
    have := b.toNat_lt
    omega)
  have HU := Aside0.mk (show unb s = match unrun (bytesOf s) with
    | none => ([], 4)
    | some r => if (⟨(b32 r.1).toArray⟩ : ByteArray) = s then (r.1, 0) else ([], 4) from rfl)
  obtain ⟨L, hL⟩ : ∃ L, bytesOf s = L := ⟨_, rfl⟩
  have HC := Aside0.mk (byte_C_string w s (by omega))
  rw [hL] at HBL hbd HU HC hbl
  obtain ⟨r, hr⟩ : ∃ r, unb s = r := ⟨_, rfl⟩
  rw [hr] at HU ⊢
  clear hs hr hbl
  go_enter Try.func69, Try.ntmps69
  go_wp2
  go_loopw [4, 5, 6, 13] (fun v4 v5 v6 v13 wr => ∃ (k : Nat) (o : List Int) (b : Int) (m : Nat), k ≤ s.size ∧ v13 = .int .i64 (k : Int) ∧ v5 = .int .u32 b ∧ v6 = .int .i64 (m : Int) ∧ Aside0 (unrun (L.take k) = some (o, b, m)) ∧ m ≤ 7 ∧ (0 ≤ b ∧ b < 4294967296) ∧ Aside0 (o.length ≤ k) ∧ Aside0 (∀ x ∈ o, 0 ≤ x ∧ x ≤ 255) ∧ Aside0 (Kd.R (Kd.int .u8) 5 wr (Lib.bytesWorld w 5 s).heap.size (fun _ => True) v4 o) ∧ Aside0 (Below (Lib.bytesWorld w 5 s).heap.size (Lib.bytesWorld w 5 s) wr)) (fun _ _ _ v _ => s.size - (intOf v).toNat)
  case atStart => exact ⟨0, [], 0, 0, Nat.zero_le _, rfl, rfl, rfl, ⟨rfl⟩, by decide, by decide, ⟨Nat.zero_le _⟩, ⟨by simp⟩, ⟨Kd.R_nil _ _ _ _ _⟩, ⟨Below.refl _ _⟩⟩
  case round =>
    obtain ⟨k, o, b, m, hk, rfl, rfl, rfl, HRUN, hm7, hb, HOL, HOB, HO, HBr⟩ := hrel
    have BB := Aside0.mk (below_step (bytes_below (Below.refl w.heap.size w) (Nat.le_refl _) 5 s) HBr.out)
    have hss := HS.out
    by_cases hlt : k < s.size
    · obtain ⟨ad, he, hcell⟩ := Kd.at_int HC.out (k : Int) (by omega) (by omega)
      cases he
      have c0 := (HBr.out.cell (World.block_lt_of_cell? _ _ hcell)).trans hcell
      simp only [Int.toNat_natCast] at c0
      have hlL : k < L.length := by have := HBL.out; omega
      have erd : rd L (k : Int) = L[k] := by show L.getD k 0 = _; rw [List.getD_eq_getElem?_getD, List.getElem?_eq_getElem hlL]; rfl
      have hx := hbd.out L[k] (List.getElem_mem _)
      have htake : unrun (L.take (k + 1)) = ustep (unrun (L.take k)) L[k] := by rw [List.take_succ_eq_append_getElem hlL, unrun_snoc]
      rw [HRUN.out] at htake
      rw [erd, show (({ block := w.heap.size, off := 0 } : Addr).add k) = { block := w.heap.size, off := k } by unfold Addr.add; split <;> simp_all] at c0
      obtain ⟨x, hxe⟩ : ∃ x, L[k] = x := ⟨_, rfl⟩
      rw [hxe] at hx c0 htake
      clear hxe erd hcell
      have hib := idx_bd x
      have HIX := Aside0.mk (show Lib.indexByte sgs.data.toList x.toNat.toUInt8 = idx x from rfl)
      obtain ⟨n, hn⟩ : ∃ n, idx x = n := ⟨_, rfl⟩
      have htake' : unrun (L.take (k + 1)) = if n < 0 then none else some (unext (o, b, m) n) := by rw [htake, ← hn]; rfl
      rw [hn] at hib HIX
      have IB := Aside0.mk (fun W => Go.Proofs.Ytlnpmodhejakiaa.B.strings_IndexByte sgs x W)
      rw [HIX.out] at IB
      have HT := Aside0.mk htake'
      have HLT := Aside0.mk hlt
      clear htake htake' hn hlL HIX
      by_cases hn0 : n < 0
      · rw [if_pos hn0] at HT
        have q1 : decide (n < 0) = true := decide_eq_true hn0
        have HN := Aside0.mk (unrun_take_none L (k + 1) HT.out)
        rw [HN.out] at HU
        clear hn0 hib hx hb
        go_wp2_with (go_at_call 140; refine (IB.out _).mono ?_; rintro e w1 ⟨rfl, rfl⟩)
        go_ret2
        exact ⟨_, by rw [HU.out]; rfl, by rw [HU.out]; exact Kd.R_nil _ _ _ _ _, BB.out⟩
      · rw [if_neg hn0] at HT
        have q1 : decide (n < 0) = false := decide_eq_false hn0
        have hn1 : 0 ≤ n := by omega
        have hor := or32' b n ⟨hn1, hib.2⟩ hb.1
        have hw : IntKind.u32.wrap n = n := by rw [IntKind.wrap_u32]; omega
        have hw2 : n % 4294967296 = n := by omega
        have hB0 : 0 ≤ (b * 32 + n) % 4294967296 := Int.emod_nonneg _ (by decide)
        have hB1 : (b * 32 + n) % 4294967296 < 4294967296 := Int.emod_lt_of_pos _ (by decide)
        have q3 : wrap64 ((m : Int) + 5) = ((m + 5 : Nat) : Int) := by unfold wrap64; omega
        by_cases hm3 : 3 ≤ m
        · obtain ⟨j, rfl⟩ : ∃ j, m = j + 3 := ⟨m - 3, (Nat.sub_add_cancel hm3).symm⟩
          have HT' := Aside0.mk (show unrun (L.take (k + 1)) = some (o ++ [(b * 32 + n) % 4294967296 / 2 ^ j % 256], (b * 32 + n) % 4294967296, j) from HT.out.trans (congrArg some (unext_hi o b j n)))
          obtain ⟨B, hB⟩ : ∃ B, (b * 32 + n) % 4294967296 = B := ⟨_, rfl⟩
          rw [hB] at HT' hB0 hB1 hor
          have hs := shr32 B j (by omega)
          obtain ⟨ch, hch⟩ : ∃ c, B / 2 ^ j % 256 = c := ⟨_, rfl⟩
          have hw8 : IntKind.u8.wrap (B / 2 ^ j) = ch := by rw [IntKind.wrap_u8]; exact hch
          have hc0 : 0 ≤ ch := by omega
          have hc1 : ch ≤ 255 := by omega
          rw [hch] at HT'
          have q4 : decide ((8 : Int) ≤ ((j + 3 + 5 : Nat) : Int)) = true := decide_eq_true (by omega)
          have q5 : wrap64 ((j : Int) + 3 + 5 - 8) = (j : Int) := by unfold wrap64; omega
          have q6 : wrap64 (((j + 3 + 5 : Nat) : Int) - 8) = (j : Int) := by unfold wrap64; omega
          have hj : j ≤ 4 := by omega
          have HB0 := Aside0.mk hB0
          have HB1 := Aside0.mk hB1
          have HC0 := Aside0.mk hc0
          have HC1 := Aside0.mk hc1
          clear hB hn0 hib hx hb hm3 hm7 hB0 hB1
          go_wp2_with (first
            | (go_at_call 140; refine (IB.out _).mono ?_; rintro e w1 ⟨rfl, rfl⟩)
            | ((with_reducible refine gate_builtin (b := .append) (xs := #[.tmp 32, .tmp 38]) rfl ?_); at_builtin; refine Kd.R_append (Kd.int .u8) (w0 := (Lib.bytesWorld w 5 s)) (Lib.bytesWorld w 5 s).heap.size rfl (.tmp 32) (.tmp 38) 22 5 (.int .u8 0) 1 rfl Try.underlying22 infoU8c rfl (by decide) (by omega) _ o ch [.int .u8 ch] (fun _ => True) (fun _ => False) rfl rfl ?aP (fun _ hk => hk.elim) ?aF ?aO ?aB ?aS ?aL ?_; (case aP => exact rfl); (case aB => exact HBr.out); (case aF => exact (fun _ _ => trivial)); (case aO => exact HO.out); (case aS => exact HBr.out.size); (case aL => have := HOL.out; have := HS.out; have := HLT.out; omega); intro v8 w2 ho hb hg hat; have HO2 := Aside0.mk ho; have HB2 := Aside0.mk hb; clear ho hb hg hat))
          go_roundw
          case measure => simp [intOf]; have := HLT.out; omega
          case rel => exact ⟨k + 1, o ++ [ch], B, j, by have := HLT.out; omega, by go_num, rfl, by go_num, HT', by omega, ⟨HB0.out, HB1.out⟩, ⟨by rw [List.length_append, List.length_singleton]; have := HOL.out; omega⟩, ⟨by intro y hy; rcases List.mem_append.1 hy with hy | hy; exact HOB.out y hy; rw [List.mem_singleton] at hy; subst hy; exact ⟨HC0.out, HC1.out⟩⟩, HO2, HB2⟩
        · have HT' := Aside0.mk (show unrun (L.take (k + 1)) = some (o, (b * 32 + n) % 4294967296, m + 5) from HT.out.trans (congrArg some (unext_lo o b m n hm3)))
          obtain ⟨B, hB⟩ : ∃ B, (b * 32 + n) % 4294967296 = B := ⟨_, rfl⟩
          rw [hB] at HT' hB0 hB1 hor
          have q4 : decide ((8 : Int) ≤ ((m + 5 : Nat) : Int)) = false := decide_eq_false (by omega)
          have q4' : decide (8 ≤ m + 5) = false := decide_eq_false (by omega)
          have q4'' : decide ((8 : Int) ≤ (m : Int) + 5) = false := decide_eq_false (by omega)
          have HM := Aside0.mk (show m ≤ 2 by omega)
          have HB0 := Aside0.mk hB0
          have HB1 := Aside0.mk hB1
          clear hB hn0 hib hx hb hm3 hm7 hB0 hB1
          go_wp2_with (go_at_call 140; refine (IB.out _).mono ?_; rintro e w1 ⟨rfl, rfl⟩)
          go_roundw
          case measure => simp [intOf]; have := HLT.out; omega
          case rel => exact ⟨k + 1, o, B, m + 5, by have := HLT.out; omega, by go_num, rfl, by go_num, HT', by have := HM.out; omega, ⟨HB0.out, HB1.out⟩, ⟨by have := HOL.out; omega⟩, HOB, HO, HBr⟩
    · obtain rfl : k = s.size := by omega
      rw [List.take_of_length_le (by have := HBL.out; omega)] at HRUN
      replace HU : Aside0 (r = if (⟨(b32 o).toArray⟩ : ByteArray) = s then (o, 0) else ([], 4)) := ⟨by rw [HU.out, HRUN.out]⟩
      obtain ⟨A3, c3, e3, hc3, hC3⟩ := Kd.R_reads HO.out
      subst e3
      have BA := Aside0.mk (b32_any A3 c3 o wr hC3 hc3 ⟨by have := HOL.out; omega, HOB.out⟩)
      have HO3 := Aside0.mk (Kd.R_lower HO.out (bytes_below (Below.refl w.heap.size w) (Nat.le_refl _) 5 s).size)
      obtain ⟨T, hT⟩ : ∃ T, (⟨(b32 o).toArray⟩ : ByteArray) = T := ⟨_, rfl⟩
      rw [hT] at BA HU
      clear hT hc3 hC3 hm7 hb
      by_cases hq : T = s
      · rw [if_pos hq] at HU
        have q1 : (T.toList == s.toList) = true := by rw [hq]; exact beq_self_eq_true _
        clear hq
        go_wp2_with (go_at_call 71; refine BA.out.mono ?_; rintro e w1 ⟨rfl, hb1⟩; have HB2 := Aside0.mk (below_step BB.out hb1); have HO4 := Aside0.mk (Kd.R_below HO3.out hb1); clear hb1)
        go_ret2
        exact ⟨_, by rw [HU.out]; rfl, by rw [HU.out]; exact HO4.out, HB2.out⟩
      · rw [if_neg hq] at HU
        have q1 : (T.toList == s.toList) = false := by
          rw [beq_eq_false_iff_ne]
          intro h
          rw [ByteArray.toList_eq, ByteArray.toList_eq] at h
          exact hq (ByteArray.ext (Array.ext' h))
        clear hq
        go_wp2_with (go_at_call 71; refine BA.out.mono ?_; rintro e w1 ⟨rfl, hb1⟩; have HB2 := Aside0.mk (below_step BB.out hb1); clear hb1)
        go_ret2
        exact ⟨_, by rw [HU.out]; rfl, by rw [HU.out]; exact Kd.R_nil _ _ _ _ _, HB2.out⟩
def totp_Unbase32.f (a0 : ByteArray) : Option (List Int × Int) := if a0.size ≤ 1000000000000 then some (unb a0) else none
theorem totp_Unbase32.calls (a0 : ByteArray) (r1 : List Int) (r2 : Int) (w : World) (h : totp_Unbase32.f a0 = some (r1, r2)) :
    Calls Try.prog 69 #[.string a0] w fun e w' => ∃ v0_ : Value, e = .returned (.tuple #[v0_, .int .i64 r2]) ∧ Kd.R (Kd.int .u8) 5 w' w.heap.size (fun _ => True) v0_ r1 ∧ Below w.heap.size w w' := by
  unfold totp_Unbase32.f at h
  by_cases hh : a0.size ≤ 1000000000000
  · rw [if_pos hh] at h
    have e := Option.some.inj h
    have := unb_any a0 w hh
    rw [e] at this
    exact this
  · rw [if_neg hh] at h
    cases h
end Go.Proofs.Ytlnpmodhejakiaa.T
