/- steleref02.Reader: what its methods answer, in the words of canon's. -/
import Derived.Test.YtlnpmodhejakiaaYCanE
import Derived.Test.YtlnpmodhejakiaaYPRx1
namespace Go.Proofs.Ytlnpmodhejakiaa.D
open Go.RowKit Go.Proofs.YtlnpmodhejakiaaW.PrintWords Go.Proofs.YtlnpmodhejakiaaW.PrintLast Go.Proofs.YtlnpmodhejakiaaW.PrintMore Go.Proofs.Ytlnpmodhejakiaa.PR
set_option linter.unusedVariables false
set_option linter.unusedSimpArgs false
def IsX (w0 : World) (g : Nat) (w : World) (b l : List Int) (bad : Bool) : Prop := ∃ at_ : Nat, at_ ≤ b.length ∧ l = b.drop at_ ∧ IsS55 w0 w g b (at_ : Int) bad
theorem Wr.of_keep {w0 w w' : World} {g : Nat} (h0 : Below w0.heap.size w0 w) (h1 : Below w0.heap.size w0 w') (hk : KeepBut w w' g none) : Wr w.heap.size g w w' :=
  ⟨h1.os.trans h0.os.symm, h1.tape.trans h0.tape.symm, h1.output.trans h0.output.symm, hk.1, fun i hi hg => hk.2 i hi hg (by simp)⟩
theorem rd_drop (b : List Int) (a i : Nat) : rd b ((a + i : Nat) : Int) = (b.drop a).getD i 0 := by
  unfold rd
  rw [Int.toNat_natCast, List.getD_eq_getElem?_getD, List.getD_eq_getElem?_getD, List.getElem?_drop]
set_option maxRecDepth 100000 in
theorem numBE_lt7 (l : List Int) (h : ∀ x ∈ l, 0 ≤ x ∧ x ≤ 255) (hl : l.length ≤ 7) : 0 ≤ numBE l ∧ numBE l < 72057594037927936 := by
  have hn := numBE_bd l h
  have h2 : (256 : Int) ^ l.length ≤ 256 ^ 7 := by have := Nat.pow_le_pow_right (n := 256) (by decide) hl; exact_mod_cast this
  have h3 : (256 : Int) ^ 7 = 72057594037927936 := by decide
  omega
theorem wrapu64 {x : Int} (h0 : 0 ≤ x) (h1 : x < 18446744073709551616) : IntKind.u64.wrap x = x := by rw [IntKind.wrap_u64]; omega
theorem nl_1 (a i L many: Nat) (hlen: a + many < L) (hbl: L ≤ 140737488355328) (hi : i + 1 ≤ many) : wrap64 ((a : Int) + ((i+1:Nat):Int)) = ((a+(1+i):Nat):Int) := by unfold wrap64; omega
theorem nl_2 (i many: Nat) (hi : i + 1 ≤ many) (hm : many ≤ 8) : wrap64 (((i+1:Nat):Int) + 1) = ((i+1+1:Nat):Int) := by unfold wrap64; omega
theorem nl_3 (a i : Nat) : (0 : Int) ≤ ((a + (1 + i) : Nat) : Int) := by omega
theorem nl_4 (a i L many: Nat) (hlen: a + many < L) (hi : i + 1 ≤ many) : ((a + (1 + i) : Nat) : Int) < (L : Int) := by omega
theorem nl_5 (N : Int) (h : 0 ≤ N ∧ N < 72057594037927936) : IntKind.u64.wrap (N * 256) = N * 256 := wrapu64 (by omega) (by omega)
theorem nl_6 (x : Int) (h : 0 ≤ x ∧ x ≤ 255) : IntKind.u64.wrap x = x := wrapu64 (by omega) (by omega)
theorem nl_7 (N x : Int) (h : 0 ≤ N ∧ N < 72057594037927936) (hx : 0 ≤ x ∧ x ≤ 255) : IntKind.u64.wrap (N * 256 + x) = N * 256 + x := wrapu64 (by omega) (by omega)
theorem number_l0 (b : List Int) (a many : Nat) (hb : okL b) (hlen : a + many < b.length) (hm8 : many ≤ 8) : ∀ (d i k : Nat), many - i = d → i ≤ many → d < k →
    steleref02_Reader_number.l0 k (many : Int) (numBE (((b.drop a).drop 1).take i)) ((i + 1 : Nat) : Int) b (a : Int) false = some (numBE (((b.drop a).drop 1).take many), true, (a : Int), false) := by
  intro d
  induction d with
  | zero =>
    intro i k hd hi hk
    obtain ⟨k, rfl⟩ : ∃ m, k = m + 1 := ⟨k - 1, by omega⟩
    obtain rfl : i = many := by omega
    simp only [steleref02_Reader_number.l0]
    rw [if_neg (by omega)]
  | succ d ih =>
    intro i k hd hi hk
    obtain ⟨k, rfl⟩ : ∃ m, k = m + 1 := ⟨k - 1, by omega⟩
    have hs := ih (i + 1) k (by omega) (by omega) (by omega)
    have hbl := hb.1
    have hx := hb.2 ((b.drop a).getD (1 + i) 0) (by
      rw [List.getD_eq_getElem?_getD, List.getElem?_drop, List.getElem?_eq_getElem (show a + (1 + i) < b.length by omega)]; exact List.getElem_mem _)
    have hst : ((b.drop a).drop 1).take (i + 1) = ((b.drop a).drop 1).take i ++ [(b.drop a).getD (1 + i) 0] := by
      rw [List.take_succ_eq_append_getElem (by rw [List.length_drop, List.length_drop]; omega), List.getElem_drop, List.getD_eq_getElem?_getD, List.getElem?_eq_getElem (show 1 + i < (b.drop a).length by rw [List.length_drop]; omega)]; rfl
    have hn := numBE_lt7 (((b.drop a).drop 1).take i) (fun x hx => hb.2 x (List.mem_of_mem_drop (List.mem_of_mem_drop (List.mem_of_mem_take hx)))) (by rw [List.length_take]; omega)
    rw [hst, numBE_snoc] at hs
    have rx := rd_drop b a (1 + i)
    obtain ⟨N, hN⟩ : ∃ N, numBE (((b.drop a).drop 1).take i) = N := ⟨_, rfl⟩
    obtain ⟨M, hM⟩ : ∃ N, numBE (((b.drop a).drop 1).take many) = N := ⟨_, rfl⟩
    obtain ⟨x, hxe⟩ : ∃ x, (b.drop a).getD (1 + i) 0 = x := ⟨_, rfl⟩
    rw [hN, hM, hxe] at hs
    rw [hN] at hn
    rw [hxe] at hx rx
    rw [hN, hM]
    clear hN hM hxe hst ih hb
    obtain ⟨L, hL⟩ : ∃ L, b.length = L := ⟨_, rfl⟩
    rw [hL] at hlen hbl
    have hi1 : i + 1 ≤ many := by clear hs rx hn hx; omega
    have e1 := nl_1 a i L many hlen hbl hi1
    have e2 := nl_2 i many hi1 hm8
    have c1 := eq_true (Int.ofNat_le.2 hi1)
    have c2 := eq_true (nl_3 a i)
    have c3 := eq_true (nl_4 a i L many hlen hi1)
    have w1 := nl_5 N hn
    have w2 := nl_6 x hx
    have w3 := nl_7 N x hn hx
    rw [steleref02_Reader_number.l0]
    simp only [c1, e1, hL, c2, c3, if_true, rx, w1, w2, w3, e2]
    exact hs
theorem number_eq (b : List Int) (a many : Nat) (bad : Bool) (sign : Int) (hb : okL b) (ha : a ≤ b.length) (hm1 : 1 ≤ many) (hm8 : many ≤ 8) :
    steleref02_Reader_number.f 10 b (a : Int) bad sign (many : Int) = some ((headV (b.drop a) bad sign many).getD 0, (headV (b.drop a) bad sign many).isSome, (a : Int), (headV (b.drop a) bad sign many).isNone) := by
  have hbl := hb.1
  have hdl : (b.drop a).length = b.length - a := List.length_drop
  unfold steleref02_Reader_number.f headV
  cases bad with
  | true => rw [if_pos rfl, if_pos (Or.inl rfl)]; rfl
  | false =>
    rw [if_neg (by simp)]
    have e1 : wrap64 ((b.length : Int) - (a : Int)) = ((b.length - a : Nat) : Int) := by unfold wrap64; omega
    have e2 : wrap64 ((many : Int) + 1) = ((many + 1 : Nat) : Int) := by unfold wrap64; omega
    rw [e1, e2]
    by_cases h1 : b.length - a ≤ many
    · rw [if_pos (by omega), if_pos (Or.inr (Or.inl (by omega)))]; rfl
    · rw [if_neg (by omega), if_pos (by omega), if_pos (by omega)]
      have e3 : rd b (a : Int) = (b.drop a).getD 0 0 := rd_drop b a 0
      rw [e3]
      by_cases h2 : (b.drop a).getD 0 0 = sign
      · rw [if_neg (by rintro (h | h | h); cases h; omega; exact h h2)]
        rw [show ((b.drop a).getD 0 0 != sign) = false by rw [bne_eq_false_iff_eq]; exact h2]
        exact number_l0 b a many hb (by omega) hm8 many 0 9 (by omega) (by omega) (by omega)
      · rw [if_pos (Or.inr (Or.inr h2)), show ((b.drop a).getD 0 0 != sign) = true by rw [bne_iff_ne]; exact h2]
        rfl
end Go.Proofs.Ytlnpmodhejakiaa.D
