/- slices.Grow of nothing, slices.Concat of bytes. -/
import Derived.Test.YtlnpmodhejakiaaCanA
import Derived.Lib.AppendZeros
namespace Go.Proofs.Ytlnpmodhejakiaa.D
open Go.RowKit Go.Proofs.YtlnpmodhejakiaaW.PrintWords Go.Proofs.YtlnpmodhejakiaaW.PrintLast Go.Proofs.YtlnpmodhejakiaaW.PrintMore Go.Proofs.Ytlnpmodhejakiaa.PA
set_option linter.unusedVariables false
set_option linter.unusedSimpArgs false

set_option maxHeartbeats 4000000 in
set_option maxRecDepth 100000 in
theorem grow_nil (n : Nat) (hn : n < 140737488355328) (w : World) :
    Calls Try.prog 198 #[.slice none 0 0, .int .i64 (n : Int)] w fun e w' => ∃ v0_ : Value, e = .returned v0_ ∧ Kd.R (Kd.int .u8) 5 w' w.heap.size (fun _ => True) v0_ [] ∧ Below w.heap.size w w' := by
  have h1 : ¬ ((n : Int) < 0) := by omega
  have h2 : wrap64 ((n : Int) - 0) = (n : Int) := by unfold wrap64; omega
  by_cases h0 : n = 0
  · subst h0
    clear h2 h1 hn
    show Calls _ _ #[.slice none 0 0, .int .i64 0] w _
    go_enter Try.func198, Try.ntmps198
    go_wp2
    go_ret
    exact ⟨_, rfl, Kd.R_nil _ _ _ _ _, Below.refl _ _⟩
  · obtain ⟨i0, hi, hzz⟩ := Option.map_eq_some_iff.1 infoU8c
    simp only [Prod.mk.injEq] at hzz
    obtain ⟨hz0, hz1, hz2⟩ := hzz
    have hrz : ∀ ty, (Builtin.append_ #[22, 3] ty #[.slice none 0 0, .int .i64 (n : Int)]).run Try.prog w = _ := fun ty =>
      Lib.run_append_nil_zeros w 22 3 ty 5 i0 (.int .u8 0) .i64 .i64 Try.underlying22 Try.underlying3 hi hz0 n (by omega) (by omega) (by omega) (by rw [hz2]; omega)
    have HRZ := Aside0.mk hrz
    have hG := Aside0.mk (grownCap_ge w n 0 5)
    have hG2 := Aside0.mk (grownCap_le_maxLen w n 0 5 (by unfold maxLen; omega))
    clear hrz hi hz0 hz1 hz2
    obtain ⟨G, hGe⟩ : ∃ G, grownCap w n 0 5 = G := ⟨_, rfl⟩
    rw [hGe] at HRZ hG hG2
    clear hGe
    have h3 : (n : Int) > 0 := by omega
    have h4 := hG.out
    have h5 : G ≤ 9223372036854775807 := by have := hG2.out; unfold maxLen at this; omega
    go_enter Try.func198, Try.ntmps198
    go_wp2_with (at_builtin; refine Lib.wpList_append_run _ rfl _ _ _ _ rfl _ _ rfl rfl _ _ (HRZ.out _) ?_)
    go_ret
    refine ⟨_, rfl, Kd.R_of_own (h1 := fun _ => rfl) (e := 5) (xs := []) (enc := Value.int .u8) ⟨rfl, Or.inr ⟨w.heap.size, G, _, rfl, Nat.le_refl _, blk_new _ _, Nat.zero_le _, hG2.out, ?_, by simp [encs]⟩⟩ (fun _ _ => trivial), below_alloc (below_drew (Below.refl _ _)) _⟩
    have := hG.out
    simp [Builtin.zeroCells]
    omega
def sumLen (ll : List (List Int)) : Nat := (ll.map List.length).sum
theorem sumLen_take (ll : List (List Int)) (k : Nat) (h : k < ll.length) : sumLen (ll.take (k + 1)) = sumLen (ll.take k) + (rd_L1 ll (k : Int)).length := by
  unfold sumLen rd_L1
  rw [List.take_succ_eq_append_getElem h, List.map_append, List.sum_append]
  simp [List.getD_eq_getElem?_getD, List.getElem?_eq_getElem h]
theorem sumLen_le (ll : List (List Int)) (k : Nat) : sumLen (ll.take k) ≤ sumLen ll := by
  unfold sumLen
  conv => rhs; rw [← List.take_append_drop k ll]
  rw [List.map_append, List.sum_append]
  omega
theorem flat_len' (ll : List (List Int)) : ll.flatten.length = sumLen ll := by simp [sumLen, List.length_flatten]
theorem flat_take' (ll : List (List Int)) (k : Nat) (h : k < ll.length) : (ll.take (k + 1)).flatten = (ll.take k).flatten ++ rd_L1 ll (k : Int) := by
  unfold rd_L1
  rw [List.take_succ_eq_append_getElem h, List.flatten_append]
  simp [List.getD_eq_getElem?_getD, List.getElem?_eq_getElem h]
def slices_Concat.f (ll : List (List Int)) : Option (List Int) := if sumLen ll < 140737488355328 then some ll.flatten else none
set_option maxHeartbeats 8000000 in
set_option maxRecDepth 100000 in
theorem slices_Concat.calls (A0 : Option Addr) (c0 : Nat) (l0 : List (List Int)) (r : List Int) (w : World) (hr0 : Kd.C (Kd.slice 5 (Kd.int .u8)) w A0 l0.length l0) (hc0 : l0.length ≤ c0) (hl63 : l0.length ≤ 140737488355328) (h : slices_Concat.f l0 = some r) :
    Calls Try.prog 180 #[.slice A0 l0.length c0] w fun e w' => ∃ v0_ : Value, e = .returned v0_ ∧ Kd.R (Kd.int .u8) 5 w' w.heap.size (fun _ => True) v0_ r ∧ Below w.heap.size w w' := by
  unfold slices_Concat.f at h
  by_cases hl : sumLen l0 < 140737488355328
  · rw [if_pos hl] at h
    obtain rfl := Option.some.inj h
    clear h
    have HR := Aside0.mk hr0
    have HC := Aside0.mk hc0
    clear hr0 hc0
    go_enter Try.func180, Try.ntmps180
    go_wp2
    go_loop [3, 11] (fun v3 v11 => ∃ k : Nat, k ≤ l0.length ∧ v11 = .int .i64 (k : Int) ∧ v3 = .int .i64 ((sumLen (l0.take k) : Nat) : Int)) (fun _ v11 => l0.length - (intOf v11).toNat)
    case atStart => exact ⟨0, Nat.zero_le _, rfl, rfl⟩
    case round =>
      obtain ⟨k, hk, rfl, rfl⟩ := hrel
      have hle := sumLen_le l0 k
      by_cases hlt : k < l0.length
      · have hst := sumLen_take l0 k hlt
        have hle1 := sumLen_le l0 (k + 1)
        obtain ⟨ad, A1, c1, e1, hx, hcl, hi⟩ := at_L1 HR.out (k : Int) (by omega) (by omega)
        cases e1
        have HI := Aside0.mk hi
        have HCL := Aside0.mk hcl
        have HST := Aside0.mk hst
        rw [Int.toNat_natCast] at hx
        obtain ⟨m, hm⟩ : ∃ m, (rd_L1 l0 (k : Int)).length = m := ⟨_, rfl⟩
        obtain ⟨t, ht⟩ : ∃ m, sumLen (l0.take k) = m := ⟨_, rfl⟩
        obtain ⟨S, hS⟩ : ∃ m, sumLen l0 = m := ⟨_, rfl⟩
        rw [hm] at hx
        rw [hm] at hst
        rw [ht] at hst hle ⊢
        rw [hS] at hle hle1 hl
        rw [hst] at hle1
        have HM := Aside0.mk hm
        have HT := Aside0.mk ht
        clear hi hcl hst hm ht hS
        go_wp2
        go_round
        case rel => exact ⟨k + 1, by omega, by go_num, by rw [HST.out, HM.out, HT.out]; go_num⟩
        case measure => simp [intOf]; omega
      · obtain rfl : k = l0.length := by omega
        rw [List.take_length] at hle ⊢
        have HB0 := Aside0.mk (Below.refl w.heap.size w)
        go_wp2_with (go_at_call 198; refine (grow_nil (sumLen l0) hl _).mono ?_; rintro e w1 ⟨vg, rfl, ho, hb⟩; have O1 := Aside0.mk ho; have HB := Aside0.mk hb; clear ho hb)
        go_loopw [6, 27] (fun v6 v27 wr => ∃ k : Nat, k ≤ l0.length ∧ v27 = .int .i64 (k : Int) ∧ Aside0 (Kd.R (Kd.int .u8) 5 wr w.heap.size (fun _ => True) v6 (l0.take k).flatten) ∧ Aside0 (Below w.heap.size w wr)) (fun _ v27 _ => l0.length - (intOf v27).toNat)
        case atStart => exact ⟨0, Nat.zero_le _, rfl, O1, HB⟩
        case round =>
          clear O1 HB
          obtain ⟨k, hk, rfl, O1, HB⟩ := hrel
          by_cases hlt : k < l0.length
          · obtain ⟨ad, A1, c1, e1, hx, hcl, hi⟩ := at_L1 (Kd.C_below HR.out HB.out) (k : Int) (by omega) (by omega)
            cases e1
            have HI := Aside0.mk hi
            have HCL := Aside0.mk hcl
            have HF := Aside0.mk (flat_take' l0 k hlt)
            have HL := Aside0.mk (show (l0.take k).flatten.length + (rd_L1 l0 (k : Int)).length ≤ 140737488355328 by rw [flat_len', ← sumLen_take l0 k hlt]; have := sumLen_le l0 (k + 1); omega)
            rw [Int.toNat_natCast] at hx
            obtain ⟨y, hy⟩ : ∃ m, rd_L1 l0 (k : Int) = m := ⟨_, rfl⟩
            obtain ⟨pre, hp⟩ : ∃ m, (l0.take k).flatten = m := ⟨_, rfl⟩
            rw [hy] at hx HI HCL HF HL
            rw [hp] at HF HL O1
            clear hy hp hcl hi
            go_wp2_with (first
              | ((with_reducible refine gate_builtin (b := .append) (xs := #[.tmp 31, .tmp 32]) rfl ?_); at_builtin; refine Kd.R_append_rows (Kd.int .u8) (w0 := w) w.heap.size rfl (.tmp 31) (.tmp 32) 22 5 (.int .u8 0) 1 rfl Try.underlying22 infoU8c rfl (by decide) (by omega) _ pre y _ _ _ (fun _ => True) (fun _ => False) rfl rfl ?aO ?aR (fun _ _ h => h) (fun _ h => h.elim) ?aF ?aB ?aS ?aL ?_; (case aR => exact HI.out); (case aB => exact HB.out); (case aF => exact (fun _ _ => trivial)); (case aO => exact O1.out); (case aS => exact HB.out.size); (case aL => have := HL.out; omega); intro v7 w7 ho hb hg hat; rw [← HF.out] at ho; have o_ := Aside0.mk ho; have b_ := Aside0.mk hb; clear ho hb hg hat))
            go_roundw
            case rel => exact ⟨k + 1, by omega, by go_num, o_, b_⟩
            case measure => simp [intOf]; omega
          · obtain rfl : k = l0.length := by omega
            rw [List.take_length] at O1
            go_wp2
            go_ret
            exact ⟨_, rfl, O1.out, HB.out⟩
  · rw [if_neg hl] at h
    cases h
end Go.Proofs.Ytlnpmodhejakiaa.D
