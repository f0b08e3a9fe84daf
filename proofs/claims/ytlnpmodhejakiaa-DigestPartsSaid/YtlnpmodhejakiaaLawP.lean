/- The law DigestParts: its function. -/
import Derived.Test.YtlnpmodhejakiaaPartsA
import Derived.Test.YtlnpmodhejakiaaLawA
import Derived.Test.YtlnpmodhejakiaaRefB
namespace Go.Proofs.Ytlnpmodhejakiaa.PH
open Go.RowKit Go.Proofs.YtlnpmodhejakiaaW.PrintWords Go.Proofs.YtlnpmodhejakiaaW.PrintLast Go.Proofs.YtlnpmodhejakiaaW.PrintMore Go.Proofs.Ytlnpmodhejakiaa.Sha Go.Proofs.Ytlnpmodhejakiaa.D Go.Proofs.Ytlnpmodhejakiaa.PA
set_option linter.unusedVariables false
set_option linter.unusedSimpArgs false
def sumLn (ll : List (List Int)) : Nat := (ll.map List.length).sum
theorem sumLn_take (ll : List (List Int)) (k : Nat) (h : k < ll.length) : sumLn (ll.take (k + 1)) = sumLn (ll.take k) + (PG.rd_L1 ll (k : Int)).length := by
  unfold sumLn PG.rd_L1
  rw [List.take_succ_eq_append_getElem h, List.map_append, List.sum_append]
  simp [List.getD_eq_getElem?_getD, List.getElem?_eq_getElem h]
theorem sumLn_le (ll : List (List Int)) (k : Nat) : sumLn (ll.take k) ≤ sumLn ll := by
  unfold sumLn
  conv => rhs; rw [← List.take_append_drop k ll]
  rw [List.map_append, List.sum_append]
  omega
theorem sumLn_cap (ll : List (List Int)) (h : ∀ y ∈ ll, y.length ≤ 140737488355328) : sumLn ll ≤ ll.length * 140737488355328 := by
  induction ll with
  | nil => simp [sumLn]
  | cons a t ih =>
    have h1 := ih (fun y hy => h y (List.mem_cons_of_mem _ hy))
    have h2 := h a (List.mem_cons_self ..)
    have h3 : sumLn (a :: t) = a.length + sumLn t := by simp [sumLn]
    rw [h3, List.length_cons, Nat.succ_mul]
    omega
theorem light_runs (l : List (List Int)) : ∀ (d i k : Nat) (n : Int), l.length - i = d → i ≤ l.length → l.length ≤ 140737488355328 → d < k → ∃ b, PG.stelelaw01_light.l0 k l n (i : Int) = some b := by
  intro d
  induction d with
  | zero =>
    intro i k n hd hi hl hk
    obtain ⟨k, rfl⟩ : ∃ m, k = m + 1 := ⟨k - 1, by omega⟩
    rw [PG.stelelaw01_light.l0, if_neg (by omega)]
    exact ⟨_, rfl⟩
  | succ d ih =>
    intro i k n hd hi hl hk
    obtain ⟨k, rfl⟩ : ∃ m, k = m + 1 := ⟨k - 1, by omega⟩
    rw [PG.stelelaw01_light.l0, if_pos (by omega), if_pos (by omega), show wrap64 ((i : Int) + 1) = ((i + 1 : Nat) : Int) by unfold wrap64; omega]
    exact ih (i + 1) k _ (by omega) (by omega) hl (by omega)
theorem light_adds (l : List (List Int)) (hs : sumLn l ≤ 4611686018427387904) : ∀ (d i k : Nat), l.length - i = d → i ≤ l.length → l.length ≤ 140737488355328 → d < k → PG.stelelaw01_light.l0 k l ((sumLn (l.take i) : Nat) : Int) (i : Int) = some (decide (sumLn l ≤ 200000)) := by
  intro d
  induction d with
  | zero =>
    intro i k hd hi hl hk
    obtain ⟨k, rfl⟩ : ∃ m, k = m + 1 := ⟨k - 1, by omega⟩
    obtain rfl : i = l.length := by omega
    rw [PG.stelelaw01_light.l0, if_neg (by omega), List.take_length]
    congr 1
    apply decide_eq_decide.2
    omega
  | succ d ih =>
    intro i k hd hi hl hk
    obtain ⟨k, rfl⟩ : ∃ m, k = m + 1 := ⟨k - 1, by omega⟩
    have h1 := sumLn_take l i (by omega)
    have h2 := sumLn_le l (i + 1)
    rw [PG.stelelaw01_light.l0, if_pos (by omega), if_pos (by omega), show wrap64 ((i : Int) + 1) = ((i + 1 : Nat) : Int) by unfold wrap64; omega, show wrap64 (((sumLn (l.take i) : Nat) : Int) + ((PG.rd_L1 l (i : Int)).length : Int)) = ((sumLn (l.take (i + 1)) : Nat) : Int) by unfold wrap64; omega]
    exact ih (i + 1) k (by omega) (by omega) hl (by omega)
theorem flat_rd (ll : List (List Int)) (k : Nat) (h : k < ll.length) : (ll.take (k + 1)).flatten = (ll.take k).flatten ++ rd_L1 ll (k : Int) := by
  unfold rd_L1
  rw [List.take_succ_eq_append_getElem h, List.flatten_append]
  simp [List.getD_eq_getElem?_getD, List.getElem?_eq_getElem h]
theorem flat_ln (ll : List (List Int)) : ll.flatten.length = sumLn ll := by simp [sumLn, List.length_flatten]
theorem flat_bd (ll : List (List Int)) (h : ∀ y ∈ ll, ∀ x ∈ y, 0 ≤ x ∧ x ≤ 255) (k : Nat) : ∀ x ∈ (ll.take k).flatten, 0 ≤ x ∧ x ≤ 255 := by
  intro x hx
  obtain ⟨y, hy, hxy⟩ := List.mem_flatten.1 hx
  exact h y (List.mem_of_mem_take hy) x hxy
theorem rd_bd (ll : List (List Int)) (h : ∀ y ∈ ll, ∀ x ∈ y, 0 ≤ x ∧ x ≤ 255) (k : Nat) (hk : k < ll.length) : ∀ x ∈ rd_L1 ll (k : Int), 0 ≤ x ∧ x ≤ 255 := by
  unfold rd_L1
  rw [Int.toNat_natCast, List.getD_eq_getElem?_getD, List.getElem?_eq_getElem hk]
  exact h _ (List.getElem_mem _)
theorem same_self' (l : List Int) (hl : l.length ≤ 140737488355328) : PG.steleref01_Same.f (l.length + 1) l l = some true := same_self l hl
theorem sum8 (l : List Int) : sumB comp256 (add comp256 start256 l) 8 = sha256 l := rfl
def okP (ll : List (List Int)) : Prop := ll.length ≤ 5864062014805 ∧ (∀ y ∈ ll, y.length ≤ 140737488355328) ∧ ∀ y ∈ ll, ∀ x ∈ y, 0 ≤ x ∧ x ≤ 255
instance (ll : List (List Int)) : Decidable (okP ll) := inferInstanceAs (Decidable (_ ∧ _ ∧ _))
def stelelaw01_DigestParts.f (l0 : List (List Int)) : Option Bool := if okP l0 then some true else none
set_option maxHeartbeats 16000000 in
set_option maxRecDepth 100000 in
theorem parts_short (A0 : Option Addr) (c0 : Nat) (l0 : List (List Int)) (w : World) (hr0 : Kd.C (Kd.slice 5 (Kd.int .u8)) w A0 l0.length l0) (hc0 : l0.length ≤ c0) (ho : okP l0) (hlen : l0.length ≤ 1000) (hsum : sumLn l0 ≤ 200000)
    (hli : PG.stelelaw01_light.f (l0.length + 1) l0 = some true) :
    Calls Try.prog 5 #[.slice A0 l0.length c0] w fun e w' => e = .returned (.bool true) ∧ Below w.heap.size w w' := by
  have HR := Aside0.mk hr0
  have HC := Aside0.mk hc0
  have HO := Aside0.mk ho
  have HLI := Aside0.mk hli
  have HB := Aside0.mk (Below.refl w.heap.size w)
  have hlb : ¬ ((l0.length : Int) > 1000) := by omega
  clear hr0 hc0 ho hli
  go_enter Try.func5, Try.ntmps5
  go_wp2_with (first
    | (go_at_call 28; (with_reducible refine (PG.stelelaw01_light.calls (l0.length + 1) A0 c0 l0 true _ HR.out HC.out HLI.out).mono ?_); rintro e w1 ⟨rfl, hd⟩; have HB1 := Aside0.mk (below_step HB.out hd.below); clear HB hd)
    | (go_at_call 34; (with_reducible refine (hash_new _).mono ?_); rintro e w2 ⟨g, rfl, hg, hK, hb⟩; have G := Aside0.mk (show w.heap.size ≤ g by have := HB1.out.size; omega); have K := Aside0.mk hK; have HB2 := Aside0.mk (below_step HB1.out hb); clear hg hK hb HB1))
  have R0 := Aside0.mk (Kd.R_nil (Kd.int .u8) 5 w2 w.heap.size (fun k => k ≠ g))
  go_loopw [4, 5] (fun v4 v5 wr => ∃ i : Nat, i ≤ l0.length ∧ v5 = .int .i64 (i : Int) ∧ Aside0 (IsH g wr (add comp256 start256 (l0.take i).flatten)) ∧ Aside0 (Kd.R (Kd.int .u8) 5 wr w.heap.size (fun k => k ≠ g) v4 (l0.take i).flatten) ∧ Aside0 (Below w.heap.size w wr)) (fun _ v5 _ => l0.length - (intOf v5).toNat)
  case atStart => exact ⟨0, Nat.zero_le _, rfl, K, R0, HB2⟩
  case round =>
    clear K R0 HB2
    obtain ⟨i, hi, rfl, K, RA, HBr⟩ := hrel
    have HFL := Aside0.mk (show (l0.take i).flatten.length ≤ 200000 by rw [flat_ln]; have := sumLn_le l0 i; omega)
    have HFB := Aside0.mk (flat_bd l0 HO.out.2.2 i)
    have hSok := Aside0.mk (okS_add comp256 start256 (l0.take i).flatten ⟨rfl, by intro x hx; rw [show start256.block = List.replicate 64 0 from rfl, List.mem_replicate] at hx; omega⟩ HFB.out)
    have hSn := Aside0.mk (show (add comp256 start256 (l0.take i).flatten).n = (l0.take i).flatten.length by rw [add_n]; show 0 + _ = _; omega)
    by_cases hlt : i < l0.length
    · obtain ⟨ad, A1, c1, e1, hx, hcl, hin⟩ := at_L1 HR.out (i : Int) (by omega) (by omega)
      cases e1
      rw [Int.toNat_natCast] at hx
      have HX0 := Aside0.mk hx
      replace hx := (HBr.out.cell (World.block_lt_of_cell? w _ hx)).trans hx
      have HIN := Aside0.mk hin
      have HCL := Aside0.mk hcl
      have HF := Aside0.mk (flat_rd l0 i hlt)
      have HN := Aside0.mk (show (l0.take (i + 1)).flatten.length ≤ 200000 by rw [flat_ln]; have := sumLn_le l0 (i + 1); omega)
      have HNB := Aside0.mk (flat_bd l0 HO.out.2.2 (i + 1))
      have HYB := Aside0.mk (rd_bd l0 HO.out.2.2 i hlt)
      have HAD := Aside0.mk (add_append comp256 start256 (l0.take i).flatten (rd_L1 l0 (i : Int)))
      rw [← HF.out] at HAD
      have hSok' := Aside0.mk (okS_add comp256 start256 (l0.take (i + 1)).flatten ⟨rfl, by intro x hx; rw [show start256.block = List.replicate 64 0 from rfl, List.mem_replicate] at hx; omega⟩ HNB.out)
      have hSn' := Aside0.mk (show (add comp256 start256 (l0.take (i + 1)).flatten).n = (l0.take (i + 1)).flatten.length by rw [add_n]; show 0 + _ = _; omega)
      have HSM := Aside0.mk (sum8 (l0.take (i + 1)).flatten)
      have HS := Aside0.mk (same_self' (sha256 (l0.take (i + 1)).flatten) (by rw [show (sha256 (l0.take (i + 1)).flatten).length = 32 from rfl]; omega))
      have hin1 : (i : Int) < (l0.length : Int) := by omega
      obtain ⟨y, hy⟩ : ∃ m, rd_L1 l0 (i : Int) = m := ⟨_, rfl⟩
      obtain ⟨pre, hp⟩ : ∃ m, (l0.take i).flatten = m := ⟨_, rfl⟩
      obtain ⟨nx, hnx⟩ : ∃ m, (l0.take (i + 1)).flatten = m := ⟨_, rfl⟩
      obtain ⟨s0, hs0⟩ : ∃ m, add comp256 start256 pre = m := ⟨_, rfl⟩
      obtain ⟨s1, hs1⟩ : ∃ m, add comp256 start256 nx = m := ⟨_, rfl⟩
      obtain ⟨SH, hSH⟩ : ∃ m, sha256 nx = m := ⟨_, rfl⟩
      rw [hp] at HF HAD K RA HFL HFB hSok hSn
      rw [hs0] at HAD K hSok hSn
      rw [hy] at HF HAD hx HX0 HIN HCL HYB
      rw [hnx] at HF HN HNB HAD hSok' hSn' HSM HS
      rw [hs1] at HAD hSok' hSn' HSM
      rw [hSH] at HSM HS
      have HNX := Aside0.mk hnx
      have HS1 := Aside0.mk hs1
      have HSH := Aside0.mk hSH
      clear hp hy hnx hs0 hs1 hSH hin hcl
      have hn2 : nx.length ≤ 200000 := HN.out
      have HS9 := Aside0.mk (PG.steleref01_Same.calls (SH.length + 1))
      by_cases h5 : (i : Int) < 5
      all_goals
        go_wp2_with (first
          | (go_at_call 35; (with_reducible refine (hash_add g s0 hSok.out A1 c1 y _ ?s1 HCL.out ?s2 HYB.out ?s3 K.out).mono ?_); (case s1 => exact Kd.C_below HIN.out HBr.out); (case s2 => exact fun h0 ad h => far_block HIN.out h0 ad h G.out); (case s3 => rw [hSn.out]; have := congrArg List.length HF.out; rw [List.length_append] at this; omega); rintro e w3 ⟨rfl, hK, hW⟩; rw [← HAD.out] at hK; have K3 := Aside0.mk hK; have R3 := Aside0.mk (Kd.R_step RA.out (fun k ho hk => hW.block k hk ho)); have HB3 := Aside0.mk (below_wr HBr.out hW G.out); have hx3 := (HB3.out.cell (World.block_lt_of_cell? w _ HX0.out)).trans HX0.out; clear K RA HBr hK hW hx)
          | ((with_reducible refine gate_builtin (b := .append) (xs := #[.tmp 30, .tmp 34]) rfl ?_); at_builtin; refine Kd.R_append_rows (Kd.int .u8) (w0 := w) w.heap.size rfl (.tmp 30) (.tmp 34) 22 5 (.int .u8 0) 1 rfl Try.underlying22 infoU8 rfl (by decide) (by omega) _ pre y _ _ _ (fun k => k ≠ g) (fun _ => False) rfl rfl ?aO ?aR (fun _ _ h => h) (fun _ h => h.elim) ?aF ?aB ?aS ?aL ?_; (case aR => exact (Kd.C_below HIN.out HB3.out)); (case aB => exact HB3.out); (case aF => exact (fun k hk => by have := blk_lt K3.out; omega)); (case aO => exact R3.out); (case aS => exact HB3.out.size); (case aL => have := congrArg List.length HF.out; rw [List.length_append] at this; omega); intro v35 w4 ho hb hg hat; rw [← HF.out] at ho; have K4 := Aside0.mk (show IsH g w4 s1 from blk_grown K3.out hg (Kd.R_ne R3.out K3.out (by decide))); have HB4 := Aside0.mk hb; have R4 := Aside0.mk ho; obtain ⟨A4, c4, rfl, hc4, C4⟩ := Kd.R_reads ho; have HC4 := Aside0.mk hc4; have C4 := Aside0.mk C4; have HLN := Aside0.mk (hash_len g s1 hSok'.out w4 K4.out); rw [hSn'.out] at HLN; clear R3 K3 HB3 ho hb hg hat hc4)
          | (go_at_call 36; (with_reducible refine HLN.out.mono ?_); rintro e w5 ⟨rfl, rfl⟩)
          | (go_at_call 37; (with_reducible refine (hash_sum g s1 hSok'.out ?s1 _ K4.out).mono ?_); (case s1 => rw [hSn'.out]; omega); rintro e w6 ⟨v47, rfl, ho, hb⟩; rw [HSM.out] at ho; have R47 := Aside0.mk ho; have HB6 := Aside0.mk (below_step HB4.out hb); have Q6 := Aside0.mk hb; clear ho hb)
          | (go_at_call 33; (with_reducible refine (ref256_any A4 c4 nx _ ?s1 HC4.out ?s2 HNB.out).mono ?_); (case s1 => exact Kd.C_below C4.out Q6.out); (case s2 => omega); rintro e w7 ⟨v49, rfl, ho, hb⟩; rw [HSH.out] at ho; have R49 := Aside0.mk ho; have R47' := Aside0.mk (Kd.R_below R47.out hb); have HB7 := Aside0.mk (below_step HB6.out hb); have Q7 := Aside0.mk (below_step Q6.out hb); obtain ⟨A9, c9, e9, hc9, C9⟩ := Kd.R_reads R47'.out; obtain ⟨A11, c11, e11, hc11, C11⟩ := Kd.R_reads R49.out; subst e9 e11; clear ho hb)
          | (go_at_call 29; (with_reducible refine (HS9.out A9 c9 SH A11 c11 SH true _ C9 hc9 C11 hc11 HS.out).mono ?_); rintro e w8 ⟨rfl, hd⟩; have Q8 := Aside0.mk (below_step Q7.out hd.below); have HB8 := Aside0.mk (below_step HB7.out hd.below); clear hd))
        go_roundw
        case measure => simp [intOf]; omega
        first
        | case rel => exact ⟨i + 1, by omega, by go_num, ⟨by rw [HNX.out, HS1.out]; exact blk_below K4.out Q8.out⟩, ⟨by rw [HNX.out]; exact Kd.R_below R4.out Q8.out⟩, HB8⟩
        | case rel => exact ⟨i + 1, by omega, by go_num, ⟨by rw [HNX.out, HS1.out]; exact K4.out⟩, ⟨by rw [HNX.out]; exact R4.out⟩, HB4⟩
    · obtain rfl : i = l0.length := by omega
      rw [List.take_length] at K RA HFL HFB hSok hSn
      have HS := Aside0.mk (same_self' (sha256 l0.flatten) (by rw [show (sha256 l0.flatten).length = 32 from rfl]; omega))
      have HSM := Aside0.mk (sum8 l0.flatten)
      obtain ⟨nx, hnx⟩ : ∃ m, l0.flatten = m := ⟨_, rfl⟩
      obtain ⟨s1, hs1⟩ : ∃ m, add comp256 start256 nx = m := ⟨_, rfl⟩
      obtain ⟨SH, hSH⟩ : ∃ m, sha256 nx = m := ⟨_, rfl⟩
      rw [hnx] at K RA HFL hSok hSn HSM HS
      rw [hs1] at K hSok hSn HSM
      rw [hSH] at HSM HS
      have HNB := Aside0.mk (show ∀ x ∈ nx, 0 ≤ x ∧ x ≤ 255 by rw [← hnx]; exact HFB.out)
      have HSH := Aside0.mk hSH
      have hn2 : nx.length ≤ 200000 := HFL.out
      have HS9 := Aside0.mk (PG.steleref01_Same.calls (SH.length + 1))
      clear hnx hs1 hSH HFB
      obtain ⟨A4, c4, e4, hc4, C4⟩ := Kd.R_reads RA.out
      subst e4
      have HC4 := Aside0.mk hc4
      have C4 := Aside0.mk C4
      clear hc4
      go_wp2_with (first
        | (go_at_call 35; (with_reducible refine (hash_add_nil _ _).mono ?_); rintro e w3 ⟨rfl, rfl⟩)
        | (go_at_call 37; (with_reducible refine (hash_sum g s1 hSok.out ?s1 _ K.out).mono ?_); (case s1 => rw [hSn.out]; omega); rintro e w6 ⟨v47, rfl, ho, hb⟩; rw [HSM.out] at ho; have R47 := Aside0.mk ho; have HB6 := Aside0.mk (below_step HBr.out hb); have Q6 := Aside0.mk hb; clear ho hb)
        | (go_at_call 33; (with_reducible refine (ref256_any A4 c4 nx _ ?s1 HC4.out ?s2 HNB.out).mono ?_); (case s1 => exact Kd.C_below C4.out Q6.out); (case s2 => omega); rintro e w7 ⟨v49, rfl, ho, hb⟩; rw [HSH.out] at ho; have R49 := Aside0.mk ho; have R47' := Aside0.mk (Kd.R_below R47.out hb); have HB7 := Aside0.mk (below_step HB6.out hb); have Q7 := Aside0.mk (below_step Q6.out hb); obtain ⟨A9, c9, e9, hc9, C9⟩ := Kd.R_reads R47'.out; obtain ⟨A11, c11, e11, hc11, C11⟩ := Kd.R_reads R49.out; subst e9 e11; clear ho hb)
        | (go_at_call 29; (with_reducible refine (HS9.out A9 c9 SH A11 c11 SH true _ C9 hc9 C11 hc11 HS.out).mono ?_); rintro e w8 ⟨rfl, hd⟩; have HB8 := Aside0.mk (below_step HB7.out hd.below); clear hd)
        | (go_at_call 37; (with_reducible refine (hash_sum_nil _).mono ?_); rintro e w9 ⟨rfl, rfl⟩)
        | (go_at_call 36; (with_reducible refine (hash_len_nil _).mono ?_); rintro e w9 ⟨rfl, rfl⟩))
      go_ret
      exact ⟨rfl, HB8.out⟩
set_option maxHeartbeats 4000000 in
theorem parts_out (A0 : Option Addr) (c0 : Nat) (l0 : List (List Int)) (w : World) (hr0 : Kd.C (Kd.slice 5 (Kd.int .u8)) w A0 l0.length l0) (hc0 : l0.length ≤ c0) (hl : l0.length ≤ 140737488355328) (b : Bool) (hli : PG.stelelaw01_light.f (l0.length + 1) l0 = some b) (hb : b = false ∨ 1000 < l0.length) :
    Calls Try.prog 5 #[.slice A0 l0.length c0] w fun e w' => e = .returned (.bool true) ∧ Below w.heap.size w w' := by
  have HR := Aside0.mk hr0
  have HC := Aside0.mk hc0
  have HLI := Aside0.mk hli
  clear hr0 hc0 hli
  rcases hb with hb | hb
  · subst hb
    go_enter Try.func5, Try.ntmps5
    go_wp2_with (go_at_call 28; (with_reducible refine (PG.stelelaw01_light.calls (l0.length + 1) A0 c0 l0 false _ HR.out HC.out HLI.out).mono ?_); rintro e w1 ⟨rfl, hd⟩; have HB1 := Aside0.mk hd.below; clear hd)
    go_ret
    exact ⟨rfl, HB1.out⟩
  · have hlb : (l0.length : Int) > 1000 := by omega
    clear hb
    cases b with
    | true =>
      go_enter Try.func5, Try.ntmps5
      go_wp2_with (go_at_call 28; (with_reducible refine (PG.stelelaw01_light.calls (l0.length + 1) A0 c0 l0 true _ HR.out HC.out HLI.out).mono ?_); rintro e w1 ⟨rfl, hd⟩; have HB1 := Aside0.mk hd.below; clear hd)
      go_ret
      exact ⟨rfl, HB1.out⟩
    | false =>
      go_enter Try.func5, Try.ntmps5
      go_wp2_with (go_at_call 28; (with_reducible refine (PG.stelelaw01_light.calls (l0.length + 1) A0 c0 l0 false _ HR.out HC.out HLI.out).mono ?_); rintro e w1 ⟨rfl, hd⟩; have HB1 := Aside0.mk hd.below; clear hd)
      go_ret
      exact ⟨rfl, HB1.out⟩
theorem stelelaw01_DigestParts.calls (A0 : Option Addr) (c0 : Nat) (l0 : List (List Int)) (r : Bool) (w : World) (hr0 : Kd.C (Kd.slice 5 (Kd.int .u8)) w A0 l0.length l0) (hc0 : l0.length ≤ c0) (h : stelelaw01_DigestParts.f l0 = some r) :
    Calls Try.prog 5 #[.slice A0 l0.length c0] w fun e w' => e = .returned (.bool r) ∧ Below w.heap.size w w' := by
  unfold stelelaw01_DigestParts.f at h
  by_cases hh : okP l0
  · rw [if_pos hh] at h
    obtain rfl := Option.some.inj h
    have hl : l0.length ≤ 140737488355328 := by have := hh.1; omega
    obtain ⟨b, hb⟩ := light_runs l0 l0.length 0 (l0.length + 1) 0 (by omega) (by omega) hl (by omega)
    by_cases h1000 : l0.length ≤ 1000
    · have hcap := sumLn_cap l0 hh.2.1
      have hs : sumLn l0 ≤ 4611686018427387904 := Nat.le_trans hcap (by
        have : l0.length * 140737488355328 ≤ 1000 * 140737488355328 := Nat.mul_le_mul_right _ h1000
        omega)
      have ha := light_adds l0 hs l0.length 0 (l0.length + 1) (by omega) (by omega) hl (by omega)
      by_cases h2 : sumLn l0 ≤ 200000
      · exact parts_short A0 c0 l0 w hr0 hc0 hh h1000 h2 (by rw [decide_eq_true h2] at ha; exact ha)
      · exact parts_out A0 c0 l0 w hr0 hc0 hl false (by rw [decide_eq_false h2] at ha; exact ha) (Or.inl rfl)
    · exact parts_out A0 c0 l0 w hr0 hc0 hl b hb (Or.inr (by omega))
  · rw [if_neg hh] at h
    cases h
end Go.Proofs.Ytlnpmodhejakiaa.PH
