/- steleref01.Hmac256, Hmac1; the laws' functions. -/
import Derived.Test.YtlnpmodhejakiaaMacB
import Derived.Test.YtlnpmodhejakiaaRefS
import Derived.Test.YtlnpmodhejakiaaLawA
import Derived.Test.YtlnpmodhejakiaaPIx1
namespace Go.Proofs.Ytlnpmodhejakiaa.D
open Go.RowKit Go.Proofs.YtlnpmodhejakiaaW.PrintWords Go.Proofs.YtlnpmodhejakiaaW.PrintLast Go.Proofs.YtlnpmodhejakiaaW.PrintMore Go.Proofs.Ytlnpmodhejakiaa.Sha
set_option linter.unusedVariables false
set_option linter.unusedSimpArgs false

def mixZ (l : List Int) (x : Int) (i : Nat) : List Int := ((pad64 l).take i).map (fun y => bits .xor .u8 y x) ++ List.replicate (64 - i) 0
theorem mixZ_len (l : List Int) (x : Int) (h : l.length ≤ 64) (i : Nat) (hi : i ≤ 64) : (mixZ l x i).length = 64 := by
  unfold mixZ; rw [List.length_append, List.length_map, List.length_take, pad64_len l h, List.length_replicate]; omega
theorem mixZ_set (l : List Int) (x : Int) (h : l.length ≤ 64) (i : Nat) (hi : i < 64) : (mixZ l x i).set i (bits .xor .u8 ((pad64 l).getD i 0) x) = mixZ l x (i + 1) := by
  unfold mixZ
  rw [List.set_append_right _ _ (by simp; omega), List.length_map, List.length_take, pad64_len l h, Nat.min_eq_left (by omega), Nat.sub_self]
  obtain ⟨m, hm⟩ : ∃ m, 64 - i = m + 1 := ⟨63 - i, by omega⟩
  rw [hm, List.replicate_succ, List.set_cons_zero, show 64 - (i + 1) = m by omega, List.take_succ_eq_append_getElem (by rw [pad64_len l h]; exact hi), List.map_append, List.append_assoc]
  simp [List.getD_eq_getElem?_getD, List.getElem?_eq_getElem (show i < (pad64 l).length by rw [pad64_len l h]; exact hi)]
theorem mixZ_at (l : List Int) (x : Int) (h : l.length ≤ 64) (i : Nat) (hi : i < 64) : (mixZ l x i).getD i 0 = 0 := by
  unfold mixZ
  rw [List.getD_eq_getElem?_getD, List.getElem?_append_right (by simp; omega), List.length_map, List.length_take, pad64_len l h, Nat.min_eq_left (by omega), Nat.sub_self, List.getElem?_replicate, if_pos (by omega)]
  rfl
theorem pad64_lo (l : List Int) (i : Nat) (hi : i < l.length) : (pad64 l).getD i 0 = l.getD i 0 := by
  unfold pad64; rw [List.getD_eq_getElem?_getD, List.getElem?_append_left hi, ← List.getD_eq_getElem?_getD]
theorem pad64_hi (l : List Int) (i : Nat) (hi : l.length ≤ i) (h : i < 64) : (pad64 l).getD i 0 = 0 := by
  unfold pad64; rw [List.getD_eq_getElem?_getD, List.getElem?_append_right hi, List.getElem?_replicate, if_pos (by omega)]; rfl
theorem block_l0 (l : List Int) (x : Int) (h : l.length ≤ 64) : ∀ (d i k : Nat), 64 - i = d → i ≤ 64 → d < k → PI.steleref01_block.l0 k l x (mixZ l x i) (i : Int) = some (padX l x) := by
  intro d
  induction d with
  | zero =>
    intro i k hd hi hk
    obtain ⟨k, rfl⟩ : ∃ m, k = m + 1 := ⟨k - 1, by omega⟩
    obtain rfl : i = 64 := by omega
    simp only [PI.steleref01_block.l0]
    rw [if_neg (by omega)]
    congr 1
    unfold mixZ padX
    rw [List.take_of_length_le (by rw [pad64_len l h]; omega), Nat.sub_self]
    simp
  | succ d ih =>
    intro i k hd hi hk
    obtain ⟨k, rfl⟩ : ∃ m, k = m + 1 := ⟨k - 1, by omega⟩
    have hs := ih (i + 1) k (by omega) (by omega) (by omega)
    have e : wrap64 ((i : Int) + 1) = ((i + 1 : Nat) : Int) := by unfold wrap64; omega
    have hl := mixZ_len l x h i hi
    have st := mixZ_set l x h i (by omega)
    simp only [PI.steleref01_block.l0]
    rw [if_pos (by omega)]
    by_cases hil : i < l.length
    · rw [if_pos (by omega), if_pos (by omega), if_pos (by rw [hl]; omega), Option.bind_some, Int.toNat_natCast, e, ← hs, ← st, pad64_lo l i hil]
      congr 1
      have e1 : rd ((mixZ l x i).set i (rd l (i : Int))) (i : Int) = l.getD i 0 := by
        unfold rd
        rw [Int.toNat_natCast, List.getD_eq_getElem?_getD, List.getElem?_set_self (by rw [hl]; omega)]
        rfl
      rw [e1, List.set_set]
    · rw [if_neg (by omega), if_pos (by omega), if_pos (by rw [hl]; omega), Int.toNat_natCast, e, ← hs, ← st, pad64_hi l i (by omega) (by omega)]
      congr 1
      have e1 : rd (mixZ l x i) (i : Int) = 0 := by unfold rd; rw [Int.toNat_natCast]; exact mixZ_at l x h i (by omega)
      rw [e1]
theorem block_eq (l : List Int) (x : Int) (h : l.length ≤ 64) : PI.steleref01_block.f 65 l x = some (padX l x) := by
  unfold PI.steleref01_block.f
  rw [if_pos (by omega)]
  have := block_l0 l x h 64 0 65 (by omega) (by omega) (by omega)
  rw [show mixZ l x 0 = List.replicate 64 0 by unfold mixZ; simp] at this
  exact this
set_option maxHeartbeats 16000000 in
set_option maxRecDepth 100000 in
theorem refHmac1_any (A0 : Option Addr) (c0 : Nat) (l0 : List Int) (A1 : Option Addr) (c1 : Nat) (l1 : List Int) (w : World) (hr0 : Kd.C (Kd.int .u8) w A0 l0.length l0) (hc0 : l0.length ≤ c0) (hb0 : okR l0) (hr1 : Kd.C (Kd.int .u8) w A1 l1.length l1) (hc1 : l1.length ≤ c1) (hb1 : okR l1) (hsz : l1.length ≤ 140737488330000) :
    Calls Try.prog 39 #[.slice A0 l0.length c0, .slice A1 l1.length c1] w fun e w' => ∃ v0_ : Value, e = .returned v0_ ∧ Kd.R (Kd.int .u8) 5 w' w.heap.size (fun _ => True) v0_ (hmacL sha1 l0 l1) ∧ Below w.heap.size w w' := by
  have HR0 := Aside0.mk hr0
  have HC0 := Aside0.mk hc0
  have HB0 := Aside0.mk hb0
  have HR1 := Aside0.mk hr1
  have HC1 := Aside0.mk hc1
  have HB1 := Aside0.mk hb1
  have HSZ := Aside0.mk hsz
  clear hr0 hc0 hb0 hr1 hc1 hb1 hsz
  have HB := Aside0.mk (Below.refl w.heap.size w)
  have hmac : ∀ k : List Int, (if 64 < l0.length then sha1 l0 else l0) = k → hmacL sha1 l0 l1 = sha1 (padX k 92 ++ sha1 (padX k 54 ++ l1)) := fun k hk => by unfold hmacL; rw [hk]
  have HM := Aside0.mk hmac
  clear hmac
  by_cases hbig : 64 < l0.length
  · have hb64 : ((l0.length : Int) > 64) := by omega
    have HM2 := Aside0.mk (HM.out (sha1 l0) (if_pos hbig))
    clear HM hbig
    have hlen := sha1_len' l0
    have hbd := Aside0.mk (sha1_bd l0)
    obtain ⟨kk, hkk⟩ : ∃ k, sha1 l0 = k := ⟨_, rfl⟩
    rw [hkk] at HM2 hlen hbd
    have HKK := Aside0.mk hkk
    clear hkk
    have hk64 : kk.length ≤ 64 := by omega
    clear hlen
    have hS := Aside0.mk (sha1_len' (padX kk 54 ++ l1))
    have hSB := Aside0.mk (sha1_bd (padX kk 54 ++ l1))
    have F1 := Aside0.mk (show steleref01_Sha1.f (padX kk 54 ++ l1) = some (sha1 (padX kk 54 ++ l1)) from if_pos (show okR (padX kk 54 ++ l1) from ⟨by simp only [List.length_append, padX_len kk 54 hk64]; have := HSZ.out; omega, fun x hx => by rcases List.mem_append.1 hx with hx | hx; exact padX_bd _ _ x hx; exact HB1.out.2 x hx⟩))
    obtain ⟨SH, hSH⟩ : ∃ X, sha1 (padX kk 54 ++ l1) = X := ⟨_, rfl⟩
    rw [hSH] at hS hSB HM2 F1
    clear hSH
    have F2 := Aside0.mk (show steleref01_Sha1.f (padX kk 92 ++ SH) = some (sha1 (padX kk 92 ++ SH)) from if_pos (show okR (padX kk 92 ++ SH) from ⟨by simp only [List.length_append, padX_len kk 92 hk64, hS.out]; omega, fun x hx => by rcases List.mem_append.1 hx with hx | hx; exact padX_bd _ _ x hx; exact hSB.out x hx⟩))
    have F0 := Aside0.mk (show steleref01_Sha1.f l0 = some kk by unfold steleref01_Sha1.f; rw [if_pos HB0.out, HKK.out])
    go_enter Try.func39, Try.ntmps39
    go_wp2_with (first
      | ((with_reducible refine gate_dst (N := 9) rfl ?_); refine goesL_ (some 9) rfl rfl Try.func31 (by kernel_rfl) rfl #[.slice A0 l0.length c0] rfl (by (try simp only [List.map_toArray, List.map_cons, List.map_nil]); first | done | rfl) ?_; (with_reducible refine (steleref01_Sha1.calls A0 c0 l0 kk _ HR0.out HC0.out F0.out).mono ?_); rintro e wk ⟨vk, rfl, ho, hb⟩; obtain ⟨Ak, ck, rfl, hck, hCk⟩ := Kd.R_reads ho; have HRk := Aside0.mk hCk; have HCk := Aside0.mk hck; have hb_ := Aside0.mk hb; clear HB ho hb hCk hck; have HB := hb_; clear hb_; refine ⟨_, rfl, ?_⟩)
      | ((with_reducible refine gate_dst (N := 11) rfl ?_); refine goesL_ (some 11) rfl rfl Try.func129 (by kernel_rfl) rfl #[.slice Ak kk.length ck, .int .u8 92] rfl (by (try simp only [List.map_toArray, List.map_cons, List.map_nil]); first | done | rfl) ?_; (with_reducible refine (PI.steleref01_block.calls 65 Ak ck kk 92 (padX kk 92) _ HRk.out HCk.out (block_eq kk 92 hk64)).mono ?_); rintro e wa ⟨va, rfl, ho, hb⟩; have HRk2 := Aside0.mk (Kd.C_below HRk.out hb); have Oa := Aside0.mk (Kd.R_lower ho HB.out.size); have HBa := Aside0.mk (below_step HB.out hb); clear HB HRk ho hb; refine ⟨_, rfl, ?_⟩)
      | ((with_reducible refine gate_dst (N := 13) rfl ?_); refine goesL_ (some 13) rfl rfl Try.func129 (by kernel_rfl) rfl #[.slice Ak kk.length ck, .int .u8 54] rfl (by (try simp only [List.map_toArray, List.map_cons, List.map_nil]); first | done | rfl) ?_; (with_reducible refine (PI.steleref01_block.calls 65 Ak ck kk 54 (padX kk 54) _ HRk2.out HCk.out (block_eq kk 54 hk64)).mono ?_); rintro e wb ⟨vb, rfl, ho, hb⟩; have Ob := Aside0.mk ho; have Sb := Aside0.mk hb; clear ho hb HRk2; refine ⟨_, rfl, ?_⟩)
      | ((with_reducible refine gate_builtin (b := .append) (xs := #[.tmp 13, .tmp 14]) rfl ?_); at_builtin; refine Kd.R_append_rows (Kd.int .u8) (w0 := wa) wa.heap.size rfl (.tmp 13) (.tmp 14) 22 5 (.int .u8 0) 1 rfl Try.underlying22 infoU8c rfl (by decide) (by omega) vb (padX kk 54) l1 _ _ _ (fun _ => True) (fun _ => False) rfl rfl ?aO ?aR (fun _ _ h => h) (fun _ h => h.elim) ?aF ?aB ?aS ?aL ?_; (case aR => exact (Kd.C_below (Kd.C_below HR1.out HBa.out) Sb.out)); (case aB => exact Sb.out); (case aF => exact (fun _ _ => trivial)); (case aO => exact Ob.out); (case aS => exact Sb.out.size); (case aL => rw [padX_len _ _ hk64]; have := HSZ.out; omega); intro vc wc ho hb hg hat; have Oc := Aside0.mk ho; have Sc := Aside0.mk hb; obtain ⟨Ac, cc, rfl, hcc, hCc⟩ := Kd.R_reads ho; have RC := Aside0.mk hCc; have CC := Aside0.mk hcc; clear ho hb hg hat Ob Sb hcc hCc)
      | ((with_reducible refine gate_dst (N := 16) rfl ?_); refine goesL_ (some 16) rfl rfl Try.func31 (by kernel_rfl) rfl #[.slice Ac (padX kk 54 ++ l1).length cc] rfl (by (try simp only [List.map_toArray, List.map_cons, List.map_nil]); first | done | rfl) ?_; (with_reducible refine (steleref01_Sha1.calls Ac cc (padX kk 54 ++ l1) SH _ RC.out CC.out F1.out).mono ?_); rintro e wd ⟨vd, rfl, ho, hb⟩; have Sd := Aside0.mk (below_step Sc.out hb); obtain ⟨Ad, cd, rfl, hcd, hCd⟩ := Kd.R_reads ho; have RD := Aside0.mk hCd; have CD := Aside0.mk hcd; clear ho hb hcd hCd Oc RC CC Sc; refine ⟨_, rfl, ?_⟩)
      | ((with_reducible refine gate_builtin (b := .append) (xs := #[.tmp 11, .tmp 16]) rfl ?_); at_builtin; refine Kd.R_append_rows (Kd.int .u8) (w0 := w) w.heap.size rfl (.tmp 11) (.tmp 16) 22 5 (.int .u8 0) 1 rfl Try.underlying22 infoU8c rfl (by decide) (by omega) va (padX kk 92) SH _ _ _ (fun _ => True) (fun _ => False) rfl rfl ?aO ?aR (fun _ _ h => h) (fun _ h => h.elim) ?aF ?aB ?aS ?aL ?_; (case aR => exact RD.out); (case aB => exact (below_step HBa.out Sd.out)); (case aF => exact (fun _ _ => trivial)); (case aO => exact (Kd.R_below Oa.out Sd.out)); (case aS => exact (below_step HBa.out Sd.out).size); (case aL => rw [padX_len _ _ hk64, hS.out]; omega); intro ve we ho hb hg hat; have HBe := Aside0.mk hb; obtain ⟨Ae, ce, rfl, hce, hCe⟩ := Kd.R_reads ho; have RE := Aside0.mk hCe; have CE := Aside0.mk hce; clear ho hb hg hat Oa RD CD Sd HBa hce hCe)
      | ((with_reducible refine gate_dst (N := 18) rfl ?_); refine goesL_ (some 18) rfl rfl Try.func31 (by kernel_rfl) rfl #[.slice Ae (padX kk 92 ++ SH).length ce] rfl (by (try simp only [List.map_toArray, List.map_cons, List.map_nil]); first | done | rfl) ?_; (with_reducible refine (steleref01_Sha1.calls Ae ce (padX kk 92 ++ SH) (sha1 (padX kk 92 ++ SH)) _ RE.out CE.out F2.out).mono ?_); rintro e wf ⟨vf, rfl, ho, hb⟩; have HBf := Aside0.mk (below_step HBe.out hb); have RF := Aside0.mk (Kd.R_lower ho HBe.out.size); rw [← HM2.out] at RF; clear ho hb RE CE HBe; refine ⟨_, rfl, ?_⟩)
      )
    go_ret
    exact ⟨_, rfl, RF.out, HBf.out⟩
  · have hb64 : ¬ ((l0.length : Int) > 64) := by omega
    have HM2 := Aside0.mk (HM.out l0 (if_neg hbig))
    have hbd := Aside0.mk HB0.out.2
    have hk64 : l0.length ≤ 64 := by omega
    have HRk := HR0
    have HCk := HC0
    clear HM hbig
    have hS := Aside0.mk (sha1_len' (padX l0 54 ++ l1))
    have hSB := Aside0.mk (sha1_bd (padX l0 54 ++ l1))
    have F1 := Aside0.mk (show steleref01_Sha1.f (padX l0 54 ++ l1) = some (sha1 (padX l0 54 ++ l1)) from if_pos (show okR (padX l0 54 ++ l1) from ⟨by simp only [List.length_append, padX_len l0 54 hk64]; have := HSZ.out; omega, fun x hx => by rcases List.mem_append.1 hx with hx | hx; exact padX_bd _ _ x hx; exact HB1.out.2 x hx⟩))
    obtain ⟨SH, hSH⟩ : ∃ X, sha1 (padX l0 54 ++ l1) = X := ⟨_, rfl⟩
    rw [hSH] at hS hSB HM2 F1
    clear hSH
    have F2 := Aside0.mk (show steleref01_Sha1.f (padX l0 92 ++ SH) = some (sha1 (padX l0 92 ++ SH)) from if_pos (show okR (padX l0 92 ++ SH) from ⟨by simp only [List.length_append, padX_len l0 92 hk64, hS.out]; omega, fun x hx => by rcases List.mem_append.1 hx with hx | hx; exact padX_bd _ _ x hx; exact hSB.out x hx⟩))
    go_enter Try.func39, Try.ntmps39
    go_wp2_with (first
      | ((with_reducible refine gate_dst (N := 11) rfl ?_); refine goesL_ (some 11) rfl rfl Try.func129 (by kernel_rfl) rfl #[.slice A0 l0.length c0, .int .u8 92] rfl (by (try simp only [List.map_toArray, List.map_cons, List.map_nil]); first | done | rfl) ?_; (with_reducible refine (PI.steleref01_block.calls 65 A0 c0 l0 92 (padX l0 92) _ HRk.out HCk.out (block_eq l0 92 hk64)).mono ?_); rintro e wa ⟨va, rfl, ho, hb⟩; have HRk2 := Aside0.mk (Kd.C_below HRk.out hb); have Oa := Aside0.mk (Kd.R_lower ho HB.out.size); have HBa := Aside0.mk (below_step HB.out hb); clear HB HRk ho hb; refine ⟨_, rfl, ?_⟩)
      | ((with_reducible refine gate_dst (N := 13) rfl ?_); refine goesL_ (some 13) rfl rfl Try.func129 (by kernel_rfl) rfl #[.slice A0 l0.length c0, .int .u8 54] rfl (by (try simp only [List.map_toArray, List.map_cons, List.map_nil]); first | done | rfl) ?_; (with_reducible refine (PI.steleref01_block.calls 65 A0 c0 l0 54 (padX l0 54) _ HRk2.out HCk.out (block_eq l0 54 hk64)).mono ?_); rintro e wb ⟨vb, rfl, ho, hb⟩; have Ob := Aside0.mk ho; have Sb := Aside0.mk hb; clear ho hb HRk2; refine ⟨_, rfl, ?_⟩)
      | ((with_reducible refine gate_builtin (b := .append) (xs := #[.tmp 13, .tmp 14]) rfl ?_); at_builtin; refine Kd.R_append_rows (Kd.int .u8) (w0 := wa) wa.heap.size rfl (.tmp 13) (.tmp 14) 22 5 (.int .u8 0) 1 rfl Try.underlying22 infoU8c rfl (by decide) (by omega) vb (padX l0 54) l1 _ _ _ (fun _ => True) (fun _ => False) rfl rfl ?aO ?aR (fun _ _ h => h) (fun _ h => h.elim) ?aF ?aB ?aS ?aL ?_; (case aR => exact (Kd.C_below (Kd.C_below HR1.out HBa.out) Sb.out)); (case aB => exact Sb.out); (case aF => exact (fun _ _ => trivial)); (case aO => exact Ob.out); (case aS => exact Sb.out.size); (case aL => rw [padX_len _ _ hk64]; have := HSZ.out; omega); intro vc wc ho hb hg hat; have Oc := Aside0.mk ho; have Sc := Aside0.mk hb; obtain ⟨Ac, cc, rfl, hcc, hCc⟩ := Kd.R_reads ho; have RC := Aside0.mk hCc; have CC := Aside0.mk hcc; clear ho hb hg hat Ob Sb hcc hCc)
      | ((with_reducible refine gate_dst (N := 16) rfl ?_); refine goesL_ (some 16) rfl rfl Try.func31 (by kernel_rfl) rfl #[.slice Ac (padX l0 54 ++ l1).length cc] rfl (by (try simp only [List.map_toArray, List.map_cons, List.map_nil]); first | done | rfl) ?_; (with_reducible refine (steleref01_Sha1.calls Ac cc (padX l0 54 ++ l1) SH _ RC.out CC.out F1.out).mono ?_); rintro e wd ⟨vd, rfl, ho, hb⟩; have Sd := Aside0.mk (below_step Sc.out hb); obtain ⟨Ad, cd, rfl, hcd, hCd⟩ := Kd.R_reads ho; have RD := Aside0.mk hCd; have CD := Aside0.mk hcd; clear ho hb hcd hCd Oc RC CC Sc; refine ⟨_, rfl, ?_⟩)
      | ((with_reducible refine gate_builtin (b := .append) (xs := #[.tmp 11, .tmp 16]) rfl ?_); at_builtin; refine Kd.R_append_rows (Kd.int .u8) (w0 := w) w.heap.size rfl (.tmp 11) (.tmp 16) 22 5 (.int .u8 0) 1 rfl Try.underlying22 infoU8c rfl (by decide) (by omega) va (padX l0 92) SH _ _ _ (fun _ => True) (fun _ => False) rfl rfl ?aO ?aR (fun _ _ h => h) (fun _ h => h.elim) ?aF ?aB ?aS ?aL ?_; (case aR => exact RD.out); (case aB => exact (below_step HBa.out Sd.out)); (case aF => exact (fun _ _ => trivial)); (case aO => exact (Kd.R_below Oa.out Sd.out)); (case aS => exact (below_step HBa.out Sd.out).size); (case aL => rw [padX_len _ _ hk64, hS.out]; omega); intro ve we ho hb hg hat; have HBe := Aside0.mk hb; obtain ⟨Ae, ce, rfl, hce, hCe⟩ := Kd.R_reads ho; have RE := Aside0.mk hCe; have CE := Aside0.mk hce; clear ho hb hg hat Oa RD CD Sd HBa hce hCe)
      | ((with_reducible refine gate_dst (N := 18) rfl ?_); refine goesL_ (some 18) rfl rfl Try.func31 (by kernel_rfl) rfl #[.slice Ae (padX l0 92 ++ SH).length ce] rfl (by (try simp only [List.map_toArray, List.map_cons, List.map_nil]); first | done | rfl) ?_; (with_reducible refine (steleref01_Sha1.calls Ae ce (padX l0 92 ++ SH) (sha1 (padX l0 92 ++ SH)) _ RE.out CE.out F2.out).mono ?_); rintro e wf ⟨vf, rfl, ho, hb⟩; have HBf := Aside0.mk (below_step HBe.out hb); have RF := Aside0.mk (Kd.R_lower ho HBe.out.size); rw [← HM2.out] at RF; clear ho hb RE CE HBe; refine ⟨_, rfl, ?_⟩)
      )
    go_ret
    exact ⟨_, rfl, RF.out, HBf.out⟩
set_option maxHeartbeats 16000000 in
set_option maxRecDepth 100000 in
theorem refHmac256_any (A0 : Option Addr) (c0 : Nat) (l0 : List Int) (A1 : Option Addr) (c1 : Nat) (l1 : List Int) (w : World) (hr0 : Kd.C (Kd.int .u8) w A0 l0.length l0) (hc0 : l0.length ≤ c0) (hb0 : okR l0) (hr1 : Kd.C (Kd.int .u8) w A1 l1.length l1) (hc1 : l1.length ≤ c1) (hb1 : okR l1) (hsz : l1.length ≤ 140737488330000) :
    Calls Try.prog 41 #[.slice A0 l0.length c0, .slice A1 l1.length c1] w fun e w' => ∃ v0_ : Value, e = .returned v0_ ∧ Kd.R (Kd.int .u8) 5 w' w.heap.size (fun _ => True) v0_ (hmacL sha256 l0 l1) ∧ Below w.heap.size w w' := by
  have HR0 := Aside0.mk hr0
  have HC0 := Aside0.mk hc0
  have HB0 := Aside0.mk hb0
  have HR1 := Aside0.mk hr1
  have HC1 := Aside0.mk hc1
  have HB1 := Aside0.mk hb1
  have HSZ := Aside0.mk hsz
  clear hr0 hc0 hb0 hr1 hc1 hb1 hsz
  have HB := Aside0.mk (Below.refl w.heap.size w)
  have hmac : ∀ k : List Int, (if 64 < l0.length then sha256 l0 else l0) = k → hmacL sha256 l0 l1 = sha256 (padX k 92 ++ sha256 (padX k 54 ++ l1)) := fun k hk => by unfold hmacL; rw [hk]
  have HM := Aside0.mk hmac
  clear hmac
  by_cases hbig : 64 < l0.length
  · have hb64 : ((l0.length : Int) > 64) := by omega
    have HM2 := Aside0.mk (HM.out (sha256 l0) (if_pos hbig))
    clear HM hbig
    have hlen := sha256_len' l0
    have hbd := Aside0.mk (sha256_bd l0)
    obtain ⟨kk, hkk⟩ : ∃ k, sha256 l0 = k := ⟨_, rfl⟩
    rw [hkk] at HM2 hlen hbd
    have HKK := Aside0.mk hkk
    clear hkk
    have hk64 : kk.length ≤ 64 := by omega
    clear hlen
    have hS := Aside0.mk (sha256_len' (padX kk 54 ++ l1))
    have hSB := Aside0.mk (sha256_bd (padX kk 54 ++ l1))
    have F1 := Aside0.mk (show steleref01_Sha256.f (padX kk 54 ++ l1) = some (sha256 (padX kk 54 ++ l1)) from if_pos (show okR (padX kk 54 ++ l1) from ⟨by simp only [List.length_append, padX_len kk 54 hk64]; have := HSZ.out; omega, fun x hx => by rcases List.mem_append.1 hx with hx | hx; exact padX_bd _ _ x hx; exact HB1.out.2 x hx⟩))
    obtain ⟨SH, hSH⟩ : ∃ X, sha256 (padX kk 54 ++ l1) = X := ⟨_, rfl⟩
    rw [hSH] at hS hSB HM2 F1
    clear hSH
    have F2 := Aside0.mk (show steleref01_Sha256.f (padX kk 92 ++ SH) = some (sha256 (padX kk 92 ++ SH)) from if_pos (show okR (padX kk 92 ++ SH) from ⟨by simp only [List.length_append, padX_len kk 92 hk64, hS.out]; omega, fun x hx => by rcases List.mem_append.1 hx with hx | hx; exact padX_bd _ _ x hx; exact hSB.out x hx⟩))
    have F0 := Aside0.mk (show steleref01_Sha256.f l0 = some kk by unfold steleref01_Sha256.f; rw [if_pos HB0.out, HKK.out])
    go_enter Try.func41, Try.ntmps41
    go_wp2_with (first
      | ((with_reducible refine gate_dst (N := 9) rfl ?_); refine goesL_ (some 9) rfl rfl Try.func33 (by kernel_rfl) rfl #[.slice A0 l0.length c0] rfl (by (try simp only [List.map_toArray, List.map_cons, List.map_nil]); first | done | rfl) ?_; (with_reducible refine (steleref01_Sha256.calls A0 c0 l0 kk _ HR0.out HC0.out F0.out).mono ?_); rintro e wk ⟨vk, rfl, ho, hb⟩; obtain ⟨Ak, ck, rfl, hck, hCk⟩ := Kd.R_reads ho; have HRk := Aside0.mk hCk; have HCk := Aside0.mk hck; have hb_ := Aside0.mk hb; clear HB ho hb hCk hck; have HB := hb_; clear hb_; refine ⟨_, rfl, ?_⟩)
      | ((with_reducible refine gate_dst (N := 11) rfl ?_); refine goesL_ (some 11) rfl rfl Try.func129 (by kernel_rfl) rfl #[.slice Ak kk.length ck, .int .u8 92] rfl (by (try simp only [List.map_toArray, List.map_cons, List.map_nil]); first | done | rfl) ?_; (with_reducible refine (PI.steleref01_block.calls 65 Ak ck kk 92 (padX kk 92) _ HRk.out HCk.out (block_eq kk 92 hk64)).mono ?_); rintro e wa ⟨va, rfl, ho, hb⟩; have HRk2 := Aside0.mk (Kd.C_below HRk.out hb); have Oa := Aside0.mk (Kd.R_lower ho HB.out.size); have HBa := Aside0.mk (below_step HB.out hb); clear HB HRk ho hb; refine ⟨_, rfl, ?_⟩)
      | ((with_reducible refine gate_dst (N := 13) rfl ?_); refine goesL_ (some 13) rfl rfl Try.func129 (by kernel_rfl) rfl #[.slice Ak kk.length ck, .int .u8 54] rfl (by (try simp only [List.map_toArray, List.map_cons, List.map_nil]); first | done | rfl) ?_; (with_reducible refine (PI.steleref01_block.calls 65 Ak ck kk 54 (padX kk 54) _ HRk2.out HCk.out (block_eq kk 54 hk64)).mono ?_); rintro e wb ⟨vb, rfl, ho, hb⟩; have Ob := Aside0.mk ho; have Sb := Aside0.mk hb; clear ho hb HRk2; refine ⟨_, rfl, ?_⟩)
      | ((with_reducible refine gate_builtin (b := .append) (xs := #[.tmp 13, .tmp 14]) rfl ?_); at_builtin; refine Kd.R_append_rows (Kd.int .u8) (w0 := wa) wa.heap.size rfl (.tmp 13) (.tmp 14) 22 5 (.int .u8 0) 1 rfl Try.underlying22 infoU8c rfl (by decide) (by omega) vb (padX kk 54) l1 _ _ _ (fun _ => True) (fun _ => False) rfl rfl ?aO ?aR (fun _ _ h => h) (fun _ h => h.elim) ?aF ?aB ?aS ?aL ?_; (case aR => exact (Kd.C_below (Kd.C_below HR1.out HBa.out) Sb.out)); (case aB => exact Sb.out); (case aF => exact (fun _ _ => trivial)); (case aO => exact Ob.out); (case aS => exact Sb.out.size); (case aL => rw [padX_len _ _ hk64]; have := HSZ.out; omega); intro vc wc ho hb hg hat; have Oc := Aside0.mk ho; have Sc := Aside0.mk hb; obtain ⟨Ac, cc, rfl, hcc, hCc⟩ := Kd.R_reads ho; have RC := Aside0.mk hCc; have CC := Aside0.mk hcc; clear ho hb hg hat Ob Sb hcc hCc)
      | ((with_reducible refine gate_dst (N := 16) rfl ?_); refine goesL_ (some 16) rfl rfl Try.func33 (by kernel_rfl) rfl #[.slice Ac (padX kk 54 ++ l1).length cc] rfl (by (try simp only [List.map_toArray, List.map_cons, List.map_nil]); first | done | rfl) ?_; (with_reducible refine (steleref01_Sha256.calls Ac cc (padX kk 54 ++ l1) SH _ RC.out CC.out F1.out).mono ?_); rintro e wd ⟨vd, rfl, ho, hb⟩; have Sd := Aside0.mk (below_step Sc.out hb); obtain ⟨Ad, cd, rfl, hcd, hCd⟩ := Kd.R_reads ho; have RD := Aside0.mk hCd; have CD := Aside0.mk hcd; clear ho hb hcd hCd Oc RC CC Sc; refine ⟨_, rfl, ?_⟩)
      | ((with_reducible refine gate_builtin (b := .append) (xs := #[.tmp 11, .tmp 16]) rfl ?_); at_builtin; refine Kd.R_append_rows (Kd.int .u8) (w0 := w) w.heap.size rfl (.tmp 11) (.tmp 16) 22 5 (.int .u8 0) 1 rfl Try.underlying22 infoU8c rfl (by decide) (by omega) va (padX kk 92) SH _ _ _ (fun _ => True) (fun _ => False) rfl rfl ?aO ?aR (fun _ _ h => h) (fun _ h => h.elim) ?aF ?aB ?aS ?aL ?_; (case aR => exact RD.out); (case aB => exact (below_step HBa.out Sd.out)); (case aF => exact (fun _ _ => trivial)); (case aO => exact (Kd.R_below Oa.out Sd.out)); (case aS => exact (below_step HBa.out Sd.out).size); (case aL => rw [padX_len _ _ hk64, hS.out]; omega); intro ve we ho hb hg hat; have HBe := Aside0.mk hb; obtain ⟨Ae, ce, rfl, hce, hCe⟩ := Kd.R_reads ho; have RE := Aside0.mk hCe; have CE := Aside0.mk hce; clear ho hb hg hat Oa RD CD Sd HBa hce hCe)
      | ((with_reducible refine gate_dst (N := 18) rfl ?_); refine goesL_ (some 18) rfl rfl Try.func33 (by kernel_rfl) rfl #[.slice Ae (padX kk 92 ++ SH).length ce] rfl (by (try simp only [List.map_toArray, List.map_cons, List.map_nil]); first | done | rfl) ?_; (with_reducible refine (steleref01_Sha256.calls Ae ce (padX kk 92 ++ SH) (sha256 (padX kk 92 ++ SH)) _ RE.out CE.out F2.out).mono ?_); rintro e wf ⟨vf, rfl, ho, hb⟩; have HBf := Aside0.mk (below_step HBe.out hb); have RF := Aside0.mk (Kd.R_lower ho HBe.out.size); rw [← HM2.out] at RF; clear ho hb RE CE HBe; refine ⟨_, rfl, ?_⟩)
      )
    go_ret
    exact ⟨_, rfl, RF.out, HBf.out⟩
  · have hb64 : ¬ ((l0.length : Int) > 64) := by omega
    have HM2 := Aside0.mk (HM.out l0 (if_neg hbig))
    have hbd := Aside0.mk HB0.out.2
    have hk64 : l0.length ≤ 64 := by omega
    have HRk := HR0
    have HCk := HC0
    clear HM hbig
    have hS := Aside0.mk (sha256_len' (padX l0 54 ++ l1))
    have hSB := Aside0.mk (sha256_bd (padX l0 54 ++ l1))
    have F1 := Aside0.mk (show steleref01_Sha256.f (padX l0 54 ++ l1) = some (sha256 (padX l0 54 ++ l1)) from if_pos (show okR (padX l0 54 ++ l1) from ⟨by simp only [List.length_append, padX_len l0 54 hk64]; have := HSZ.out; omega, fun x hx => by rcases List.mem_append.1 hx with hx | hx; exact padX_bd _ _ x hx; exact HB1.out.2 x hx⟩))
    obtain ⟨SH, hSH⟩ : ∃ X, sha256 (padX l0 54 ++ l1) = X := ⟨_, rfl⟩
    rw [hSH] at hS hSB HM2 F1
    clear hSH
    have F2 := Aside0.mk (show steleref01_Sha256.f (padX l0 92 ++ SH) = some (sha256 (padX l0 92 ++ SH)) from if_pos (show okR (padX l0 92 ++ SH) from ⟨by simp only [List.length_append, padX_len l0 92 hk64, hS.out]; omega, fun x hx => by rcases List.mem_append.1 hx with hx | hx; exact padX_bd _ _ x hx; exact hSB.out x hx⟩))
    go_enter Try.func41, Try.ntmps41
    go_wp2_with (first
      | ((with_reducible refine gate_dst (N := 11) rfl ?_); refine goesL_ (some 11) rfl rfl Try.func129 (by kernel_rfl) rfl #[.slice A0 l0.length c0, .int .u8 92] rfl (by (try simp only [List.map_toArray, List.map_cons, List.map_nil]); first | done | rfl) ?_; (with_reducible refine (PI.steleref01_block.calls 65 A0 c0 l0 92 (padX l0 92) _ HRk.out HCk.out (block_eq l0 92 hk64)).mono ?_); rintro e wa ⟨va, rfl, ho, hb⟩; have HRk2 := Aside0.mk (Kd.C_below HRk.out hb); have Oa := Aside0.mk (Kd.R_lower ho HB.out.size); have HBa := Aside0.mk (below_step HB.out hb); clear HB HRk ho hb; refine ⟨_, rfl, ?_⟩)
      | ((with_reducible refine gate_dst (N := 13) rfl ?_); refine goesL_ (some 13) rfl rfl Try.func129 (by kernel_rfl) rfl #[.slice A0 l0.length c0, .int .u8 54] rfl (by (try simp only [List.map_toArray, List.map_cons, List.map_nil]); first | done | rfl) ?_; (with_reducible refine (PI.steleref01_block.calls 65 A0 c0 l0 54 (padX l0 54) _ HRk2.out HCk.out (block_eq l0 54 hk64)).mono ?_); rintro e wb ⟨vb, rfl, ho, hb⟩; have Ob := Aside0.mk ho; have Sb := Aside0.mk hb; clear ho hb HRk2; refine ⟨_, rfl, ?_⟩)
      | ((with_reducible refine gate_builtin (b := .append) (xs := #[.tmp 13, .tmp 14]) rfl ?_); at_builtin; refine Kd.R_append_rows (Kd.int .u8) (w0 := wa) wa.heap.size rfl (.tmp 13) (.tmp 14) 22 5 (.int .u8 0) 1 rfl Try.underlying22 infoU8c rfl (by decide) (by omega) vb (padX l0 54) l1 _ _ _ (fun _ => True) (fun _ => False) rfl rfl ?aO ?aR (fun _ _ h => h) (fun _ h => h.elim) ?aF ?aB ?aS ?aL ?_; (case aR => exact (Kd.C_below (Kd.C_below HR1.out HBa.out) Sb.out)); (case aB => exact Sb.out); (case aF => exact (fun _ _ => trivial)); (case aO => exact Ob.out); (case aS => exact Sb.out.size); (case aL => rw [padX_len _ _ hk64]; have := HSZ.out; omega); intro vc wc ho hb hg hat; have Oc := Aside0.mk ho; have Sc := Aside0.mk hb; obtain ⟨Ac, cc, rfl, hcc, hCc⟩ := Kd.R_reads ho; have RC := Aside0.mk hCc; have CC := Aside0.mk hcc; clear ho hb hg hat Ob Sb hcc hCc)
      | ((with_reducible refine gate_dst (N := 16) rfl ?_); refine goesL_ (some 16) rfl rfl Try.func33 (by kernel_rfl) rfl #[.slice Ac (padX l0 54 ++ l1).length cc] rfl (by (try simp only [List.map_toArray, List.map_cons, List.map_nil]); first | done | rfl) ?_; (with_reducible refine (steleref01_Sha256.calls Ac cc (padX l0 54 ++ l1) SH _ RC.out CC.out F1.out).mono ?_); rintro e wd ⟨vd, rfl, ho, hb⟩; have Sd := Aside0.mk (below_step Sc.out hb); obtain ⟨Ad, cd, rfl, hcd, hCd⟩ := Kd.R_reads ho; have RD := Aside0.mk hCd; have CD := Aside0.mk hcd; clear ho hb hcd hCd Oc RC CC Sc; refine ⟨_, rfl, ?_⟩)
      | ((with_reducible refine gate_builtin (b := .append) (xs := #[.tmp 11, .tmp 16]) rfl ?_); at_builtin; refine Kd.R_append_rows (Kd.int .u8) (w0 := w) w.heap.size rfl (.tmp 11) (.tmp 16) 22 5 (.int .u8 0) 1 rfl Try.underlying22 infoU8c rfl (by decide) (by omega) va (padX l0 92) SH _ _ _ (fun _ => True) (fun _ => False) rfl rfl ?aO ?aR (fun _ _ h => h) (fun _ h => h.elim) ?aF ?aB ?aS ?aL ?_; (case aR => exact RD.out); (case aB => exact (below_step HBa.out Sd.out)); (case aF => exact (fun _ _ => trivial)); (case aO => exact (Kd.R_below Oa.out Sd.out)); (case aS => exact (below_step HBa.out Sd.out).size); (case aL => rw [padX_len _ _ hk64, hS.out]; omega); intro ve we ho hb hg hat; have HBe := Aside0.mk hb; obtain ⟨Ae, ce, rfl, hce, hCe⟩ := Kd.R_reads ho; have RE := Aside0.mk hCe; have CE := Aside0.mk hce; clear ho hb hg hat Oa RD CD Sd HBa hce hCe)
      | ((with_reducible refine gate_dst (N := 18) rfl ?_); refine goesL_ (some 18) rfl rfl Try.func33 (by kernel_rfl) rfl #[.slice Ae (padX l0 92 ++ SH).length ce] rfl (by (try simp only [List.map_toArray, List.map_cons, List.map_nil]); first | done | rfl) ?_; (with_reducible refine (steleref01_Sha256.calls Ae ce (padX l0 92 ++ SH) (sha256 (padX l0 92 ++ SH)) _ RE.out CE.out F2.out).mono ?_); rintro e wf ⟨vf, rfl, ho, hb⟩; have HBf := Aside0.mk (below_step HBe.out hb); have RF := Aside0.mk (Kd.R_lower ho HBe.out.size); rw [← HM2.out] at RF; clear ho hb RE CE HBe; refine ⟨_, rfl, ?_⟩)
      )
    go_ret
    exact ⟨_, rfl, RF.out, HBf.out⟩
end Go.Proofs.Ytlnpmodhejakiaa.D
