/- steleref01.Sha1. -/
import Derived.Test.YtlnpmodhejakiaaRefB
namespace Go.Proofs.Ytlnpmodhejakiaa.D
open Go.RowKit Go.Proofs.YtlnpmodhejakiaaW.PrintWords Go.Proofs.YtlnpmodhejakiaaW.PrintLast Go.Proofs.YtlnpmodhejakiaaW.PrintMore Go.Proofs.Ytlnpmodhejakiaa.Sha Go.Proofs.Ytlnpmodhejakiaa.PG
set_option linter.unusedVariables false
set_option linter.unusedSimpArgs false
theorem T5_len (x : V8) : (x.l.take 5).length = 5 := rfl
theorem T5_get (x : V8) (k : Nat) (hk : k < 5) : (x.l.take 5).getD k 0 = x.l.getD k 0 := by
  match k, hk with
  | 0, _ => rfl | 1, _ => rfl | 2, _ => rfl | 3, _ => rfl | 4, _ => rfl
def h5 (h v : V8) (i : Nat) : List W := ((add5 h v).l.take 5).take i ++ (h.l.take 5).drop i
theorem h5_len (h v : V8) (i : Nat) (hi : i ≤ 5) : (h5 h v i).length = 5 := by unfold h5; rw [List.length_append, List.length_take, List.length_drop, T5_len, T5_len]; omega
theorem h5_get (h v : V8) (i : Nat) (hi : i < 5) : (h5 h v i).getD i 0 = h.l.getD i 0 := by
  match i, hi with
  | 0, _ => rfl | 1, _ => rfl | 2, _ => rfl | 3, _ => rfl | 4, _ => rfl
theorem h5_set (h v : V8) (i : Nat) (hi : i < 5) : (h5 h v i).set i (h.l.getD i 0 + v.l.getD i 0) = h5 h v (i + 1) := by
  match i, hi with
  | 0, _ => rfl | 1, _ => rfl | 2, _ => rfl | 3, _ => rfl | 4, _ => rfl
theorem h5_5 (h v : V8) : h5 h v 5 = (add5 h v).l.take 5 := rfl
theorem left_x (a b c d : W) (w : World) : Calls Try.prog 123 #[.int .u32 (bits .xor .u32 (bits .xor .u32 (bits .xor .u32 (n32 a) (n32 b)) (n32 c)) (n32 d)), .int .i64 1] w fun e w' => e = .returned (.int .u32 (n32 (rl (a ^^^ b ^^^ c ^^^ d) 1))) ∧ w' = w := by
  simp only [n32_xor]
  exact left_1 _ w
theorem tA (a b c d e w : W) : ((n32 (rl a 5) + bits .or .u32 (bits .and .u32 (n32 b) (n32 c)) (bits .and .u32 (bits .xor .u32 IntKind.u32.max (n32 b)) (n32 d)) + n32 e + 1518500249) % (4294967296 : Int) + n32 w) % (4294967296 : Int) = n32 (rl a 5 + ch b c d + e + 0x5a827999 + w) := by
  rw [n32_not', show (1518500249 : Int) = n32 0x5a827999 by decide]
  simp only [n32_and, n32_or, n32_add_m4, n32_add_m]
  rw [ch_or]
theorem tB (a b c d e w : W) : ((n32 (rl a 5) + bits .xor .u32 (bits .xor .u32 (n32 b) (n32 c)) (n32 d) + n32 e + 1859775393) % (4294967296 : Int) + n32 w) % (4294967296 : Int) = n32 (rl a 5 + (b ^^^ c ^^^ d) + e + 0x6ed9eba1 + w) := by
  rw [show (1859775393 : Int) = n32 0x6ed9eba1 by decide]
  simp only [n32_xor, n32_add_m4, n32_add_m]
theorem tC (a b c d e w : W) : ((n32 (rl a 5) + bits .or .u32 (bits .or .u32 (bits .and .u32 (n32 b) (n32 c)) (bits .and .u32 (n32 b) (n32 d))) (bits .and .u32 (n32 c) (n32 d)) + n32 e + 2400959708) % (4294967296 : Int) + n32 w) % (4294967296 : Int) = n32 (rl a 5 + maj b c d + e + 0x8f1bbcdc + w) := by
  rw [show (2400959708 : Int) = n32 0x8f1bbcdc by decide]
  simp only [n32_and, n32_or, n32_add_m4, n32_add_m]
  rw [maj_or]
theorem tD (a b c d e w : W) : ((n32 (rl a 5) + bits .xor .u32 (bits .xor .u32 (n32 b) (n32 c)) (n32 d) + n32 e + 3395469782) % (4294967296 : Int) + n32 w) % (4294967296 : Int) = n32 (rl a 5 + (b ^^^ c ^^^ d) + e + 0xca62c1d6 + w) := by
  rw [show (3395469782 : Int) = n32 0xca62c1d6 by decide]
  simp only [n32_xor, n32_add_m4, n32_add_m]
set_option maxHeartbeats 16000000 in
set_option maxRecDepth 100000 in
theorem ref1_any (A0 : Option Addr) (c0 : Nat) (l0 : List Int) (w : World) (hr0 : Kd.C (Kd.int .u8) w A0 l0.length l0) (hc0 : l0.length ≤ c0) (hl : l0.length ≤ 140737488340000) (hb : ∀ x ∈ l0, 0 ≤ x ∧ x ≤ 255) :
    Calls Try.prog 31 #[.slice A0 l0.length c0] w fun e w' => ∃ v0_ : Value, e = .returned v0_ ∧ Kd.R (Kd.int .u8) 5 w' w.heap.size (fun _ => True) v0_ (sha1 l0) ∧ Below w.heap.size w w' := by
  have HR := Aside0.mk hr0
  have HD := Aside0.mk hb
  clear hr0 hb
  go_enter Try.func31, Try.ntmps31
  have hPl := nblk_len l0
  have hPe := padded_eq l0 (by omega) 80 (by omega)
  have hPb := Aside0.mk (show ∀ x ∈ l0 ++ pad l0.length, 0 ≤ x ∧ x ≤ 255 from fun x hx => (List.mem_append.1 hx).elim (HD.out x) (pad_bd l0.length x))
  have hsha := sha1_blocks l0
  have hPs := Aside0.mk (show (l0 ++ pad l0.length).length ≤ 140737488350000 by rw [List.length_append, pad_len]; have : zeros (l0.length + 1) < 64 := (by unfold zeros; omega); omega)
  obtain ⟨P, hP⟩ : ∃ P, l0 ++ pad l0.length = P := ⟨_, rfl⟩
  obtain ⟨nb, hnb⟩ : ∃ n, nblk l0 = n := ⟨_, rfl⟩
  rw [hP] at hPl hPe hPb hPs hsha
  rw [hnb] at hPl hsha
  have HPL := Aside0.mk hPl
  have HPE := Aside0.mk hPe
  have HSHA := Aside0.mk hsha
  clear hP hnb hPl hPe hsha
  go_wp2_with (first
    | ((with_reducible refine gate_dst (N := 14) rfl ?_); refine lit_event rfl (N := 14) rfl (cs := aU32 (start1.h.l.take 5)) (t := 133) (n := 5) ?hr ?_; (case hr => rw [show aU32 (start1.h.l.take 5) = #[Value.int .u32 1732584193, Value.int .u32 4023233417, Value.int .u32 2562383102, Value.int .u32 271733878, Value.int .u32 3285377520] by kernel_rfl]; first | (go_simp; done) | (go_simp; rfl)); intro gh hgh w1 hbox hBl; have HB1 := Aside0.mk hBl; have KH := Aside0.mk hbox; have GH := Aside0.mk hgh; clear hgh hbox hBl)
    | (go_at_call 121; refine (steleref01_padded.calls 80 A0 c0 l0 P w1 (Kd.C_below HR.out HB1.out) hc0 HPE.out).mono ?_; rintro e w3 ⟨v5, rfl, ho, hb⟩; have R5 := Aside0.mk (R_far_of ho HB1.out.size (blk_lt KH.out)); have HB3 := Aside0.mk (below_step HB1.out hb); have kh_ := Aside0.mk (blk_below KH.out hb); clear KH ho hb; have KH := kh_; clear kh_))
  obtain ⟨A5, c5, h5, hc5, C5⟩ := Kd.R_reads R5.out
  subst h5
  clear C5
  have Gh := Aside0.mk (show w.heap.size ≤ gh from Nat.le_of_eq GH.out.symm)
  go_loopw [5] (fun v6 wr => ∃ m : Nat, m ≤ nb ∧ v6 = .int .i64 ((64 * m : Nat) : Int) ∧ Aside0 (wr.heap[gh]? = some (.cells (aU32 ((blocks comp1 start1.h m P).l.take 5)) 133 (0, 0))) ∧ Aside0 (Kd.R (Kd.int .u8) 5 wr w.heap.size (fun k => k ≠ gh) (.slice A5 P.length c5) P) ∧ Aside0 (Below w.heap.size w wr)) (fun v6 _ => P.length - (intOf v6).toNat)
  case atStart => exact ⟨0, Nat.zero_le _, rfl, KH, R5, HB3⟩
  case round =>
    clear KH R5 HB3
    obtain ⟨m, hm, rfl, KH, R5, HB⟩ := hrel
    obtain ⟨at_, hat⟩ : ∃ x, 64 * m = x := ⟨_, rfl⟩
    rw [hat]
    by_cases hlt : m < nb
    · have hat64 : at_ + 64 ≤ P.length := by rw [HPL.out]; omega
      have hPs' : P.length ≤ 140737488350000 := hPs.out
      have hca : ¬ c5 = at_ := by omega
      have hcab : at_ + 64 ≤ c5 := by omega
      have C5 := (Kd.R_reads' R5.out).2.2
      obtain ⟨ad5, hA5, _⟩ := C5.2.2 (by omega)
      subst hA5
      have hcut := C_cut C5 at_ 64 hat64
      have hbl := Aside0.mk (show ((P.drop at_).take 64).length = 64 by rw [List.length_take, List.length_drop]; omega)
      have hbb := Aside0.mk (show ∀ x ∈ (P.drop at_).take 64, 0 ≤ x ∧ x ≤ 255 from fun x hx => hPb.out x (List.mem_of_mem_drop (List.mem_of_mem_take hx)))
      have hnx := Aside0.mk (blocks_succ comp1 m start1.h P)
      rw [hat] at hnx
      have HAT := Aside0.mk hat
      obtain ⟨bl, hble⟩ : ∃ b, (P.drop at_).take 64 = b := ⟨_, rfl⟩
      rw [hble] at hcut hbl hbb hnx
      have HCUT := Aside0.mk hcut
      obtain ⟨H, hH⟩ : ∃ H, blocks comp1 start1.h m P = H := ⟨_, rfl⟩
      rw [hH] at KH hnx
      clear C5 hcut hble hH hat
      have hwe := Aside0.mk (words_eq bl hbb.out hbl.out (next1 bl) (fun i hi => by unfold next1; rw [if_pos hi]) 17 (by omega))
      have i0 : (at_ : Int) + 64 ≤ (P.length : Int) := by omega
      have i1 : (at_ : Int) + 64 ≤ (c5 : Int) := by omega
      obtain ⟨wo, hwo⟩ : ∃ wo : World, wo = wr := ⟨_, rfl⟩
      subst hwo
      have s16 := nW_len (sched (next1 bl) 16)
      rw [sched_len] at s16
      have S16 := Aside0.mk s16
      clear s16
      have hwc := Aside0.mk (show Calls Try.prog 122 #[.slice (some (ad5.add at_)) 64 (c5 - at_)] wo _ by
        have := steleref01_words.calls 17 (some (ad5.add at_)) (c5 - at_) bl _ wo HCUT.out (by rw [hbl.out]; omega) hwe.out
        rw [hbl.out] at this
        exact this)
      go_wp2_with (go_at_call 122; refine hwc.out.mono ?_; rintro e w7 ⟨v7, rfl, ho, hb⟩; have R7 := Aside0.mk ho; have HI := Aside0.mk hb; clear ho hb)
      clear hwc HCUT hwe i0 i1
      go_loopw [6, 7] (fun v7 v8 wi => ∃ i : Nat, 16 ≤ i ∧ i ≤ 80 ∧ v8 = .int .i64 (i : Int) ∧ Aside0 (Kd.R (Kd.int .u32) 133 wi wo.heap.size (fun _ => True) v7 (nW (sched (next1 bl) i))) ∧ Aside0 (Below wo.heap.size wo wi)) (fun _ v8 _ => 80 - (intOf v8).toNat)
      case atStart => exact ⟨16, Nat.le_refl _, by omega, rfl, R7, HI⟩
      case round =>
        clear R7 HI
        obtain ⟨i, h16, hi, rfl, R7, HI⟩ := hrel
        obtain ⟨A7, c7, e7, hc7, C7⟩ := Kd.R_reads R7.out
        have L7 : (nW (sched (next1 bl) i)).length = i := by rw [nW_len, sched_len]
        rw [L7] at e7 hc7 C7
        subst e7
        by_cases hlti : i < 80
        · obtain ⟨ad7, hA7, d3⟩ := nW_cell C7 (i - 3) (by omega)
          subst hA7
          obtain ⟨_, ha, d8⟩ := nW_cell C7 (i - 8) (by omega)
          cases ha
          obtain ⟨_, ha, d14⟩ := nW_cell C7 (i - 14) (by omega)
          cases ha
          obtain ⟨_, ha, d16⟩ := nW_cell C7 (i - 16) (by omega)
          cases ha
          have hl7 := Aside0.mk L7
          have hnxi := Aside0.mk (show next1 bl (sched (next1 bl) i) i = _ from if_neg (show ¬ i < 16 by omega))
          obtain ⟨X3, h3'⟩ : ∃ X, (sched (next1 bl) i).getD (i - 3) 0 = X := ⟨_, rfl⟩
          obtain ⟨X8, h8'⟩ : ∃ X, (sched (next1 bl) i).getD (i - 8) 0 = X := ⟨_, rfl⟩
          obtain ⟨X14, h14'⟩ : ∃ X, (sched (next1 bl) i).getD (i - 14) 0 = X := ⟨_, rfl⟩
          obtain ⟨X16, h16'⟩ : ∃ X, (sched (next1 bl) i).getD (i - 16) 0 = X := ⟨_, rfl⟩
          rw [h3', h8', h14', h16'] at hnxi
          rw [h3'] at d3
          rw [h8'] at d8
          rw [h14'] at d14
          rw [h16'] at d16
          clear h3' h8' h14' h16' C7 L7
          have q3 := (IntWalk.i64_in ((i : Int) - 3) (by omega)); have z3 : (0 : Int) ≤ (i : Int) - 3 := by omega
          have y3 : (3 : Int) ≤ (i : Int) := by omega
          have l3 : (i : Int) - 3 < (i : Int) := by omega
          have t3 : ((i : Int) - 3).toNat = i - 3 := by omega
          have q8 := (IntWalk.i64_in ((i : Int) - 8) (by omega)); have z8 : (0 : Int) ≤ (i : Int) - 8 := by omega
          have y8 : (8 : Int) ≤ (i : Int) := by omega
          have l8 : (i : Int) - 8 < (i : Int) := by omega
          have t8 : ((i : Int) - 8).toNat = i - 8 := by omega
          have q14 := (IntWalk.i64_in ((i : Int) - 14) (by omega)); have z14 : (0 : Int) ≤ (i : Int) - 14 := by omega
          have y14 : (14 : Int) ≤ (i : Int) := by omega
          have l14 : (i : Int) - 14 < (i : Int) := by omega
          have t14 : ((i : Int) - 14).toNat = i - 14 := by omega
          have q16 := (IntWalk.i64_in ((i : Int) - 16) (by omega)); have z16 : (0 : Int) ≤ (i : Int) - 16 := by omega
          have y16 : (16 : Int) ≤ (i : Int) := by omega
          have l16 : (i : Int) - 16 < (i : Int) := by omega
          have t16 : ((i : Int) - 16).toNat = i - 16 := by omega
          go_wp2
          refine start_ (n := 28) (S := fun w' => w'.cell? (ad7.add (i - 3)) = some (.int .u32 (n32 X3)) ∧ w'.cell? (ad7.add (i - 8)) = some (.int .u32 (n32 X8)) ∧ w'.cell? (ad7.add (i - 14)) = some (.int .u32 (n32 X14)) ∧ w'.cell? (ad7.add (i - 16)) = some (.int .u32 (n32 X16))) (ds := [25, 26, 27]) #[false, false, false, false, false, false, false, false, false, false, false, false, false, false, false, false, false, false, false, false, false, false, false, false, false, false, false, false] (by kernel_rfl) rfl rfl ⟨d3, d8, d14, d16⟩ (fun hHeld => ?_)
          have r7_ := Kd.R_below R7.out (below_drew (Below.refl _ _))
          have hi_ := below_drew HI.out
          have e3_ : ∀ ad, (wr.drew).cell? ad = wr.cell? ad := fun _ => rfl
          clear e3_
          replace d3 : (wr.drew).cell? (ad7.add (i - 3)) = some (.int .u32 (n32 X3)) := d3
          replace d8 : (wr.drew).cell? (ad7.add (i - 8)) = some (.int .u32 (n32 X8)) := d8
          replace d14 : (wr.drew).cell? (ad7.add (i - 14)) = some (.int .u32 (n32 X14)) := d14
          replace d16 : (wr.drew).cell? (ad7.add (i - 16)) = some (.int .u32 (n32 X16)) := d16
          generalize wr.drew = w9 at r7_ hi_ hHeld d3 d8 d14 d16 ⊢
          clear R7 HI d3 d8 d14 d16
          have R7 := Aside0.mk r7_
          have HI := Aside0.mk hi_
          clear r7_ hi_
          refine pure_ (i := 0) (N := some 33) (v := ?_) (a' := ?_) #[true, false, false, false, false, false, false, false, false, false, false, false, false, false, false, false, false, false, false, false, false, false, false, false, false, false, false, false] rfl rfl (by kernel_rfl) (fun _ _ _ h => h) (Or.inl ⟨by rfl, ?_⟩) ?_ ?_
          rotate_left
          · intro w'
            go_simp
            with_reducible rfl
          rotate_left
          · simp only [Act.put, List.setIfInBounds_toArray, List.set_cons_zero, List.set_cons_succ, i64_w, i32_w]
            rfl
          refine pure_ (i := 1) (N := some 34) (v := ?_) (a' := ?_) #[true, true, false, false, false, false, false, false, false, false, false, false, false, false, false, false, false, false, false, false, false, false, false, false, false, false, false, false] rfl rfl (by kernel_rfl) (fun _ _ _ h => h) (Or.inl ⟨by rfl, ?_⟩) ?_ ?_
          rotate_left
          · intro w'
            go_simp
            with_reducible rfl
          rotate_left
          · simp only [Act.put, List.setIfInBounds_toArray, List.set_cons_zero, List.set_cons_succ, i64_w, i32_w]
            rfl
          refine pure_ (i := 2) (N := some 35) (v := ?_) (a' := ?_) #[true, true, true, false, false, false, false, false, false, false, false, false, false, false, false, false, false, false, false, false, false, false, false, false, false, false, false, false] rfl rfl (by kernel_rfl) (fun _ _ _ h => h) (Or.inl ⟨by rfl, ?_⟩) ?_ ?_
          rotate_left
          · intro w'
            go_simp
            with_reducible rfl
          rotate_left
          · simp only [Act.put, List.setIfInBounds_toArray, List.set_cons_zero, List.set_cons_succ, i64_w, i32_w]
            rfl
          refine pure_ (i := 3) (N := some 36) (v := ?_) (a' := ?_) #[true, true, true, true, false, false, false, false, false, false, false, false, false, false, false, false, false, false, false, false, false, false, false, false, false, false, false, false] rfl rfl (by kernel_rfl) (fun _ _ _ h => h) (Or.inl ⟨by rfl, ?_⟩) ?_ ?_
          rotate_left
          · intro w'
            go_simp
            with_reducible rfl
          rotate_left
          · simp only [Act.put, List.setIfInBounds_toArray, List.set_cons_zero, List.set_cons_succ, i64_w, i32_w]
            rfl
          refine pure_ (i := 4) (N := some 37) (v := ?_) (a' := ?_) #[true, true, true, true, true, false, false, false, false, false, false, false, false, false, false, false, false, false, false, false, false, false, false, false, false, false, false, false] rfl rfl (by kernel_rfl) (fun _ _ _ h => h) (Or.inl ⟨by rfl, ?_⟩) ?_ ?_
          rotate_left
          · intro w'
            go_simp
            with_reducible rfl
          rotate_left
          · simp only [Act.put, List.setIfInBounds_toArray, List.set_cons_zero, List.set_cons_succ, i64_w, i32_w]
            rfl
          refine take_ (i := 5) (N := some 38) (v := ?_) (a' := ?_) #[true, true, true, true, true, true, false, false, false, false, false, false, false, false, false, false, false, false, false, false, false, false, false, false, false, false, false, false] rfl rfl (by kernel_rfl) (fun _ _ _ h => h) (Or.inl ⟨by rfl, ?_⟩) hHeld ?_ ?_
          rotate_left
          · rintro w' ⟨s3, s8, s14, s16⟩
            go_simp
            with_reducible rfl
          rotate_left
          · simp only [Act.put, List.setIfInBounds_toArray, List.set_cons_zero, List.set_cons_succ, i64_w, i32_w]
            rfl
          refine pure_ (i := 6) (N := some 39) (v := ?_) (a' := ?_) #[true, true, true, true, true, true, true, false, false, false, false, false, false, false, false, false, false, false, false, false, false, false, false, false, false, false, false, false] rfl rfl (by kernel_rfl) (fun _ _ _ h => h) (Or.inl ⟨by rfl, ?_⟩) ?_ ?_
          rotate_left
          · intro w'
            go_simp
            with_reducible rfl
          rotate_left
          · simp only [Act.put, List.setIfInBounds_toArray, List.set_cons_zero, List.set_cons_succ, i64_w, i32_w]
            rfl
          refine pure_ (i := 7) (N := some 40) (v := ?_) (a' := ?_) #[true, true, true, true, true, true, true, true, false, false, false, false, false, false, false, false, false, false, false, false, false, false, false, false, false, false, false, false] rfl rfl (by kernel_rfl) (fun _ _ _ h => h) (Or.inl ⟨by rfl, ?_⟩) ?_ ?_
          rotate_left
          · intro w'
            go_simp
            with_reducible rfl
          rotate_left
          · simp only [Act.put, List.setIfInBounds_toArray, List.set_cons_zero, List.set_cons_succ, i64_w, i32_w]
            rfl
          refine pure_ (i := 8) (N := some 41) (v := ?_) (a' := ?_) #[true, true, true, true, true, true, true, true, true, false, false, false, false, false, false, false, false, false, false, false, false, false, false, false, false, false, false, false] rfl rfl (by kernel_rfl) (fun _ _ _ h => h) (Or.inl ⟨by rfl, ?_⟩) ?_ ?_
          rotate_left
          · intro w'
            go_simp
            with_reducible rfl
          rotate_left
          · simp only [Act.put, List.setIfInBounds_toArray, List.set_cons_zero, List.set_cons_succ, i64_w, i32_w]
            rfl
          refine pure_ (i := 9) (N := some 42) (v := ?_) (a' := ?_) #[true, true, true, true, true, true, true, true, true, true, false, false, false, false, false, false, false, false, false, false, false, false, false, false, false, false, false, false] rfl rfl (by kernel_rfl) (fun _ _ _ h => h) (Or.inl ⟨by rfl, ?_⟩) ?_ ?_
          rotate_left
          · intro w'
            go_simp
            with_reducible rfl
          rotate_left
          · simp only [Act.put, List.setIfInBounds_toArray, List.set_cons_zero, List.set_cons_succ, i64_w, i32_w]
            rfl
          refine take_ (i := 10) (N := some 43) (v := ?_) (a' := ?_) #[true, true, true, true, true, true, true, true, true, true, true, false, false, false, false, false, false, false, false, false, false, false, false, false, false, false, false, false] rfl rfl (by kernel_rfl) (fun _ _ _ h => h) (Or.inl ⟨by rfl, ?_⟩) hHeld ?_ ?_
          rotate_left
          · rintro w' ⟨s3, s8, s14, s16⟩
            go_simp
            with_reducible rfl
          rotate_left
          · simp only [Act.put, List.setIfInBounds_toArray, List.set_cons_zero, List.set_cons_succ, i64_w, i32_w]
            rfl
          refine pure_ (i := 11) (N := some 44) (v := ?_) (a' := ?_) #[true, true, true, true, true, true, true, true, true, true, true, true, false, false, false, false, false, false, false, false, false, false, false, false, false, false, false, false] rfl rfl (by kernel_rfl) (fun _ _ _ h => h) (Or.inl ⟨by rfl, ?_⟩) ?_ ?_
          rotate_left
          · intro w'
            go_simp
            with_reducible rfl
          rotate_left
          · simp only [Act.put, List.setIfInBounds_toArray, List.set_cons_zero, List.set_cons_succ, i64_w, i32_w]
            rfl
          refine pure_ (i := 12) (N := some 45) (v := ?_) (a' := ?_) #[true, true, true, true, true, true, true, true, true, true, true, true, true, false, false, false, false, false, false, false, false, false, false, false, false, false, false, false] rfl rfl (by kernel_rfl) (fun _ _ _ h => h) (Or.inl ⟨by rfl, ?_⟩) ?_ ?_
          rotate_left
          · intro w'
            go_simp
            with_reducible rfl
          rotate_left
          · simp only [Act.put, List.setIfInBounds_toArray, List.set_cons_zero, List.set_cons_succ, i64_w, i32_w]
            rfl
          refine pure_ (i := 13) (N := some 46) (v := ?_) (a' := ?_) #[true, true, true, true, true, true, true, true, true, true, true, true, true, true, false, false, false, false, false, false, false, false, false, false, false, false, false, false] rfl rfl (by kernel_rfl) (fun _ _ _ h => h) (Or.inl ⟨by rfl, ?_⟩) ?_ ?_
          rotate_left
          · intro w'
            go_simp
            with_reducible rfl
          rotate_left
          · simp only [Act.put, List.setIfInBounds_toArray, List.set_cons_zero, List.set_cons_succ, i64_w, i32_w]
            rfl
          refine pure_ (i := 14) (N := some 47) (v := ?_) (a' := ?_) #[true, true, true, true, true, true, true, true, true, true, true, true, true, true, true, false, false, false, false, false, false, false, false, false, false, false, false, false] rfl rfl (by kernel_rfl) (fun _ _ _ h => h) (Or.inl ⟨by rfl, ?_⟩) ?_ ?_
          rotate_left
          · intro w'
            go_simp
            with_reducible rfl
          rotate_left
          · simp only [Act.put, List.setIfInBounds_toArray, List.set_cons_zero, List.set_cons_succ, i64_w, i32_w]
            rfl
          refine pure_ (i := 15) (N := some 48) (v := ?_) (a' := ?_) #[true, true, true, true, true, true, true, true, true, true, true, true, true, true, true, true, false, false, false, false, false, false, false, false, false, false, false, false] rfl rfl (by kernel_rfl) (fun _ _ _ h => h) (Or.inl ⟨by rfl, ?_⟩) ?_ ?_
          rotate_left
          · intro w'
            go_simp
            with_reducible rfl
          rotate_left
          · simp only [Act.put, List.setIfInBounds_toArray, List.set_cons_zero, List.set_cons_succ, i64_w, i32_w]
            rfl
          refine take_ (i := 16) (N := some 49) (v := ?_) (a' := ?_) #[true, true, true, true, true, true, true, true, true, true, true, true, true, true, true, true, true, false, false, false, false, false, false, false, false, false, false, false] rfl rfl (by kernel_rfl) (fun _ _ _ h => h) (Or.inl ⟨by rfl, ?_⟩) hHeld ?_ ?_
          rotate_left
          · rintro w' ⟨s3, s8, s14, s16⟩
            go_simp
            with_reducible rfl
          rotate_left
          · simp only [Act.put, List.setIfInBounds_toArray, List.set_cons_zero, List.set_cons_succ, i64_w, i32_w]
            rfl
          refine pure_ (i := 17) (N := some 50) (v := ?_) (a' := ?_) #[true, true, true, true, true, true, true, true, true, true, true, true, true, true, true, true, true, true, false, false, false, false, false, false, false, false, false, false] rfl rfl (by kernel_rfl) (fun _ _ _ h => h) (Or.inl ⟨by rfl, ?_⟩) ?_ ?_
          rotate_left
          · intro w'
            go_simp
            with_reducible rfl
          rotate_left
          · simp only [Act.put, List.setIfInBounds_toArray, List.set_cons_zero, List.set_cons_succ, i64_w, i32_w]
            rfl
          refine pure_ (i := 18) (N := some 51) (v := ?_) (a' := ?_) #[true, true, true, true, true, true, true, true, true, true, true, true, true, true, true, true, true, true, true, false, false, false, false, false, false, false, false, false] rfl rfl (by kernel_rfl) (fun _ _ _ h => h) (Or.inl ⟨by rfl, ?_⟩) ?_ ?_
          rotate_left
          · intro w'
            go_simp
            with_reducible rfl
          rotate_left
          · simp only [Act.put, List.setIfInBounds_toArray, List.set_cons_zero, List.set_cons_succ, i64_w, i32_w]
            rfl
          refine pure_ (i := 19) (N := some 52) (v := ?_) (a' := ?_) #[true, true, true, true, true, true, true, true, true, true, true, true, true, true, true, true, true, true, true, true, false, false, false, false, false, false, false, false] rfl rfl (by kernel_rfl) (fun _ _ _ h => h) (Or.inl ⟨by rfl, ?_⟩) ?_ ?_
          rotate_left
          · intro w'
            go_simp
            with_reducible rfl
          rotate_left
          · simp only [Act.put, List.setIfInBounds_toArray, List.set_cons_zero, List.set_cons_succ, i64_w, i32_w]
            rfl
          refine pure_ (i := 20) (N := some 53) (v := ?_) (a' := ?_) #[true, true, true, true, true, true, true, true, true, true, true, true, true, true, true, true, true, true, true, true, true, false, false, false, false, false, false, false] rfl rfl (by kernel_rfl) (fun _ _ _ h => h) (Or.inl ⟨by rfl, ?_⟩) ?_ ?_
          rotate_left
          · intro w'
            go_simp
            with_reducible rfl
          rotate_left
          · simp only [Act.put, List.setIfInBounds_toArray, List.set_cons_zero, List.set_cons_succ, i64_w, i32_w]
            rfl
          refine pure_ (i := 21) (N := some 54) (v := ?_) (a' := ?_) #[true, true, true, true, true, true, true, true, true, true, true, true, true, true, true, true, true, true, true, true, true, true, false, false, false, false, false, false] rfl rfl (by kernel_rfl) (fun _ _ _ h => h) (Or.inl ⟨by rfl, ?_⟩) ?_ ?_
          rotate_left
          · intro w'
            go_simp
            with_reducible rfl
          rotate_left
          · simp only [Act.put, List.setIfInBounds_toArray, List.set_cons_zero, List.set_cons_succ, i64_w, i32_w]
            rfl
          refine take_ (i := 22) (N := some 55) (v := ?_) (a' := ?_) #[true, true, true, true, true, true, true, true, true, true, true, true, true, true, true, true, true, true, true, true, true, true, true, false, false, false, false, false] rfl rfl (by kernel_rfl) (fun _ _ _ h => h) (Or.inl ⟨by rfl, ?_⟩) hHeld ?_ ?_
          rotate_left
          · rintro w' ⟨s3, s8, s14, s16⟩
            go_simp
            with_reducible rfl
          rotate_left
          · simp only [Act.put, List.setIfInBounds_toArray, List.set_cons_zero, List.set_cons_succ, i64_w, i32_w]
            rfl
          refine pure_ (i := 23) (N := some 56) (v := ?_) (a' := ?_) #[true, true, true, true, true, true, true, true, true, true, true, true, true, true, true, true, true, true, true, true, true, true, true, true, false, false, false, false] rfl rfl (by kernel_rfl) (fun _ _ _ h => h) (Or.inl ⟨by rfl, ?_⟩) ?_ ?_
          rotate_left
          · intro w'
            go_simp
            with_reducible rfl
          rotate_left
          · simp only [Act.put, List.setIfInBounds_toArray, List.set_cons_zero, List.set_cons_succ, i64_w, i32_w]
            rfl
          refine takeC_ (i := 24) (N := some 57) (v := (.int .u32 (n32 (rl (X3 ^^^ X8 ^^^ X14 ^^^ X16) 1)))) (a' := ?_) #[true, true, true, true, true, true, true, true, true, true, true, true, true, true, true, true, true, true, true, true, true, true, true, true, true, false, false, false] rfl rfl (by kernel_rfl) (fun _ _ _ h => h) (by rfl) 123 #[.int .u32 (bits .xor .u32 (bits .xor .u32 (bits .xor .u32 (n32 X3) (n32 X8)) (n32 X14)) (n32 X16)), .int .i64 1] ?_ (fun w => left_x X3 X8 X14 X16 w) hHeld ?_ ?_
          · intro w'
            go_simp
            try (with_reducible rfl)
          rotate_left
          · simp only [Act.put, List.setIfInBounds_toArray, List.set_cons_zero, List.set_cons_succ, i64_w, i32_w]
            rfl
          obtain ⟨NX, hNX⟩ : ∃ X, rl (X3 ^^^ X8 ^^^ X14 ^^^ X16) 1 = X := ⟨_, rfl⟩
          rw [hNX] at hnxi ⊢
          clear hNX hHeld q3 z3 y3 l3 t3 q8 z8 y8 l8 t8 q14 z14 y14 l14 t14 q16 z16 y16 l16 t16
          refine last_ (i := 25) (N := some 58) #[true, true, true, true, true, true, true, true, true, true, true, true, true, true, true, true, true, true, true, true, true, true, true, true, true, true, false, false] rfl rfl (by kernel_rfl) (by decide) (fun K hK => ?_)
          refine value_ (w1 := w9.alloc (.cells #[.int .u32 (n32 NX)] 133)) (v := .slice (some ⟨w9.heap.size, 0, none⟩) 1 1) (by rfl) rfl ?_ ?_
          · go_simp
            try rfl
          refine hK.out _ _ ?_
          clear hK K
          refine norm_ (a' := ?_) ?_ ?_
          rotate_left
          · show Act.put _ (some 58) _ = _
            simp only [Act.put, List.setIfInBounds_toArray, List.set_cons_zero, List.set_cons_succ, i64_w, i32_w]
            rfl
          refine last_ (i := 26) (N := some 59) #[true, true, true, true, true, true, true, true, true, true, true, true, true, true, true, true, true, true, true, true, true, true, true, true, true, true, true, false] rfl rfl (by kernel_rfl) (by decide) (fun K hK => ?_)
          refine Kd.R_append_step (Kd.int .u32) (w0 := wo) wo.heap.size (by rfl) (.tmp 33) (.tmp 58) 141 133 (.int .u32 0) 4 rfl Try.underlying141 infoU32 rfl (by decide) (by omega) (.slice (some ad7) i c7) (nW (sched (next1 bl) i)) (n32 NX) [.int .u32 (n32 NX)] (fun _ => True) (fun _ => False) rfl rfl ?aP (fun _ hk => hk.elim) ?aF ?aO ?aB ?aS ?aL ?_
          case aP => exact rfl
          case aF => exact (fun _ _ => trivial)
          case aO => exact R7.out
          case aB => exact HI.out
          case aS => exact HI.out.size
          case aL => rw [hl7.out]; omega
          intro v1 w5 ho hb hg hat
          have r7_ := Aside0.mk ho
          have hi_ := Aside0.mk hb
          clear ho hb hg hat
          refine hK.out _ _ ?_
          clear hK K
          refine norm_ (a' := ?_) ?_ ?_
          rotate_left
          · show Act.put _ (some 59) _ = _
            simp only [Act.put, List.setIfInBounds_toArray, List.set_cons_zero, List.set_cons_succ, i64_w, i32_w]
            rfl
          refine last_ (i := 27) (N := some 6) #[true, true, true, true, true, true, true, true, true, true, true, true, true, true, true, true, true, true, true, true, true, true, true, true, true, true, true, true] rfl rfl (by kernel_rfl) (by decide) (fun K hK => ?_)
          refine value_ (w1 := ?_) (v := ?_) (by rfl) rfl ?_ ?_
          rotate_left 2
          · go_simp
            constructor
            · rfl
            · rfl
          refine hK.out _ _ ?_
          clear hK K
          refine norm_ (a' := ?_) ?_ ?_
          rotate_left
          · show Act.put _ (some 6) _ = _
            simp only [Act.put, List.setIfInBounds_toArray, List.set_cons_zero, List.set_cons_succ, i64_w, i32_w]
            rfl
          refine done_ (by kernel_rfl) ?_
          go_wp2
          go_roundw
          · exact ⟨i + 1, by omega, by omega, by simp, ⟨by rw [show nW (sched (next1 bl) (i + 1)) = nW (sched (next1 bl) i) ++ [n32 NX] by rw [sched, hnxi.out]; simp [nW]]; exact r7_.out⟩, hi_⟩
          · show 80 - ((i : Int) + 1).toNat < 80 - (i : Int).toNat; omega
        · obtain rfl : i = 80 := by omega
          clear h16 hi hlti hc7
          have HWS := Aside0.mk (show comp1 H bl = add5 H (rounds1 (sched (next1 bl) 80) H 80) from rfl)
          have hwl := Aside0.mk (sched_len (next1 bl) 80)
          obtain ⟨ws, hws⟩ : ∃ l, sched (next1 bl) 80 = l := ⟨_, rfl⟩
          rw [hws] at R7 C7 L7 HWS hwl
          clear hws
          have hH8 := Aside0.mk (nW_len (H.l.take 5))
          have hw12 := Aside0.mk (show wo.heap.size ≤ wr.heap.size from HI.out.size)
          have kw := Aside0.mk (blk_below KH.out HI.out)
          have C7' := Aside0.mk C7
          clear C7
          go_wp2_with (first
            | ((with_reducible refine gate_dst (N := 60) rfl ?_); refine Kd.R_lit (Kd.int .u32) (w0 := wr) wr.heap.size 133 ?hg (N := 60) ?hd (xs := ([] : List Int)) (inner := []) (ok := fun _ => True) (okp := fun _ => True) ?hr ?hp (fun _ hk => hk) trivial (Below.refl _ _) (Nat.le_refl _) (by simp) ?_; (case hd => rfl); (case hg => rfl); (case hr => first | (go_simp; done) | (go_simp; rfl)); (case hp => exact (Reps.none _ _)); intro v80 w10 ho hb hg_ hnew_; have R80 := Aside0.mk ho; have H80 := Aside0.mk hb; have kh_ := Aside0.mk (blk_below kw.out hb); clear ho hb hg_ hnew_)
            | (at_builtin; refine Kd.R_append_row (Value.int .u32) (0 : Int) (h1 := fun _ => rfl) (w0 := wr) wr.heap.size rfl (.tmp 60) (.tmp 61) 141 133 (.int .u32 0) 4 rfl Try.underlying141 infoU32 rfl (by decide) _ ([] : List Int) (nW (H.l.take 5)) (some ⟨gh, 0, none⟩) 5 5 (fun _ => True) rfl rfl (fun _ _ => trivial) R80.out (C_words _ gh (H.l.take 5) _ kh_.out (by rw [T5_len]; omega) 5 rfl) H80.out H80.out.size (by simp) ?_; intro v1 w11 ho hb hg hat; have R11 := Aside0.mk (show Kd.R (Kd.int .u32) 133 w11 wr.heap.size (fun _ => True) v1 (nW (H.l.take 5)) from ho); have H11 := Aside0.mk hb; clear ho hb hg hat H80 kh_))
          have L11 : (nW (H.l.take 5)).length = 5 := by rw [nW_len]; rfl
          obtain ⟨A11, c11, e11, hc11, C11⟩ := Kd.R_reads R11.out
          rw [L11] at e11 hc11 C11
          subst e11
          have hgh : gh < wo.heap.size := blk_lt KH.out
          have C7 := Aside0.mk (Kd.C_below C7'.out H11.out)
          have HI11 := Aside0.mk (below_step HI.out H11.out)
          have G11 := Aside0.mk (show ∀ ad, A11 = some ad → gh < ad.block from fun ad hA => by have := R_addr R11.out ad hA; have := hw12.out; omega)
          have HGH := Aside0.mk hgh
          clear R11 H11 kw C7' hgh hw12 R80
          have C11 := Aside0.mk C11
          go_loopw [8, 9] (fun v11 v12 wi => ∃ (i : Nat) (A : Option Addr) (c : Nat), i ≤ 80 ∧ v12 = .int .i64 (i : Int) ∧ v11 = .slice A 5 c ∧ Aside0 (Kd.C (Kd.int .u32) wi A 5 (nW ((rounds1 ws H i).l.take 5))) ∧ Aside0 (∀ ad, A = some ad → gh < ad.block) ∧ Aside0 (Below w11.heap.size w11 wi)) (fun _ v12 _ => 80 - (intOf v12).toNat)
          case atStart => exact ⟨0, A11, c11, Nat.zero_le _, rfl, rfl, C11, G11, ⟨Below.refl _ _⟩⟩
          case round =>
            clear C11 G11
            obtain ⟨i, A11, c11, hi, rfl, rfl, C11, G11, H3⟩ := hrel
            by_cases hlti : i < 80
            · obtain ⟨ad11, hA11, c0⟩ := nW_cell C11.out 0 (by omega)
              subst hA11
              obtain ⟨_, ha, c1⟩ := nW_cell C11.out 1 (by omega)
              cases ha
              obtain ⟨_, ha, c2⟩ := nW_cell C11.out 2 (by omega)
              cases ha
              obtain ⟨_, ha, c3⟩ := nW_cell C11.out 3 (by omega)
              cases ha
              obtain ⟨_, ha, c4⟩ := nW_cell C11.out 4 (by omega)
              cases ha
              obtain ⟨ad7, hA7, cw⟩ := nW_cell (Kd.C_below C7.out H3.out) i hlti
              subst hA7
              have lkw : (i : Int) < 80 := by omega
              have hst := Aside0.mk (show rounds1 ws H (i + 1) = rnd1 (rounds1 ws H i) i (ws.getD i 0) from rfl)
              obtain ⟨V, hV⟩ : ∃ V, rounds1 ws H i = V := ⟨_, rfl⟩
              obtain ⟨WK, hWK⟩ : ∃ V, ws.getD i 0 = V := ⟨_, rfl⟩
              rw [hV] at c0 c1 c2 c3 c4
              rw [hV, hWK] at hst
              rw [hWK] at cw
              clear hV hWK
              obtain ⟨va, vb, vc, vd, ve, vf, vg, vh⟩ := V
              replace c0 : wr.cell? (ad11.add 0) = some (.int .u32 (n32 va)) := c0
              have c0' : wr.cell? ad11 = some (.int .u32 (n32 va)) := by rw [show ad11 = ad11.add 0 by unfold Addr.add; rfl]; exact c0
              clear c0
              have c0 := c0'
              clear c0'
              replace c1 : wr.cell? { block := ad11.block, off := ad11.off + 1 } = some (.int .u32 (n32 vb)) := c1
              replace c2 : wr.cell? { block := ad11.block, off := ad11.off + 2 } = some (.int .u32 (n32 vc)) := c2
              replace c3 : wr.cell? { block := ad11.block, off := ad11.off + 3 } = some (.int .u32 (n32 vd)) := c3
              replace c4 : wr.cell? { block := ad11.block, off := ad11.off + 4 } = some (.int .u32 (n32 ve)) := c4
              rcases (show i < 20 ∨ (20 ≤ i ∧ i < 40) ∨ (40 ≤ i ∧ i < 60) ∨ 60 ≤ i by omega) with h20 | h20 | h20 | h20
              · have e20 : i / 20 = 0 := by omega
                have hff : f1 i ⟨va, vb, vc, vd, ve, vf, vg, vh⟩ = ch vb vc vd := by unfold f1; rw [e20]; rfl
                have hkk : k1 i = 0x5a827999 := by unfold k1; rw [e20]; rfl
                have HFF := Aside0.mk hff
                have HKK := Aside0.mk hkk
                clear e20 hff hkk
                have g0_ : ¬ (60 : Int) ≤ (i : Int) := by omega
                have g1_ : ¬ (40 : Int) ≤ (i : Int) := by omega
                have g2_ : ¬ (20 : Int) ≤ (i : Int) := by omega
                go_wp2
                go_quiet (fail)
                replace c0 : (wr.drewN nq).cell? ad11 = some (.int .u32 (n32 va)) := c0
                replace c1 : (wr.drewN nq).cell? { block := ad11.block, off := ad11.off + 1 } = some (.int .u32 (n32 vb)) := c1
                replace c2 : (wr.drewN nq).cell? { block := ad11.block, off := ad11.off + 2 } = some (.int .u32 (n32 vc)) := c2
                replace c3 : (wr.drewN nq).cell? { block := ad11.block, off := ad11.off + 3 } = some (.int .u32 (n32 vd)) := c3
                replace c4 : (wr.drewN nq).cell? { block := ad11.block, off := ad11.off + 4 } = some (.int .u32 (n32 ve)) := c4
                replace cw : (wr.drewN nq).cell? (ad7.add i) = some (.int .u32 (n32 WK)) := cw
                have h3_ : Below w11.heap.size w11 (wr.drewN nq) := pw_below_drewN H3.out nq
                generalize wr.drewN nq = w15 at c0 c1 c2 c3 c4 cw h3_ ⊢
                clear H3
                have H3 := Aside0.mk h3_
                clear h3_
                go_wp2
                go_quiet ((go_at_call 123; with_reducible exact Calls.quiet_of_same (left_5 va _)))
                replace c0 : (w15.drewN nq).cell? ad11 = some (.int .u32 (n32 va)) := c0
                replace c1 : (w15.drewN nq).cell? { block := ad11.block, off := ad11.off + 1 } = some (.int .u32 (n32 vb)) := c1
                replace c2 : (w15.drewN nq).cell? { block := ad11.block, off := ad11.off + 2 } = some (.int .u32 (n32 vc)) := c2
                replace c3 : (w15.drewN nq).cell? { block := ad11.block, off := ad11.off + 3 } = some (.int .u32 (n32 vd)) := c3
                replace c4 : (w15.drewN nq).cell? { block := ad11.block, off := ad11.off + 4 } = some (.int .u32 (n32 ve)) := c4
                replace cw : (w15.drewN nq).cell? (ad7.add i) = some (.int .u32 (n32 WK)) := cw
                have h3_ : Below w11.heap.size w11 (w15.drewN nq) := pw_below_drewN H3.out nq
                generalize w15.drewN nq = w17 at c0 c1 c2 c3 c4 cw h3_ ⊢
                clear H3
                have H3 := Aside0.mk h3_
                clear h3_
                obtain ⟨TT, hTT⟩ : ∃ x, rl va 5 + (ch vb vc vd) + ve + 0x5a827999 + WK = x := ⟨_, rfl⟩
                rw [tA, hTT]
                have hs2 := Aside0.mk (show rounds1 ws H (i + 1) = ⟨TT, va, rl vb 30, vc, vd, 0, 0, 0⟩ by rw [hst.out, ← hTT]; unfold rnd1 t1; rw [HFF.out, HKK.out])
                clear hTT hst HFF HKK
                go_wp2
                refine start_ (n := 16) (S := fun w' => w'.cell? ad11 = some (.int .u32 (n32 va)) ∧ w'.cell? { block := ad11.block, off := ad11.off + 1 } = some (.int .u32 (n32 vb)) ∧ w'.cell? { block := ad11.block, off := ad11.off + 2 } = some (.int .u32 (n32 vc)) ∧ w'.cell? { block := ad11.block, off := ad11.off + 3 } = some (.int .u32 (n32 vd))) (ds := [14, 15]) #[false, false, false, false, false, false, false, false, false, false, false, false, false, false, false, false] (by kernel_rfl) rfl rfl ⟨c0, c1, c2, c3⟩ (fun hHeld => ?_)
                have h3_ : Below w11.heap.size w11 w17.drew := below_drew H3.out
                replace c0 : (w17.drew).cell? ad11 = some (.int .u32 (n32 va)) := c0
                replace c1 : (w17.drew).cell? { block := ad11.block, off := ad11.off + 1 } = some (.int .u32 (n32 vb)) := c1
                replace c2 : (w17.drew).cell? { block := ad11.block, off := ad11.off + 2 } = some (.int .u32 (n32 vc)) := c2
                replace c3 : (w17.drew).cell? { block := ad11.block, off := ad11.off + 3 } = some (.int .u32 (n32 vd)) := c3
                generalize w17.drew = w20 at h3_ hHeld c0 c1 c2 c3 ⊢
                clear H3
                have H3 := Aside0.mk h3_
                clear h3_
                refine pure_ (i := 0) (N := some 154) (v := ?_) (a' := ?_) #[true, false, false, false, false, false, false, false, false, false, false, false, false, false, false, false] rfl rfl (by kernel_rfl) (fun _ _ _ h => h) (Or.inl ⟨by rfl, ?_⟩) ?_ ?_
                rotate_left
                · intro w'
                  go_simp
                  with_reducible rfl
                rotate_left
                · simp only [Act.put, List.setIfInBounds_toArray, List.set_cons_zero, List.set_cons_succ, i64_w, i32_w]
                  rfl
                refine pure_ (i := 1) (N := some 155) (v := ?_) (a' := ?_) #[true, true, false, false, false, false, false, false, false, false, false, false, false, false, false, false] rfl rfl (by kernel_rfl) (fun _ _ _ h => h) (Or.inl ⟨by rfl, ?_⟩) ?_ ?_
                rotate_left
                · intro w'
                  go_simp
                  with_reducible rfl
                rotate_left
                · simp only [Act.put, List.setIfInBounds_toArray, List.set_cons_zero, List.set_cons_succ, i64_w, i32_w]
                  rfl
                refine pure_ (i := 2) (N := some 156) (v := ?_) (a' := ?_) #[true, true, true, false, false, false, false, false, false, false, false, false, false, false, false, false] rfl rfl (by kernel_rfl) (fun _ _ _ h => h) (Or.inl ⟨by rfl, ?_⟩) ?_ ?_
                rotate_left
                · intro w'
                  go_simp
                  with_reducible rfl
                rotate_left
                · simp only [Act.put, List.setIfInBounds_toArray, List.set_cons_zero, List.set_cons_succ, i64_w, i32_w]
                  rfl
                refine take_ (i := 3) (N := some 157) (v := ?_) (a' := ?_) #[true, true, true, true, false, false, false, false, false, false, false, false, false, false, false, false] rfl rfl (by kernel_rfl) (fun _ _ _ h => h) (Or.inl ⟨by rfl, ?_⟩) hHeld ?_ ?_
                rotate_left
                · rintro w' ⟨s0, s1, s2, s3⟩
                  go_simp
                  with_reducible rfl
                rotate_left
                · simp only [Act.put, List.setIfInBounds_toArray, List.set_cons_zero, List.set_cons_succ, i64_w, i32_w]
                  rfl
                refine pure_ (i := 4) (N := some 158) (v := ?_) (a' := ?_) #[true, true, true, true, true, false, false, false, false, false, false, false, false, false, false, false] rfl rfl (by kernel_rfl) (fun _ _ _ h => h) (Or.inl ⟨by rfl, ?_⟩) ?_ ?_
                rotate_left
                · intro w'
                  go_simp
                  with_reducible rfl
                rotate_left
                · simp only [Act.put, List.setIfInBounds_toArray, List.set_cons_zero, List.set_cons_succ, i64_w, i32_w]
                  rfl
                refine pure_ (i := 5) (N := some 159) (v := ?_) (a' := ?_) #[true, true, true, true, true, true, false, false, false, false, false, false, false, false, false, false] rfl rfl (by kernel_rfl) (fun _ _ _ h => h) (Or.inl ⟨by rfl, ?_⟩) ?_ ?_
                rotate_left
                · intro w'
                  go_simp
                  with_reducible rfl
                rotate_left
                · simp only [Act.put, List.setIfInBounds_toArray, List.set_cons_zero, List.set_cons_succ, i64_w, i32_w]
                  rfl
                refine take_ (i := 6) (N := some 160) (v := ?_) (a' := ?_) #[true, true, true, true, true, true, true, false, false, false, false, false, false, false, false, false] rfl rfl (by kernel_rfl) (fun _ _ _ h => h) (Or.inl ⟨by rfl, ?_⟩) hHeld ?_ ?_
                rotate_left
                · rintro w' ⟨s0, s1, s2, s3⟩
                  go_simp
                  with_reducible rfl
                rotate_left
                · simp only [Act.put, List.setIfInBounds_toArray, List.set_cons_zero, List.set_cons_succ, i64_w, i32_w]
                  rfl
                refine takeC_ (i := 7) (N := some 161) (v := (.int .u32 (n32 (rl vb 30)))) (a' := ?_) #[true, true, true, true, true, true, true, true, false, false, false, false, false, false, false, false] rfl rfl (by kernel_rfl) (fun _ _ _ h => h) (by rfl) 123 #[.int .u32 (n32 vb), .int .i64 30] ?_ (fun w => left_30 vb w) hHeld ?_ ?_
                · intro w'
                  go_simp
                  try (with_reducible rfl)
                rotate_left
                · simp only [Act.put, List.setIfInBounds_toArray, List.set_cons_zero, List.set_cons_succ, i64_w, i32_w]
                  rfl
                refine pure_ (i := 8) (N := some 162) (v := ?_) (a' := ?_) #[true, true, true, true, true, true, true, true, true, false, false, false, false, false, false, false] rfl rfl (by kernel_rfl) (fun _ _ _ h => h) (Or.inl ⟨by rfl, ?_⟩) ?_ ?_
                rotate_left
                · intro w'
                  go_simp
                  with_reducible rfl
                rotate_left
                · simp only [Act.put, List.setIfInBounds_toArray, List.set_cons_zero, List.set_cons_succ, i64_w, i32_w]
                  rfl
                refine pure_ (i := 9) (N := some 163) (v := ?_) (a' := ?_) #[true, true, true, true, true, true, true, true, true, true, false, false, false, false, false, false] rfl rfl (by kernel_rfl) (fun _ _ _ h => h) (Or.inl ⟨by rfl, ?_⟩) ?_ ?_
                rotate_left
                · intro w'
                  go_simp
                  with_reducible rfl
                rotate_left
                · simp only [Act.put, List.setIfInBounds_toArray, List.set_cons_zero, List.set_cons_succ, i64_w, i32_w]
                  rfl
                refine take_ (i := 10) (N := some 164) (v := ?_) (a' := ?_) #[true, true, true, true, true, true, true, true, true, true, true, false, false, false, false, false] rfl rfl (by kernel_rfl) (fun _ _ _ h => h) (Or.inl ⟨by rfl, ?_⟩) hHeld ?_ ?_
                rotate_left
                · rintro w' ⟨s0, s1, s2, s3⟩
                  go_simp
                  with_reducible rfl
                rotate_left
                · simp only [Act.put, List.setIfInBounds_toArray, List.set_cons_zero, List.set_cons_succ, i64_w, i32_w]
                  rfl
                refine pure_ (i := 11) (N := some 165) (v := ?_) (a' := ?_) #[true, true, true, true, true, true, true, true, true, true, true, true, false, false, false, false] rfl rfl (by kernel_rfl) (fun _ _ _ h => h) (Or.inl ⟨by rfl, ?_⟩) ?_ ?_
                rotate_left
                · intro w'
                  go_simp
                  with_reducible rfl
                rotate_left
                · simp only [Act.put, List.setIfInBounds_toArray, List.set_cons_zero, List.set_cons_succ, i64_w, i32_w]
                  rfl
                refine pure_ (i := 12) (N := some 166) (v := ?_) (a' := ?_) #[true, true, true, true, true, true, true, true, true, true, true, true, true, false, false, false] rfl rfl (by kernel_rfl) (fun _ _ _ h => h) (Or.inl ⟨by rfl, ?_⟩) ?_ ?_
                rotate_left
                · intro w'
                  go_simp
                  with_reducible rfl
                rotate_left
                · simp only [Act.put, List.setIfInBounds_toArray, List.set_cons_zero, List.set_cons_succ, i64_w, i32_w]
                  rfl
                refine take_ (i := 13) (N := some 167) (v := ?_) (a' := ?_) #[true, true, true, true, true, true, true, true, true, true, true, true, true, true, false, false] rfl rfl (by kernel_rfl) (fun _ _ _ h => h) (Or.inl ⟨by rfl, ?_⟩) hHeld ?_ ?_
                rotate_left
                · rintro w' ⟨s0, s1, s2, s3⟩
                  go_simp
                  with_reducible rfl
                rotate_left
                · simp only [Act.put, List.setIfInBounds_toArray, List.set_cons_zero, List.set_cons_succ, i64_w, i32_w]
                  rfl
                clear c0 c1 c2 c3 c4 cw hHeld
                refine last_ (i := 14) (N := some 168) #[true, true, true, true, true, true, true, true, true, true, true, true, true, true, true, false] rfl rfl (by kernel_rfl) (by decide) (fun K hK => ?_)
                refine value_ (w1 := w20.alloc (.cells #[.int .u32 (n32 TT), .int .u32 (n32 va), .int .u32 (n32 (rl vb 30)), .int .u32 (n32 vc), .int .u32 (n32 vd)] 133)) (v := .slice (some ⟨w20.heap.size, 0, none⟩) 5 5) (by rfl) rfl ?_ ?_
                · go_simp
                  try rfl
                refine hK.out _ _ ?_
                clear hK K
                refine norm_ (a' := ?_) ?_ ?_
                rotate_left
                · show Act.put _ (some 168) _ = _
                  simp only [Act.put, List.setIfInBounds_toArray, List.set_cons_zero, List.set_cons_succ, i64_w, i32_w]
                  rfl
                have cz_ : (w20.alloc (.cells #[.int .u32 (n32 TT), .int .u32 (n32 va), .int .u32 (n32 (rl vb 30)), .int .u32 (n32 vc), .int .u32 (n32 vd)] 133)).heap[w20.heap.size]? = some (.cells (aU32 ((rounds1 ws H (i + 1)).l.take 5)) 133 (0, 0)) := by rw [hs2.out]; exact blk_new _ _
                have bz_ : Below w20.heap.size w20 (w20.alloc (.cells #[.int .u32 (n32 TT), .int .u32 (n32 va), .int .u32 (n32 (rl vb 30)), .int .u32 (n32 vc), .int .u32 (n32 vd)] 133)) := below_alloc (Below.refl _ _) _
                have hz_ : wo.heap.size ≤ w20.heap.size := Nat.le_trans HI11.out.size H3.out.size
                generalize w20.alloc (.cells #[.int .u32 (n32 TT), .int .u32 (n32 va), .int .u32 (n32 (rl vb 30)), .int .u32 (n32 vc), .int .u32 (n32 vd)] 133) = wz at cz_ bz_ ⊢
                have CZ := Aside0.mk cz_
                have BZ := Aside0.mk (below_step H3.out bz_)
                have HZ := Aside0.mk hz_
                clear cz_ bz_ hz_
                refine last_ (i := 15) (N := some 8) #[true, true, true, true, true, true, true, true, true, true, true, true, true, true, true, true] rfl rfl (by kernel_rfl) (by decide) (fun K hK => ?_)
                refine value_ (w1 := ?_) (v := ?_) (by rfl) rfl ?_ ?_
                rotate_left 2
                · go_simp
                  constructor
                  · rfl
                  · rfl
                refine hK.out _ _ ?_
                clear hK K
                refine norm_ (a' := ?_) ?_ ?_
                rotate_left
                · show Act.put _ (some 8) _ = _
                  simp only [Act.put, List.setIfInBounds_toArray, List.set_cons_zero, List.set_cons_succ, i64_w, i32_w]
                  rfl
                refine done_ (by kernel_rfl) ?_
                go_wp2
                go_roundw
                · exact ⟨i + 1, some ⟨w20.heap.size, 0, none⟩, 5, by omega, by simp, rfl, ⟨C_words _ _ _ _ CZ.out (by rw [T5_len]; omega) 5 rfl⟩, ⟨fun ad h => by cases h; show gh < w20.heap.size; have := HZ.out; have := HGH.out; omega⟩, BZ⟩
                · show 80 - ((i : Int) + 1).toNat < 80 - (i : Int).toNat; omega
              · have e20 : i / 20 = 1 := by omega
                have hff : f1 i ⟨va, vb, vc, vd, ve, vf, vg, vh⟩ = vb ^^^ vc ^^^ vd := by unfold f1; rw [e20]; rfl
                have hkk : k1 i = 0x6ed9eba1 := by unfold k1; rw [e20]; rfl
                have HFF := Aside0.mk hff
                have HKK := Aside0.mk hkk
                clear e20 hff hkk
                have g0_ : ¬ (60 : Int) ≤ (i : Int) := by omega
                have g1_ : ¬ (40 : Int) ≤ (i : Int) := by omega
                have g2_ : (20 : Int) ≤ (i : Int) := by omega
                go_wp2
                go_quiet (fail)
                replace c0 : (wr.drewN nq).cell? ad11 = some (.int .u32 (n32 va)) := c0
                replace c1 : (wr.drewN nq).cell? { block := ad11.block, off := ad11.off + 1 } = some (.int .u32 (n32 vb)) := c1
                replace c2 : (wr.drewN nq).cell? { block := ad11.block, off := ad11.off + 2 } = some (.int .u32 (n32 vc)) := c2
                replace c3 : (wr.drewN nq).cell? { block := ad11.block, off := ad11.off + 3 } = some (.int .u32 (n32 vd)) := c3
                replace c4 : (wr.drewN nq).cell? { block := ad11.block, off := ad11.off + 4 } = some (.int .u32 (n32 ve)) := c4
                replace cw : (wr.drewN nq).cell? (ad7.add i) = some (.int .u32 (n32 WK)) := cw
                have h3_ : Below w11.heap.size w11 (wr.drewN nq) := pw_below_drewN H3.out nq
                generalize wr.drewN nq = w15 at c0 c1 c2 c3 c4 cw h3_ ⊢
                clear H3
                have H3 := Aside0.mk h3_
                clear h3_
                go_wp2
                go_quiet (fail)
                replace c0 : (w15.drewN nq).cell? ad11 = some (.int .u32 (n32 va)) := c0
                replace c1 : (w15.drewN nq).cell? { block := ad11.block, off := ad11.off + 1 } = some (.int .u32 (n32 vb)) := c1
                replace c2 : (w15.drewN nq).cell? { block := ad11.block, off := ad11.off + 2 } = some (.int .u32 (n32 vc)) := c2
                replace c3 : (w15.drewN nq).cell? { block := ad11.block, off := ad11.off + 3 } = some (.int .u32 (n32 vd)) := c3
                replace c4 : (w15.drewN nq).cell? { block := ad11.block, off := ad11.off + 4 } = some (.int .u32 (n32 ve)) := c4
                replace cw : (w15.drewN nq).cell? (ad7.add i) = some (.int .u32 (n32 WK)) := cw
                have h3_ : Below w11.heap.size w11 (w15.drewN nq) := pw_below_drewN H3.out nq
                generalize w15.drewN nq = w16 at c0 c1 c2 c3 c4 cw h3_ ⊢
                clear H3
                have H3 := Aside0.mk h3_
                clear h3_
                go_wp2
                go_quiet ((go_at_call 123; with_reducible exact Calls.quiet_of_same (left_5 va _)))
                replace c0 : (w16.drewN nq).cell? ad11 = some (.int .u32 (n32 va)) := c0
                replace c1 : (w16.drewN nq).cell? { block := ad11.block, off := ad11.off + 1 } = some (.int .u32 (n32 vb)) := c1
                replace c2 : (w16.drewN nq).cell? { block := ad11.block, off := ad11.off + 2 } = some (.int .u32 (n32 vc)) := c2
                replace c3 : (w16.drewN nq).cell? { block := ad11.block, off := ad11.off + 3 } = some (.int .u32 (n32 vd)) := c3
                replace c4 : (w16.drewN nq).cell? { block := ad11.block, off := ad11.off + 4 } = some (.int .u32 (n32 ve)) := c4
                replace cw : (w16.drewN nq).cell? (ad7.add i) = some (.int .u32 (n32 WK)) := cw
                have h3_ : Below w11.heap.size w11 (w16.drewN nq) := pw_below_drewN H3.out nq
                generalize w16.drewN nq = w17 at c0 c1 c2 c3 c4 cw h3_ ⊢
                clear H3
                have H3 := Aside0.mk h3_
                clear h3_
                obtain ⟨TT, hTT⟩ : ∃ x, rl va 5 + (vb ^^^ vc ^^^ vd) + ve + 0x6ed9eba1 + WK = x := ⟨_, rfl⟩
                rw [tB, hTT]
                have hs2 := Aside0.mk (show rounds1 ws H (i + 1) = ⟨TT, va, rl vb 30, vc, vd, 0, 0, 0⟩ by rw [hst.out, ← hTT]; unfold rnd1 t1; rw [HFF.out, HKK.out])
                clear hTT hst HFF HKK
                go_wp2
                refine start_ (n := 16) (S := fun w' => w'.cell? ad11 = some (.int .u32 (n32 va)) ∧ w'.cell? { block := ad11.block, off := ad11.off + 1 } = some (.int .u32 (n32 vb)) ∧ w'.cell? { block := ad11.block, off := ad11.off + 2 } = some (.int .u32 (n32 vc)) ∧ w'.cell? { block := ad11.block, off := ad11.off + 3 } = some (.int .u32 (n32 vd))) (ds := [14, 15]) #[false, false, false, false, false, false, false, false, false, false, false, false, false, false, false, false] (by kernel_rfl) rfl rfl ⟨c0, c1, c2, c3⟩ (fun hHeld => ?_)
                have h3_ : Below w11.heap.size w11 w17.drew := below_drew H3.out
                replace c0 : (w17.drew).cell? ad11 = some (.int .u32 (n32 va)) := c0
                replace c1 : (w17.drew).cell? { block := ad11.block, off := ad11.off + 1 } = some (.int .u32 (n32 vb)) := c1
                replace c2 : (w17.drew).cell? { block := ad11.block, off := ad11.off + 2 } = some (.int .u32 (n32 vc)) := c2
                replace c3 : (w17.drew).cell? { block := ad11.block, off := ad11.off + 3 } = some (.int .u32 (n32 vd)) := c3
                generalize w17.drew = w20 at h3_ hHeld c0 c1 c2 c3 ⊢
                clear H3
                have H3 := Aside0.mk h3_
                clear h3_
                refine pure_ (i := 0) (N := some 154) (v := ?_) (a' := ?_) #[true, false, false, false, false, false, false, false, false, false, false, false, false, false, false, false] rfl rfl (by kernel_rfl) (fun _ _ _ h => h) (Or.inl ⟨by rfl, ?_⟩) ?_ ?_
                rotate_left
                · intro w'
                  go_simp
                  with_reducible rfl
                rotate_left
                · simp only [Act.put, List.setIfInBounds_toArray, List.set_cons_zero, List.set_cons_succ, i64_w, i32_w]
                  rfl
                refine pure_ (i := 1) (N := some 155) (v := ?_) (a' := ?_) #[true, true, false, false, false, false, false, false, false, false, false, false, false, false, false, false] rfl rfl (by kernel_rfl) (fun _ _ _ h => h) (Or.inl ⟨by rfl, ?_⟩) ?_ ?_
                rotate_left
                · intro w'
                  go_simp
                  with_reducible rfl
                rotate_left
                · simp only [Act.put, List.setIfInBounds_toArray, List.set_cons_zero, List.set_cons_succ, i64_w, i32_w]
                  rfl
                refine pure_ (i := 2) (N := some 156) (v := ?_) (a' := ?_) #[true, true, true, false, false, false, false, false, false, false, false, false, false, false, false, false] rfl rfl (by kernel_rfl) (fun _ _ _ h => h) (Or.inl ⟨by rfl, ?_⟩) ?_ ?_
                rotate_left
                · intro w'
                  go_simp
                  with_reducible rfl
                rotate_left
                · simp only [Act.put, List.setIfInBounds_toArray, List.set_cons_zero, List.set_cons_succ, i64_w, i32_w]
                  rfl
                refine take_ (i := 3) (N := some 157) (v := ?_) (a' := ?_) #[true, true, true, true, false, false, false, false, false, false, false, false, false, false, false, false] rfl rfl (by kernel_rfl) (fun _ _ _ h => h) (Or.inl ⟨by rfl, ?_⟩) hHeld ?_ ?_
                rotate_left
                · rintro w' ⟨s0, s1, s2, s3⟩
                  go_simp
                  with_reducible rfl
                rotate_left
                · simp only [Act.put, List.setIfInBounds_toArray, List.set_cons_zero, List.set_cons_succ, i64_w, i32_w]
                  rfl
                refine pure_ (i := 4) (N := some 158) (v := ?_) (a' := ?_) #[true, true, true, true, true, false, false, false, false, false, false, false, false, false, false, false] rfl rfl (by kernel_rfl) (fun _ _ _ h => h) (Or.inl ⟨by rfl, ?_⟩) ?_ ?_
                rotate_left
                · intro w'
                  go_simp
                  with_reducible rfl
                rotate_left
                · simp only [Act.put, List.setIfInBounds_toArray, List.set_cons_zero, List.set_cons_succ, i64_w, i32_w]
                  rfl
                refine pure_ (i := 5) (N := some 159) (v := ?_) (a' := ?_) #[true, true, true, true, true, true, false, false, false, false, false, false, false, false, false, false] rfl rfl (by kernel_rfl) (fun _ _ _ h => h) (Or.inl ⟨by rfl, ?_⟩) ?_ ?_
                rotate_left
                · intro w'
                  go_simp
                  with_reducible rfl
                rotate_left
                · simp only [Act.put, List.setIfInBounds_toArray, List.set_cons_zero, List.set_cons_succ, i64_w, i32_w]
                  rfl
                refine take_ (i := 6) (N := some 160) (v := ?_) (a' := ?_) #[true, true, true, true, true, true, true, false, false, false, false, false, false, false, false, false] rfl rfl (by kernel_rfl) (fun _ _ _ h => h) (Or.inl ⟨by rfl, ?_⟩) hHeld ?_ ?_
                rotate_left
                · rintro w' ⟨s0, s1, s2, s3⟩
                  go_simp
                  with_reducible rfl
                rotate_left
                · simp only [Act.put, List.setIfInBounds_toArray, List.set_cons_zero, List.set_cons_succ, i64_w, i32_w]
                  rfl
                refine takeC_ (i := 7) (N := some 161) (v := (.int .u32 (n32 (rl vb 30)))) (a' := ?_) #[true, true, true, true, true, true, true, true, false, false, false, false, false, false, false, false] rfl rfl (by kernel_rfl) (fun _ _ _ h => h) (by rfl) 123 #[.int .u32 (n32 vb), .int .i64 30] ?_ (fun w => left_30 vb w) hHeld ?_ ?_
                · intro w'
                  go_simp
                  try (with_reducible rfl)
                rotate_left
                · simp only [Act.put, List.setIfInBounds_toArray, List.set_cons_zero, List.set_cons_succ, i64_w, i32_w]
                  rfl
                refine pure_ (i := 8) (N := some 162) (v := ?_) (a' := ?_) #[true, true, true, true, true, true, true, true, true, false, false, false, false, false, false, false] rfl rfl (by kernel_rfl) (fun _ _ _ h => h) (Or.inl ⟨by rfl, ?_⟩) ?_ ?_
                rotate_left
                · intro w'
                  go_simp
                  with_reducible rfl
                rotate_left
                · simp only [Act.put, List.setIfInBounds_toArray, List.set_cons_zero, List.set_cons_succ, i64_w, i32_w]
                  rfl
                refine pure_ (i := 9) (N := some 163) (v := ?_) (a' := ?_) #[true, true, true, true, true, true, true, true, true, true, false, false, false, false, false, false] rfl rfl (by kernel_rfl) (fun _ _ _ h => h) (Or.inl ⟨by rfl, ?_⟩) ?_ ?_
                rotate_left
                · intro w'
                  go_simp
                  with_reducible rfl
                rotate_left
                · simp only [Act.put, List.setIfInBounds_toArray, List.set_cons_zero, List.set_cons_succ, i64_w, i32_w]
                  rfl
                refine take_ (i := 10) (N := some 164) (v := ?_) (a' := ?_) #[true, true, true, true, true, true, true, true, true, true, true, false, false, false, false, false] rfl rfl (by kernel_rfl) (fun _ _ _ h => h) (Or.inl ⟨by rfl, ?_⟩) hHeld ?_ ?_
                rotate_left
                · rintro w' ⟨s0, s1, s2, s3⟩
                  go_simp
                  with_reducible rfl
                rotate_left
                · simp only [Act.put, List.setIfInBounds_toArray, List.set_cons_zero, List.set_cons_succ, i64_w, i32_w]
                  rfl
                refine pure_ (i := 11) (N := some 165) (v := ?_) (a' := ?_) #[true, true, true, true, true, true, true, true, true, true, true, true, false, false, false, false] rfl rfl (by kernel_rfl) (fun _ _ _ h => h) (Or.inl ⟨by rfl, ?_⟩) ?_ ?_
                rotate_left
                · intro w'
                  go_simp
                  with_reducible rfl
                rotate_left
                · simp only [Act.put, List.setIfInBounds_toArray, List.set_cons_zero, List.set_cons_succ, i64_w, i32_w]
                  rfl
                refine pure_ (i := 12) (N := some 166) (v := ?_) (a' := ?_) #[true, true, true, true, true, true, true, true, true, true, true, true, true, false, false, false] rfl rfl (by kernel_rfl) (fun _ _ _ h => h) (Or.inl ⟨by rfl, ?_⟩) ?_ ?_
                rotate_left
                · intro w'
                  go_simp
                  with_reducible rfl
                rotate_left
                · simp only [Act.put, List.setIfInBounds_toArray, List.set_cons_zero, List.set_cons_succ, i64_w, i32_w]
                  rfl
                refine take_ (i := 13) (N := some 167) (v := ?_) (a' := ?_) #[true, true, true, true, true, true, true, true, true, true, true, true, true, true, false, false] rfl rfl (by kernel_rfl) (fun _ _ _ h => h) (Or.inl ⟨by rfl, ?_⟩) hHeld ?_ ?_
                rotate_left
                · rintro w' ⟨s0, s1, s2, s3⟩
                  go_simp
                  with_reducible rfl
                rotate_left
                · simp only [Act.put, List.setIfInBounds_toArray, List.set_cons_zero, List.set_cons_succ, i64_w, i32_w]
                  rfl
                clear c0 c1 c2 c3 c4 cw hHeld
                refine last_ (i := 14) (N := some 168) #[true, true, true, true, true, true, true, true, true, true, true, true, true, true, true, false] rfl rfl (by kernel_rfl) (by decide) (fun K hK => ?_)
                refine value_ (w1 := w20.alloc (.cells #[.int .u32 (n32 TT), .int .u32 (n32 va), .int .u32 (n32 (rl vb 30)), .int .u32 (n32 vc), .int .u32 (n32 vd)] 133)) (v := .slice (some ⟨w20.heap.size, 0, none⟩) 5 5) (by rfl) rfl ?_ ?_
                · go_simp
                  try rfl
                refine hK.out _ _ ?_
                clear hK K
                refine norm_ (a' := ?_) ?_ ?_
                rotate_left
                · show Act.put _ (some 168) _ = _
                  simp only [Act.put, List.setIfInBounds_toArray, List.set_cons_zero, List.set_cons_succ, i64_w, i32_w]
                  rfl
                have cz_ : (w20.alloc (.cells #[.int .u32 (n32 TT), .int .u32 (n32 va), .int .u32 (n32 (rl vb 30)), .int .u32 (n32 vc), .int .u32 (n32 vd)] 133)).heap[w20.heap.size]? = some (.cells (aU32 ((rounds1 ws H (i + 1)).l.take 5)) 133 (0, 0)) := by rw [hs2.out]; exact blk_new _ _
                have bz_ : Below w20.heap.size w20 (w20.alloc (.cells #[.int .u32 (n32 TT), .int .u32 (n32 va), .int .u32 (n32 (rl vb 30)), .int .u32 (n32 vc), .int .u32 (n32 vd)] 133)) := below_alloc (Below.refl _ _) _
                have hz_ : wo.heap.size ≤ w20.heap.size := Nat.le_trans HI11.out.size H3.out.size
                generalize w20.alloc (.cells #[.int .u32 (n32 TT), .int .u32 (n32 va), .int .u32 (n32 (rl vb 30)), .int .u32 (n32 vc), .int .u32 (n32 vd)] 133) = wz at cz_ bz_ ⊢
                have CZ := Aside0.mk cz_
                have BZ := Aside0.mk (below_step H3.out bz_)
                have HZ := Aside0.mk hz_
                clear cz_ bz_ hz_
                refine last_ (i := 15) (N := some 8) #[true, true, true, true, true, true, true, true, true, true, true, true, true, true, true, true] rfl rfl (by kernel_rfl) (by decide) (fun K hK => ?_)
                refine value_ (w1 := ?_) (v := ?_) (by rfl) rfl ?_ ?_
                rotate_left 2
                · go_simp
                  constructor
                  · rfl
                  · rfl
                refine hK.out _ _ ?_
                clear hK K
                refine norm_ (a' := ?_) ?_ ?_
                rotate_left
                · show Act.put _ (some 8) _ = _
                  simp only [Act.put, List.setIfInBounds_toArray, List.set_cons_zero, List.set_cons_succ, i64_w, i32_w]
                  rfl
                refine done_ (by kernel_rfl) ?_
                go_wp2
                go_roundw
                · exact ⟨i + 1, some ⟨w20.heap.size, 0, none⟩, 5, by omega, by simp, rfl, ⟨C_words _ _ _ _ CZ.out (by rw [T5_len]; omega) 5 rfl⟩, ⟨fun ad h => by cases h; show gh < w20.heap.size; have := HZ.out; have := HGH.out; omega⟩, BZ⟩
                · show 80 - ((i : Int) + 1).toNat < 80 - (i : Int).toNat; omega
              · have e20 : i / 20 = 2 := by omega
                have hff : f1 i ⟨va, vb, vc, vd, ve, vf, vg, vh⟩ = maj vb vc vd := by unfold f1; rw [e20]; rfl
                have hkk : k1 i = 0x8f1bbcdc := by unfold k1; rw [e20]; rfl
                have HFF := Aside0.mk hff
                have HKK := Aside0.mk hkk
                clear e20 hff hkk
                have g0_ : ¬ (60 : Int) ≤ (i : Int) := by omega
                have g1_ : (40 : Int) ≤ (i : Int) := by omega
                go_wp2
                go_quiet (fail)
                replace c0 : (wr.drewN nq).cell? ad11 = some (.int .u32 (n32 va)) := c0
                replace c1 : (wr.drewN nq).cell? { block := ad11.block, off := ad11.off + 1 } = some (.int .u32 (n32 vb)) := c1
                replace c2 : (wr.drewN nq).cell? { block := ad11.block, off := ad11.off + 2 } = some (.int .u32 (n32 vc)) := c2
                replace c3 : (wr.drewN nq).cell? { block := ad11.block, off := ad11.off + 3 } = some (.int .u32 (n32 vd)) := c3
                replace c4 : (wr.drewN nq).cell? { block := ad11.block, off := ad11.off + 4 } = some (.int .u32 (n32 ve)) := c4
                replace cw : (wr.drewN nq).cell? (ad7.add i) = some (.int .u32 (n32 WK)) := cw
                have h3_ : Below w11.heap.size w11 (wr.drewN nq) := pw_below_drewN H3.out nq
                generalize wr.drewN nq = w15 at c0 c1 c2 c3 c4 cw h3_ ⊢
                clear H3
                have H3 := Aside0.mk h3_
                clear h3_
                go_wp2
                go_quiet (fail)
                replace c0 : (w15.drewN nq).cell? ad11 = some (.int .u32 (n32 va)) := c0
                replace c1 : (w15.drewN nq).cell? { block := ad11.block, off := ad11.off + 1 } = some (.int .u32 (n32 vb)) := c1
                replace c2 : (w15.drewN nq).cell? { block := ad11.block, off := ad11.off + 2 } = some (.int .u32 (n32 vc)) := c2
                replace c3 : (w15.drewN nq).cell? { block := ad11.block, off := ad11.off + 3 } = some (.int .u32 (n32 vd)) := c3
                replace c4 : (w15.drewN nq).cell? { block := ad11.block, off := ad11.off + 4 } = some (.int .u32 (n32 ve)) := c4
                replace cw : (w15.drewN nq).cell? (ad7.add i) = some (.int .u32 (n32 WK)) := cw
                have h3_ : Below w11.heap.size w11 (w15.drewN nq) := pw_below_drewN H3.out nq
                generalize w15.drewN nq = w16 at c0 c1 c2 c3 c4 cw h3_ ⊢
                clear H3
                have H3 := Aside0.mk h3_
                clear h3_
                go_wp2
                go_quiet ((go_at_call 123; with_reducible exact Calls.quiet_of_same (left_5 va _)))
                replace c0 : (w16.drewN nq).cell? ad11 = some (.int .u32 (n32 va)) := c0
                replace c1 : (w16.drewN nq).cell? { block := ad11.block, off := ad11.off + 1 } = some (.int .u32 (n32 vb)) := c1
                replace c2 : (w16.drewN nq).cell? { block := ad11.block, off := ad11.off + 2 } = some (.int .u32 (n32 vc)) := c2
                replace c3 : (w16.drewN nq).cell? { block := ad11.block, off := ad11.off + 3 } = some (.int .u32 (n32 vd)) := c3
                replace c4 : (w16.drewN nq).cell? { block := ad11.block, off := ad11.off + 4 } = some (.int .u32 (n32 ve)) := c4
                replace cw : (w16.drewN nq).cell? (ad7.add i) = some (.int .u32 (n32 WK)) := cw
                have h3_ : Below w11.heap.size w11 (w16.drewN nq) := pw_below_drewN H3.out nq
                generalize w16.drewN nq = w17 at c0 c1 c2 c3 c4 cw h3_ ⊢
                clear H3
                have H3 := Aside0.mk h3_
                clear h3_
                obtain ⟨TT, hTT⟩ : ∃ x, rl va 5 + (maj vb vc vd) + ve + 0x8f1bbcdc + WK = x := ⟨_, rfl⟩
                rw [tC, hTT]
                have hs2 := Aside0.mk (show rounds1 ws H (i + 1) = ⟨TT, va, rl vb 30, vc, vd, 0, 0, 0⟩ by rw [hst.out, ← hTT]; unfold rnd1 t1; rw [HFF.out, HKK.out])
                clear hTT hst HFF HKK
                go_wp2
                refine start_ (n := 16) (S := fun w' => w'.cell? ad11 = some (.int .u32 (n32 va)) ∧ w'.cell? { block := ad11.block, off := ad11.off + 1 } = some (.int .u32 (n32 vb)) ∧ w'.cell? { block := ad11.block, off := ad11.off + 2 } = some (.int .u32 (n32 vc)) ∧ w'.cell? { block := ad11.block, off := ad11.off + 3 } = some (.int .u32 (n32 vd))) (ds := [14, 15]) #[false, false, false, false, false, false, false, false, false, false, false, false, false, false, false, false] (by kernel_rfl) rfl rfl ⟨c0, c1, c2, c3⟩ (fun hHeld => ?_)
                have h3_ : Below w11.heap.size w11 w17.drew := below_drew H3.out
                replace c0 : (w17.drew).cell? ad11 = some (.int .u32 (n32 va)) := c0
                replace c1 : (w17.drew).cell? { block := ad11.block, off := ad11.off + 1 } = some (.int .u32 (n32 vb)) := c1
                replace c2 : (w17.drew).cell? { block := ad11.block, off := ad11.off + 2 } = some (.int .u32 (n32 vc)) := c2
                replace c3 : (w17.drew).cell? { block := ad11.block, off := ad11.off + 3 } = some (.int .u32 (n32 vd)) := c3
                generalize w17.drew = w20 at h3_ hHeld c0 c1 c2 c3 ⊢
                clear H3
                have H3 := Aside0.mk h3_
                clear h3_
                refine pure_ (i := 0) (N := some 154) (v := ?_) (a' := ?_) #[true, false, false, false, false, false, false, false, false, false, false, false, false, false, false, false] rfl rfl (by kernel_rfl) (fun _ _ _ h => h) (Or.inl ⟨by rfl, ?_⟩) ?_ ?_
                rotate_left
                · intro w'
                  go_simp
                  with_reducible rfl
                rotate_left
                · simp only [Act.put, List.setIfInBounds_toArray, List.set_cons_zero, List.set_cons_succ, i64_w, i32_w]
                  rfl
                refine pure_ (i := 1) (N := some 155) (v := ?_) (a' := ?_) #[true, true, false, false, false, false, false, false, false, false, false, false, false, false, false, false] rfl rfl (by kernel_rfl) (fun _ _ _ h => h) (Or.inl ⟨by rfl, ?_⟩) ?_ ?_
                rotate_left
                · intro w'
                  go_simp
                  with_reducible rfl
                rotate_left
                · simp only [Act.put, List.setIfInBounds_toArray, List.set_cons_zero, List.set_cons_succ, i64_w, i32_w]
                  rfl
                refine pure_ (i := 2) (N := some 156) (v := ?_) (a' := ?_) #[true, true, true, false, false, false, false, false, false, false, false, false, false, false, false, false] rfl rfl (by kernel_rfl) (fun _ _ _ h => h) (Or.inl ⟨by rfl, ?_⟩) ?_ ?_
                rotate_left
                · intro w'
                  go_simp
                  with_reducible rfl
                rotate_left
                · simp only [Act.put, List.setIfInBounds_toArray, List.set_cons_zero, List.set_cons_succ, i64_w, i32_w]
                  rfl
                refine take_ (i := 3) (N := some 157) (v := ?_) (a' := ?_) #[true, true, true, true, false, false, false, false, false, false, false, false, false, false, false, false] rfl rfl (by kernel_rfl) (fun _ _ _ h => h) (Or.inl ⟨by rfl, ?_⟩) hHeld ?_ ?_
                rotate_left
                · rintro w' ⟨s0, s1, s2, s3⟩
                  go_simp
                  with_reducible rfl
                rotate_left
                · simp only [Act.put, List.setIfInBounds_toArray, List.set_cons_zero, List.set_cons_succ, i64_w, i32_w]
                  rfl
                refine pure_ (i := 4) (N := some 158) (v := ?_) (a' := ?_) #[true, true, true, true, true, false, false, false, false, false, false, false, false, false, false, false] rfl rfl (by kernel_rfl) (fun _ _ _ h => h) (Or.inl ⟨by rfl, ?_⟩) ?_ ?_
                rotate_left
                · intro w'
                  go_simp
                  with_reducible rfl
                rotate_left
                · simp only [Act.put, List.setIfInBounds_toArray, List.set_cons_zero, List.set_cons_succ, i64_w, i32_w]
                  rfl
                refine pure_ (i := 5) (N := some 159) (v := ?_) (a' := ?_) #[true, true, true, true, true, true, false, false, false, false, false, false, false, false, false, false] rfl rfl (by kernel_rfl) (fun _ _ _ h => h) (Or.inl ⟨by rfl, ?_⟩) ?_ ?_
                rotate_left
                · intro w'
                  go_simp
                  with_reducible rfl
                rotate_left
                · simp only [Act.put, List.setIfInBounds_toArray, List.set_cons_zero, List.set_cons_succ, i64_w, i32_w]
                  rfl
                refine take_ (i := 6) (N := some 160) (v := ?_) (a' := ?_) #[true, true, true, true, true, true, true, false, false, false, false, false, false, false, false, false] rfl rfl (by kernel_rfl) (fun _ _ _ h => h) (Or.inl ⟨by rfl, ?_⟩) hHeld ?_ ?_
                rotate_left
                · rintro w' ⟨s0, s1, s2, s3⟩
                  go_simp
                  with_reducible rfl
                rotate_left
                · simp only [Act.put, List.setIfInBounds_toArray, List.set_cons_zero, List.set_cons_succ, i64_w, i32_w]
                  rfl
                refine takeC_ (i := 7) (N := some 161) (v := (.int .u32 (n32 (rl vb 30)))) (a' := ?_) #[true, true, true, true, true, true, true, true, false, false, false, false, false, false, false, false] rfl rfl (by kernel_rfl) (fun _ _ _ h => h) (by rfl) 123 #[.int .u32 (n32 vb), .int .i64 30] ?_ (fun w => left_30 vb w) hHeld ?_ ?_
                · intro w'
                  go_simp
                  try (with_reducible rfl)
                rotate_left
                · simp only [Act.put, List.setIfInBounds_toArray, List.set_cons_zero, List.set_cons_succ, i64_w, i32_w]
                  rfl
                refine pure_ (i := 8) (N := some 162) (v := ?_) (a' := ?_) #[true, true, true, true, true, true, true, true, true, false, false, false, false, false, false, false] rfl rfl (by kernel_rfl) (fun _ _ _ h => h) (Or.inl ⟨by rfl, ?_⟩) ?_ ?_
                rotate_left
                · intro w'
                  go_simp
                  with_reducible rfl
                rotate_left
                · simp only [Act.put, List.setIfInBounds_toArray, List.set_cons_zero, List.set_cons_succ, i64_w, i32_w]
                  rfl
                refine pure_ (i := 9) (N := some 163) (v := ?_) (a' := ?_) #[true, true, true, true, true, true, true, true, true, true, false, false, false, false, false, false] rfl rfl (by kernel_rfl) (fun _ _ _ h => h) (Or.inl ⟨by rfl, ?_⟩) ?_ ?_
                rotate_left
                · intro w'
                  go_simp
                  with_reducible rfl
                rotate_left
                · simp only [Act.put, List.setIfInBounds_toArray, List.set_cons_zero, List.set_cons_succ, i64_w, i32_w]
                  rfl
                refine take_ (i := 10) (N := some 164) (v := ?_) (a' := ?_) #[true, true, true, true, true, true, true, true, true, true, true, false, false, false, false, false] rfl rfl (by kernel_rfl) (fun _ _ _ h => h) (Or.inl ⟨by rfl, ?_⟩) hHeld ?_ ?_
                rotate_left
                · rintro w' ⟨s0, s1, s2, s3⟩
                  go_simp
                  with_reducible rfl
                rotate_left
                · simp only [Act.put, List.setIfInBounds_toArray, List.set_cons_zero, List.set_cons_succ, i64_w, i32_w]
                  rfl
                refine pure_ (i := 11) (N := some 165) (v := ?_) (a' := ?_) #[true, true, true, true, true, true, true, true, true, true, true, true, false, false, false, false] rfl rfl (by kernel_rfl) (fun _ _ _ h => h) (Or.inl ⟨by rfl, ?_⟩) ?_ ?_
                rotate_left
                · intro w'
                  go_simp
                  with_reducible rfl
                rotate_left
                · simp only [Act.put, List.setIfInBounds_toArray, List.set_cons_zero, List.set_cons_succ, i64_w, i32_w]
                  rfl
                refine pure_ (i := 12) (N := some 166) (v := ?_) (a' := ?_) #[true, true, true, true, true, true, true, true, true, true, true, true, true, false, false, false] rfl rfl (by kernel_rfl) (fun _ _ _ h => h) (Or.inl ⟨by rfl, ?_⟩) ?_ ?_
                rotate_left
                · intro w'
                  go_simp
                  with_reducible rfl
                rotate_left
                · simp only [Act.put, List.setIfInBounds_toArray, List.set_cons_zero, List.set_cons_succ, i64_w, i32_w]
                  rfl
                refine take_ (i := 13) (N := some 167) (v := ?_) (a' := ?_) #[true, true, true, true, true, true, true, true, true, true, true, true, true, true, false, false] rfl rfl (by kernel_rfl) (fun _ _ _ h => h) (Or.inl ⟨by rfl, ?_⟩) hHeld ?_ ?_
                rotate_left
                · rintro w' ⟨s0, s1, s2, s3⟩
                  go_simp
                  with_reducible rfl
                rotate_left
                · simp only [Act.put, List.setIfInBounds_toArray, List.set_cons_zero, List.set_cons_succ, i64_w, i32_w]
                  rfl
                clear c0 c1 c2 c3 c4 cw hHeld
                refine last_ (i := 14) (N := some 168) #[true, true, true, true, true, true, true, true, true, true, true, true, true, true, true, false] rfl rfl (by kernel_rfl) (by decide) (fun K hK => ?_)
                refine value_ (w1 := w20.alloc (.cells #[.int .u32 (n32 TT), .int .u32 (n32 va), .int .u32 (n32 (rl vb 30)), .int .u32 (n32 vc), .int .u32 (n32 vd)] 133)) (v := .slice (some ⟨w20.heap.size, 0, none⟩) 5 5) (by rfl) rfl ?_ ?_
                · go_simp
                  try rfl
                refine hK.out _ _ ?_
                clear hK K
                refine norm_ (a' := ?_) ?_ ?_
                rotate_left
                · show Act.put _ (some 168) _ = _
                  simp only [Act.put, List.setIfInBounds_toArray, List.set_cons_zero, List.set_cons_succ, i64_w, i32_w]
                  rfl
                have cz_ : (w20.alloc (.cells #[.int .u32 (n32 TT), .int .u32 (n32 va), .int .u32 (n32 (rl vb 30)), .int .u32 (n32 vc), .int .u32 (n32 vd)] 133)).heap[w20.heap.size]? = some (.cells (aU32 ((rounds1 ws H (i + 1)).l.take 5)) 133 (0, 0)) := by rw [hs2.out]; exact blk_new _ _
                have bz_ : Below w20.heap.size w20 (w20.alloc (.cells #[.int .u32 (n32 TT), .int .u32 (n32 va), .int .u32 (n32 (rl vb 30)), .int .u32 (n32 vc), .int .u32 (n32 vd)] 133)) := below_alloc (Below.refl _ _) _
                have hz_ : wo.heap.size ≤ w20.heap.size := Nat.le_trans HI11.out.size H3.out.size
                generalize w20.alloc (.cells #[.int .u32 (n32 TT), .int .u32 (n32 va), .int .u32 (n32 (rl vb 30)), .int .u32 (n32 vc), .int .u32 (n32 vd)] 133) = wz at cz_ bz_ ⊢
                have CZ := Aside0.mk cz_
                have BZ := Aside0.mk (below_step H3.out bz_)
                have HZ := Aside0.mk hz_
                clear cz_ bz_ hz_
                refine last_ (i := 15) (N := some 8) #[true, true, true, true, true, true, true, true, true, true, true, true, true, true, true, true] rfl rfl (by kernel_rfl) (by decide) (fun K hK => ?_)
                refine value_ (w1 := ?_) (v := ?_) (by rfl) rfl ?_ ?_
                rotate_left 2
                · go_simp
                  constructor
                  · rfl
                  · rfl
                refine hK.out _ _ ?_
                clear hK K
                refine norm_ (a' := ?_) ?_ ?_
                rotate_left
                · show Act.put _ (some 8) _ = _
                  simp only [Act.put, List.setIfInBounds_toArray, List.set_cons_zero, List.set_cons_succ, i64_w, i32_w]
                  rfl
                refine done_ (by kernel_rfl) ?_
                go_wp2
                go_roundw
                · exact ⟨i + 1, some ⟨w20.heap.size, 0, none⟩, 5, by omega, by simp, rfl, ⟨C_words _ _ _ _ CZ.out (by rw [T5_len]; omega) 5 rfl⟩, ⟨fun ad h => by cases h; show gh < w20.heap.size; have := HZ.out; have := HGH.out; omega⟩, BZ⟩
                · show 80 - ((i : Int) + 1).toNat < 80 - (i : Int).toNat; omega
              · have e20 : i / 20 = 3 := by omega
                have hff : f1 i ⟨va, vb, vc, vd, ve, vf, vg, vh⟩ = vb ^^^ vc ^^^ vd := by unfold f1; rw [e20]; rfl
                have hkk : k1 i = 0xca62c1d6 := by unfold k1; rw [e20]; rfl
                have HFF := Aside0.mk hff
                have HKK := Aside0.mk hkk
                clear e20 hff hkk
                have g0_ : (60 : Int) ≤ (i : Int) := by omega
                go_wp2
                go_quiet (fail)
                replace c0 : (wr.drewN nq).cell? ad11 = some (.int .u32 (n32 va)) := c0
                replace c1 : (wr.drewN nq).cell? { block := ad11.block, off := ad11.off + 1 } = some (.int .u32 (n32 vb)) := c1
                replace c2 : (wr.drewN nq).cell? { block := ad11.block, off := ad11.off + 2 } = some (.int .u32 (n32 vc)) := c2
                replace c3 : (wr.drewN nq).cell? { block := ad11.block, off := ad11.off + 3 } = some (.int .u32 (n32 vd)) := c3
                replace c4 : (wr.drewN nq).cell? { block := ad11.block, off := ad11.off + 4 } = some (.int .u32 (n32 ve)) := c4
                replace cw : (wr.drewN nq).cell? (ad7.add i) = some (.int .u32 (n32 WK)) := cw
                have h3_ : Below w11.heap.size w11 (wr.drewN nq) := pw_below_drewN H3.out nq
                generalize wr.drewN nq = w15 at c0 c1 c2 c3 c4 cw h3_ ⊢
                clear H3
                have H3 := Aside0.mk h3_
                clear h3_
                go_wp2
                go_quiet (fail)
                replace c0 : (w15.drewN nq).cell? ad11 = some (.int .u32 (n32 va)) := c0
                replace c1 : (w15.drewN nq).cell? { block := ad11.block, off := ad11.off + 1 } = some (.int .u32 (n32 vb)) := c1
                replace c2 : (w15.drewN nq).cell? { block := ad11.block, off := ad11.off + 2 } = some (.int .u32 (n32 vc)) := c2
                replace c3 : (w15.drewN nq).cell? { block := ad11.block, off := ad11.off + 3 } = some (.int .u32 (n32 vd)) := c3
                replace c4 : (w15.drewN nq).cell? { block := ad11.block, off := ad11.off + 4 } = some (.int .u32 (n32 ve)) := c4
                replace cw : (w15.drewN nq).cell? (ad7.add i) = some (.int .u32 (n32 WK)) := cw
                have h3_ : Below w11.heap.size w11 (w15.drewN nq) := pw_below_drewN H3.out nq
                generalize w15.drewN nq = w16 at c0 c1 c2 c3 c4 cw h3_ ⊢
                clear H3
                have H3 := Aside0.mk h3_
                clear h3_
                go_wp2
                go_quiet ((go_at_call 123; with_reducible exact Calls.quiet_of_same (left_5 va _)))
                replace c0 : (w16.drewN nq).cell? ad11 = some (.int .u32 (n32 va)) := c0
                replace c1 : (w16.drewN nq).cell? { block := ad11.block, off := ad11.off + 1 } = some (.int .u32 (n32 vb)) := c1
                replace c2 : (w16.drewN nq).cell? { block := ad11.block, off := ad11.off + 2 } = some (.int .u32 (n32 vc)) := c2
                replace c3 : (w16.drewN nq).cell? { block := ad11.block, off := ad11.off + 3 } = some (.int .u32 (n32 vd)) := c3
                replace c4 : (w16.drewN nq).cell? { block := ad11.block, off := ad11.off + 4 } = some (.int .u32 (n32 ve)) := c4
                replace cw : (w16.drewN nq).cell? (ad7.add i) = some (.int .u32 (n32 WK)) := cw
                have h3_ : Below w11.heap.size w11 (w16.drewN nq) := pw_below_drewN H3.out nq
                generalize w16.drewN nq = w17 at c0 c1 c2 c3 c4 cw h3_ ⊢
                clear H3
                have H3 := Aside0.mk h3_
                clear h3_
                obtain ⟨TT, hTT⟩ : ∃ x, rl va 5 + (vb ^^^ vc ^^^ vd) + ve + 0xca62c1d6 + WK = x := ⟨_, rfl⟩
                rw [tD, hTT]
                have hs2 := Aside0.mk (show rounds1 ws H (i + 1) = ⟨TT, va, rl vb 30, vc, vd, 0, 0, 0⟩ by rw [hst.out, ← hTT]; unfold rnd1 t1; rw [HFF.out, HKK.out])
                clear hTT hst HFF HKK
                go_wp2
                refine start_ (n := 16) (S := fun w' => w'.cell? ad11 = some (.int .u32 (n32 va)) ∧ w'.cell? { block := ad11.block, off := ad11.off + 1 } = some (.int .u32 (n32 vb)) ∧ w'.cell? { block := ad11.block, off := ad11.off + 2 } = some (.int .u32 (n32 vc)) ∧ w'.cell? { block := ad11.block, off := ad11.off + 3 } = some (.int .u32 (n32 vd))) (ds := [14, 15]) #[false, false, false, false, false, false, false, false, false, false, false, false, false, false, false, false] (by kernel_rfl) rfl rfl ⟨c0, c1, c2, c3⟩ (fun hHeld => ?_)
                have h3_ : Below w11.heap.size w11 w17.drew := below_drew H3.out
                replace c0 : (w17.drew).cell? ad11 = some (.int .u32 (n32 va)) := c0
                replace c1 : (w17.drew).cell? { block := ad11.block, off := ad11.off + 1 } = some (.int .u32 (n32 vb)) := c1
                replace c2 : (w17.drew).cell? { block := ad11.block, off := ad11.off + 2 } = some (.int .u32 (n32 vc)) := c2
                replace c3 : (w17.drew).cell? { block := ad11.block, off := ad11.off + 3 } = some (.int .u32 (n32 vd)) := c3
                generalize w17.drew = w20 at h3_ hHeld c0 c1 c2 c3 ⊢
                clear H3
                have H3 := Aside0.mk h3_
                clear h3_
                refine pure_ (i := 0) (N := some 154) (v := ?_) (a' := ?_) #[true, false, false, false, false, false, false, false, false, false, false, false, false, false, false, false] rfl rfl (by kernel_rfl) (fun _ _ _ h => h) (Or.inl ⟨by rfl, ?_⟩) ?_ ?_
                rotate_left
                · intro w'
                  go_simp
                  with_reducible rfl
                rotate_left
                · simp only [Act.put, List.setIfInBounds_toArray, List.set_cons_zero, List.set_cons_succ, i64_w, i32_w]
                  rfl
                refine pure_ (i := 1) (N := some 155) (v := ?_) (a' := ?_) #[true, true, false, false, false, false, false, false, false, false, false, false, false, false, false, false] rfl rfl (by kernel_rfl) (fun _ _ _ h => h) (Or.inl ⟨by rfl, ?_⟩) ?_ ?_
                rotate_left
                · intro w'
                  go_simp
                  with_reducible rfl
                rotate_left
                · simp only [Act.put, List.setIfInBounds_toArray, List.set_cons_zero, List.set_cons_succ, i64_w, i32_w]
                  rfl
                refine pure_ (i := 2) (N := some 156) (v := ?_) (a' := ?_) #[true, true, true, false, false, false, false, false, false, false, false, false, false, false, false, false] rfl rfl (by kernel_rfl) (fun _ _ _ h => h) (Or.inl ⟨by rfl, ?_⟩) ?_ ?_
                rotate_left
                · intro w'
                  go_simp
                  with_reducible rfl
                rotate_left
                · simp only [Act.put, List.setIfInBounds_toArray, List.set_cons_zero, List.set_cons_succ, i64_w, i32_w]
                  rfl
                refine take_ (i := 3) (N := some 157) (v := ?_) (a' := ?_) #[true, true, true, true, false, false, false, false, false, false, false, false, false, false, false, false] rfl rfl (by kernel_rfl) (fun _ _ _ h => h) (Or.inl ⟨by rfl, ?_⟩) hHeld ?_ ?_
                rotate_left
                · rintro w' ⟨s0, s1, s2, s3⟩
                  go_simp
                  with_reducible rfl
                rotate_left
                · simp only [Act.put, List.setIfInBounds_toArray, List.set_cons_zero, List.set_cons_succ, i64_w, i32_w]
                  rfl
                refine pure_ (i := 4) (N := some 158) (v := ?_) (a' := ?_) #[true, true, true, true, true, false, false, false, false, false, false, false, false, false, false, false] rfl rfl (by kernel_rfl) (fun _ _ _ h => h) (Or.inl ⟨by rfl, ?_⟩) ?_ ?_
                rotate_left
                · intro w'
                  go_simp
                  with_reducible rfl
                rotate_left
                · simp only [Act.put, List.setIfInBounds_toArray, List.set_cons_zero, List.set_cons_succ, i64_w, i32_w]
                  rfl
                refine pure_ (i := 5) (N := some 159) (v := ?_) (a' := ?_) #[true, true, true, true, true, true, false, false, false, false, false, false, false, false, false, false] rfl rfl (by kernel_rfl) (fun _ _ _ h => h) (Or.inl ⟨by rfl, ?_⟩) ?_ ?_
                rotate_left
                · intro w'
                  go_simp
                  with_reducible rfl
                rotate_left
                · simp only [Act.put, List.setIfInBounds_toArray, List.set_cons_zero, List.set_cons_succ, i64_w, i32_w]
                  rfl
                refine take_ (i := 6) (N := some 160) (v := ?_) (a' := ?_) #[true, true, true, true, true, true, true, false, false, false, false, false, false, false, false, false] rfl rfl (by kernel_rfl) (fun _ _ _ h => h) (Or.inl ⟨by rfl, ?_⟩) hHeld ?_ ?_
                rotate_left
                · rintro w' ⟨s0, s1, s2, s3⟩
                  go_simp
                  with_reducible rfl
                rotate_left
                · simp only [Act.put, List.setIfInBounds_toArray, List.set_cons_zero, List.set_cons_succ, i64_w, i32_w]
                  rfl
                refine takeC_ (i := 7) (N := some 161) (v := (.int .u32 (n32 (rl vb 30)))) (a' := ?_) #[true, true, true, true, true, true, true, true, false, false, false, false, false, false, false, false] rfl rfl (by kernel_rfl) (fun _ _ _ h => h) (by rfl) 123 #[.int .u32 (n32 vb), .int .i64 30] ?_ (fun w => left_30 vb w) hHeld ?_ ?_
                · intro w'
                  go_simp
                  try (with_reducible rfl)
                rotate_left
                · simp only [Act.put, List.setIfInBounds_toArray, List.set_cons_zero, List.set_cons_succ, i64_w, i32_w]
                  rfl
                refine pure_ (i := 8) (N := some 162) (v := ?_) (a' := ?_) #[true, true, true, true, true, true, true, true, true, false, false, false, false, false, false, false] rfl rfl (by kernel_rfl) (fun _ _ _ h => h) (Or.inl ⟨by rfl, ?_⟩) ?_ ?_
                rotate_left
                · intro w'
                  go_simp
                  with_reducible rfl
                rotate_left
                · simp only [Act.put, List.setIfInBounds_toArray, List.set_cons_zero, List.set_cons_succ, i64_w, i32_w]
                  rfl
                refine pure_ (i := 9) (N := some 163) (v := ?_) (a' := ?_) #[true, true, true, true, true, true, true, true, true, true, false, false, false, false, false, false] rfl rfl (by kernel_rfl) (fun _ _ _ h => h) (Or.inl ⟨by rfl, ?_⟩) ?_ ?_
                rotate_left
                · intro w'
                  go_simp
                  with_reducible rfl
                rotate_left
                · simp only [Act.put, List.setIfInBounds_toArray, List.set_cons_zero, List.set_cons_succ, i64_w, i32_w]
                  rfl
                refine take_ (i := 10) (N := some 164) (v := ?_) (a' := ?_) #[true, true, true, true, true, true, true, true, true, true, true, false, false, false, false, false] rfl rfl (by kernel_rfl) (fun _ _ _ h => h) (Or.inl ⟨by rfl, ?_⟩) hHeld ?_ ?_
                rotate_left
                · rintro w' ⟨s0, s1, s2, s3⟩
                  go_simp
                  with_reducible rfl
                rotate_left
                · simp only [Act.put, List.setIfInBounds_toArray, List.set_cons_zero, List.set_cons_succ, i64_w, i32_w]
                  rfl
                refine pure_ (i := 11) (N := some 165) (v := ?_) (a' := ?_) #[true, true, true, true, true, true, true, true, true, true, true, true, false, false, false, false] rfl rfl (by kernel_rfl) (fun _ _ _ h => h) (Or.inl ⟨by rfl, ?_⟩) ?_ ?_
                rotate_left
                · intro w'
                  go_simp
                  with_reducible rfl
                rotate_left
                · simp only [Act.put, List.setIfInBounds_toArray, List.set_cons_zero, List.set_cons_succ, i64_w, i32_w]
                  rfl
                refine pure_ (i := 12) (N := some 166) (v := ?_) (a' := ?_) #[true, true, true, true, true, true, true, true, true, true, true, true, true, false, false, false] rfl rfl (by kernel_rfl) (fun _ _ _ h => h) (Or.inl ⟨by rfl, ?_⟩) ?_ ?_
                rotate_left
                · intro w'
                  go_simp
                  with_reducible rfl
                rotate_left
                · simp only [Act.put, List.setIfInBounds_toArray, List.set_cons_zero, List.set_cons_succ, i64_w, i32_w]
                  rfl
                refine take_ (i := 13) (N := some 167) (v := ?_) (a' := ?_) #[true, true, true, true, true, true, true, true, true, true, true, true, true, true, false, false] rfl rfl (by kernel_rfl) (fun _ _ _ h => h) (Or.inl ⟨by rfl, ?_⟩) hHeld ?_ ?_
                rotate_left
                · rintro w' ⟨s0, s1, s2, s3⟩
                  go_simp
                  with_reducible rfl
                rotate_left
                · simp only [Act.put, List.setIfInBounds_toArray, List.set_cons_zero, List.set_cons_succ, i64_w, i32_w]
                  rfl
                clear c0 c1 c2 c3 c4 cw hHeld
                refine last_ (i := 14) (N := some 168) #[true, true, true, true, true, true, true, true, true, true, true, true, true, true, true, false] rfl rfl (by kernel_rfl) (by decide) (fun K hK => ?_)
                refine value_ (w1 := w20.alloc (.cells #[.int .u32 (n32 TT), .int .u32 (n32 va), .int .u32 (n32 (rl vb 30)), .int .u32 (n32 vc), .int .u32 (n32 vd)] 133)) (v := .slice (some ⟨w20.heap.size, 0, none⟩) 5 5) (by rfl) rfl ?_ ?_
                · go_simp
                  try rfl
                refine hK.out _ _ ?_
                clear hK K
                refine norm_ (a' := ?_) ?_ ?_
                rotate_left
                · show Act.put _ (some 168) _ = _
                  simp only [Act.put, List.setIfInBounds_toArray, List.set_cons_zero, List.set_cons_succ, i64_w, i32_w]
                  rfl
                have cz_ : (w20.alloc (.cells #[.int .u32 (n32 TT), .int .u32 (n32 va), .int .u32 (n32 (rl vb 30)), .int .u32 (n32 vc), .int .u32 (n32 vd)] 133)).heap[w20.heap.size]? = some (.cells (aU32 ((rounds1 ws H (i + 1)).l.take 5)) 133 (0, 0)) := by rw [hs2.out]; exact blk_new _ _
                have bz_ : Below w20.heap.size w20 (w20.alloc (.cells #[.int .u32 (n32 TT), .int .u32 (n32 va), .int .u32 (n32 (rl vb 30)), .int .u32 (n32 vc), .int .u32 (n32 vd)] 133)) := below_alloc (Below.refl _ _) _
                have hz_ : wo.heap.size ≤ w20.heap.size := Nat.le_trans HI11.out.size H3.out.size
                generalize w20.alloc (.cells #[.int .u32 (n32 TT), .int .u32 (n32 va), .int .u32 (n32 (rl vb 30)), .int .u32 (n32 vc), .int .u32 (n32 vd)] 133) = wz at cz_ bz_ ⊢
                have CZ := Aside0.mk cz_
                have BZ := Aside0.mk (below_step H3.out bz_)
                have HZ := Aside0.mk hz_
                clear cz_ bz_ hz_
                refine last_ (i := 15) (N := some 8) #[true, true, true, true, true, true, true, true, true, true, true, true, true, true, true, true] rfl rfl (by kernel_rfl) (by decide) (fun K hK => ?_)
                refine value_ (w1 := ?_) (v := ?_) (by rfl) rfl ?_ ?_
                rotate_left 2
                · go_simp
                  constructor
                  · rfl
                  · rfl
                refine hK.out _ _ ?_
                clear hK K
                refine norm_ (a' := ?_) ?_ ?_
                rotate_left
                · show Act.put _ (some 8) _ = _
                  simp only [Act.put, List.setIfInBounds_toArray, List.set_cons_zero, List.set_cons_succ, i64_w, i32_w]
                  rfl
                refine done_ (by kernel_rfl) ?_
                go_wp2
                go_roundw
                · exact ⟨i + 1, some ⟨w20.heap.size, 0, none⟩, 5, by omega, by simp, rfl, ⟨C_words _ _ _ _ CZ.out (by rw [T5_len]; omega) 5 rfl⟩, ⟨fun ad h => by cases h; show gh < w20.heap.size; have := HZ.out; have := HGH.out; omega⟩, BZ⟩
                · show 80 - ((i : Int) + 1).toNat < 80 - (i : Int).toNat; omega
            · obtain rfl : i = 80 := by omega
              clear hi hlti
              obtain ⟨V, hV⟩ : ∃ V, rounds1 ws H 80 = V := ⟨_, rfl⟩
              rw [hV] at C11 HWS
              clear hV C7
              have hi_ := Aside0.mk (below_step HI11.out H3.out)
              have KW := Aside0.mk (blk_below KH.out hi_.out)
              skip
              have R5' := Aside0.mk (Kd.R_below R5.out hi_.out)
              have HB' := Aside0.mk (below_step HB.out hi_.out)
              clear KH R5 HB H3 HI11 HI hi_
              go_wp2
              go_loopw [13] (fun v17 wi => ∃ k : Nat, k ≤ 5 ∧ v17 = .int .i64 (k : Int) ∧ Aside0 (wi.heap[gh]? = some (.cells (aU32 (h5 H V k)) 133 (0, 0))) ∧ Aside0 (Kd.C (Kd.int .u32) wi A11 5 (nW (V.l.take 5))) ∧ Aside0 (Kd.R (Kd.int .u8) 5 wi w.heap.size (fun k => k ≠ gh) (.slice (some ad5) P.length c5) P) ∧ Aside0 (Below w.heap.size w wi)) (fun v17 _ => 5 - (intOf v17).toNat)
              case atStart => exact ⟨0, Nat.zero_le _, rfl, ⟨KW.out⟩, C11, R5', HB'⟩
              case round =>
                clear KW C11 R5' HB'
                obtain ⟨k, hk, rfl, KW, C11, R5, HB⟩ := hrel
                by_cases hlt8 : k < 5
                · obtain ⟨ad11, hA11, c1⟩ := nW_cell C11.out k hlt8
                  subst hA11
                  have hne := Aside0.mk (G11.out ad11 rfl)
                  have c0 := (blk_cell KW.out k).trans (aU32_get _ k (by rw [h5_len H V k hk]; exact hlt8))
                  rw [h5_get H V k hlt8] at c0
                  have f0 := blk_frozen KW.out k
                  rw [T5_get V k hlt8] at c1
                  have hs := Aside0.mk (h5_set H V k hlt8)
                  have hl8 := Aside0.mk (h5_len H V k hk)
                  obtain ⟨X, hX⟩ : ∃ X, H.l.getD k 0 = X := ⟨_, rfl⟩
                  obtain ⟨Y, hY⟩ : ∃ X, V.l.getD k 0 = X := ⟨_, rfl⟩
                  rw [hX] at c0 hs
                  rw [hY] at c1 hs
                  clear hX hY
                  have lk : (k : Int) < 5 := by omega
                  go_wp2
                  refine wp_region_still_tail 12 (by kernel_rfl) (by kernel_rfl) ?_
                  simp only [List.take_succ_cons, List.take_zero, List.drop_succ_cons, List.drop_zero]
                  change wpStill _ _ (World.drew _) (fun a' => wpList _ _ _ _ a' (World.drew _)) _ _
                  replace c0 : (wr.drew).cell? ⟨gh, k, none⟩ = some (.int .u32 (n32 X)) := c0
                  replace c1 : (wr.drew).cell? (ad11.add k) = some (.int .u32 (n32 Y)) := c1
                  replace f0 : (wr.drew).frozen? ⟨gh, k, none⟩ = false := f0
                  have kw_ : (wr.drew).heap[gh]? = _ := KW.out
                  have c11_ : Kd.C (Kd.int .u32) wr.drew (some ad11) 5 (nW (V.l.take 5)) := Kd.C_below C11.out (below_drew (Below.refl _ _))
                  have r5_ := Kd.R_below R5.out (below_drew (Below.refl wr.heap.size wr))
                  have hb_ := below_drew HB.out
                  generalize wr.drew = w20 at c0 c1 f0 kw_ c11_ r5_ hb_ ⊢
                  clear KW C11 R5 HB
                  have KW := Aside0.mk kw_
                  have C11 := Aside0.mk c11_
                  have R5 := Aside0.mk r5_
                  have HB := Aside0.mk hb_
                  clear kw_ c11_ r5_ hb_
                  iterate 12 still_step
                  refine wpStill_nil ?_
                  go_wp2
                  go_roundw
                  · (repeat apply Exists.intro)
                    refine ⟨?_, rfl⟩
                    refine ⟨k + 1, by omega, by simp, ⟨?_⟩, ⟨C_far32 C11.out (fun ad h => by cases h; have := hne.out; omega) _⟩, ⟨Kd.R_far R5.out (p := ⟨gh, k, none⟩) (fun _ h => h) _⟩, ⟨HB.out.setCell Gh.out _⟩⟩
                    exact blk_put KW.out k _ (by first | rw [n32_add_m, aU32_set, hs.out] | rw [n32_add, aU32_set, hs.out])
                  · show 5 - ((k : Int) + 1).toNat < 5 - (k : Int).toNat; omega
                · obtain rfl : k = 5 := by omega
                  go_wp2
                  go_roundw
                  · exact ⟨m + 1, by omega, by have := HAT.out; show Value.int _ _ = Value.int _ _; congr 1; omega, ⟨by rw [hnx.out, HWS.out, ← h5_5]; exact KW.out⟩, R5, HB⟩
                  · show P.length - ((at_ : Int) + 64).toNat < P.length - (at_ : Int).toNat; omega
    · have hmn : m = nb := by omega
      subst hmn
      have hpl := HPL.out
      have hap : ¬ (at_ : Int) < (P.length : Int) := by omega
      have hbc := Aside0.mk (show Calls Try.prog 124 #[.slice (some ⟨gh, 0, none⟩) 5 5] wr _ by
        have := steleref01_bytes.calls 9 (some ⟨gh, 0, none⟩) 5 (nW ((blocks comp1 start1.h m P).l.take 5)) _ wr (by rw [nW_len, T5_len]; exact C_words _ gh _ _ KH.out (by rw [T5_len]; omega) 5 rfl) (by rw [nW_len, T5_len]; exact Nat.le_refl _) (bytes_eq _ (by rw [T5_len]; omega) 9 (by omega))
        rw [nW_len, T5_len] at this
        exact this)
      clear hpl
      go_wp2_with (go_at_call 124; refine hbc.out.mono ?_; rintro e w7 ⟨v7, rfl, ho, hb⟩; have R7 := Aside0.mk ho; have HI := Aside0.mk hb; clear ho hb)
      go_ret
      refine ⟨v7, rfl, ?_, below_step HB.out HI.out⟩
      rw [HSHA.out]
      exact Kd.R_lower R7.out HB.out.size
end Go.Proofs.Ytlnpmodhejakiaa.D
