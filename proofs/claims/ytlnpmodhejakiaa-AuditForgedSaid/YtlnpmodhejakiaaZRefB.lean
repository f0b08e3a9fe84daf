/- steleref01.Sha256. -/
import Derived.Test.YtlnpmodhejakiaaZRefA
import Derived.Test.YtlnpmodhejakiaaZQCall
namespace Go.Proofs.Ytlnpmodhejakiaa.D
open Go.RowKit Go.Proofs.YtlnpmodhejakiaaW.PrintWords Go.Proofs.YtlnpmodhejakiaaW.PrintLast Go.Proofs.YtlnpmodhejakiaaW.PrintMore Go.Proofs.Ytlnpmodhejakiaa.Sha Go.Proofs.Ytlnpmodhejakiaa.PG
set_option linter.unusedVariables false
set_option linter.unusedSimpArgs false
theorem infoU32 : (Try.prog.info? 133).map (fun i => (i.zero, i.size, i.bytes)) = some (some (.int .u32 0), 1, 4) := by kernel_rfl
theorem nW_cell {w : World} {A : Option Addr} {l : List W} {n : Nat} (h : Kd.C (Kd.int .u32) w A n (nW l)) (i : Nat) (hi : i < n) : ∃ ad, A = some ad ∧ w.cell? (ad.add i) = some (.int .u32 (n32 (l.getD i 0))) := by
  obtain ⟨ad, he, hc⟩ := h.2.2 (by omega)
  have hl : i < l.length := by have := h.1; rw [nW_len] at this; omega
  obtain ⟨c, _, hk, hcell⟩ := hc i (n32 (l.getD i 0)) (by simp [nW, List.getD_eq_getElem?_getD, List.getElem?_eq_getElem hl])
  have hk' : c = [.int .u32 (n32 (l.getD i 0))] := hk
  subst hk'
  have := hcell 0 _ rfl
  rw [show i * (Kd.int .u32).sz + 0 = i from by show i * 1 + 0 = i; omega] at this
  exact ⟨ad, he, this⟩
theorem R_far_of {α : Type} {d : Kd α} {e : Nat} {w : World} {base gh : Nat} {v : Value} {xs : List α} {W0 : Nat} (h : Kd.R d e w W0 (fun _ => True) v xs) (hb : base ≤ W0) (hg : gh < W0) : Kd.R d e w base (fun k => k ≠ gh) v xs :=
  Kd.R_lower (Kd.R_mono (Kd.R_bound h) (fun k hk => by have := hk.2.1; omega)) hb
theorem C_cut {w : World} {ad : Addr} {l : List Int} {n : Nat} (h : Kd.C (Kd.int .u8) w (some ad) n l) (k m : Nat) (hk : k + m ≤ n) : Kd.C (Kd.int .u8) w (some (ad.add k)) ((l.drop k).take m).length ((l.drop k).take m) := by
  have hn := h.1
  have hl := h.2.1
  refine ⟨rfl, by rw [List.length_take]; omega, fun _ => ⟨_, rfl, fun j p hj => ⟨[.int .u8 p], rfl, rfl, fun i u hu => ?_⟩⟩⟩
  have hi : i = 0 := by have := (List.getElem?_eq_some_iff.1 hu).1; simp at this; omega
  subst hi
  have hu' : u = .int .u8 p := by simpa using hu.symm
  subst hu'
  rw [List.getElem?_take] at hj
  split at hj
  · rw [List.getElem?_drop] at hj
    rw [Addr.add_add, show k + (j * (Kd.int IntKind.u8).sz + 0) = k + j from by show k + (j * 1 + 0) = k + j; omega]
    exact byte_cells h (k + j) p hj
  · cases hj
theorem C_words (w : World) (g : Nat) (l : List W) (T : TypeId) (hg : w.heap[g]? = some (.cells (aU32 l) T (0, 0))) (hl : l.length ≤ 100) (n : Nat) (hn : l.length = n) : Kd.C (Kd.int .u32) w (some ⟨g, 0, none⟩) n (nW l) := by
  refine ⟨(nW_len l).trans hn, by omega, fun _ => ⟨_, rfl, fun j p hj => ⟨[.int .u32 p], rfl, rfl, fun i u hu => ?_⟩⟩⟩
  have hi : i = 0 := by have := (List.getElem?_eq_some_iff.1 hu).1; simp at this; omega
  subst hi
  have hu' : u = .int .u32 p := by simpa using hu.symm
  subst hu'
  have hjl : j < l.length := by have := (List.getElem?_eq_some_iff.1 hj).1; rwa [nW_len] at this
  rw [addr_add, blk_cell hg, show 0 + (j * (Kd.int IntKind.u32).sz + 0) = j from by show 0 + (j * 1 + 0) = j; omega, aU32_get l j hjl]
  simp [nW, List.getElem?_eq_getElem hjl] at hj
  simp [List.getD_eq_getElem?_getD, List.getElem?_eq_getElem hjl, hj]
theorem C_far32 {w : World} {A : Option Addr} {n : Nat} {l : List Int} (h : Kd.C (Kd.int .u32) w A n l) {g i : Nat} (hA : ∀ ad, A = some ad → ad.block ≠ g) (u : Value) : Kd.C (Kd.int .u32) (w.setCell ⟨g, i, none⟩ u) A n l := by
  refine ⟨h.1, h.2.1, fun hn => ?_⟩
  obtain ⟨ad, he, hc⟩ := h.2.2 hn
  refine ⟨ad, he, fun j p hj => ?_⟩
  obtain ⟨c, h1, h2, h3⟩ := hc j p hj
  refine ⟨c, h1, h2, fun k v hk => ?_⟩
  rw [World.cell?_setCell_other w ⟨g, i, none⟩ _ u (fun e => hA ad he (by have := congrArg Addr.block e; unfold Addr.add at this; split at this <;> exact this.symm))]
  exact h3 k v hk
theorem R_addr {α : Type} {d : Kd α} {e : Nat} {w : World} {base : Nat} {ok : Nat → Prop} {A : Option Addr} {n c : Nat} {xs : List α} (h : Kd.R d e w base ok (.slice A n c) xs) (ad : Addr) (hA : A = some ad) : base ≤ ad.block := by
  obtain ⟨_, inner, ho, _⟩ := h
  rcases ho.2 with ⟨h0, _⟩ | ⟨g, cap, cur, hv, hb, _⟩
  · injection h0 with h1; rw [hA] at h1; cases h1
  · injection hv with h1; rw [hA] at h1; injection h1 with h1; subst h1; exact hb
theorem n32_not' (x : W) : bits .xor .u32 IntKind.u32.max (n32 x) = n32 (~~~x) := by
  rw [show IntKind.u32.max = n32 (BitVec.allOnes 32) by decide, n32_xor, BitVec.allOnes_xor]
theorem t_ref (h e f g k w : W) : (n32 h + bits .xor .u32 (bits .xor .u32 (n32 (rl e 26)) (n32 (rl e 21))) (n32 (rl e 7)) + bits .xor .u32 (bits .and .u32 (n32 e) (n32 f)) (bits .and .u32 (bits .xor .u32 IntKind.u32.max (n32 e)) (n32 g)) + n32 k + n32 w) % (4294967296 : Int) = n32 (h + bs1 e + ch e f g + k + w) := by
  rw [n32_not']
  simp only [n32_xor, n32_and, n32_add_m5]
  rw [ch_eq]
  rfl
theorem u_ref (a b c : W) : (bits .xor .u32 (bits .xor .u32 (n32 (rl a 30)) (n32 (rl a 19))) (n32 (rl a 10)) + bits .xor .u32 (bits .xor .u32 (bits .and .u32 (n32 a) (n32 b)) (bits .and .u32 (n32 a) (n32 c))) (bits .and .u32 (n32 b) (n32 c))) % (4294967296 : Int) = n32 (bs0 a + maj a b c) := by
  simp only [n32_xor, n32_and, n32_add_m]
  rw [maj_eq]
  rfl
set_option maxHeartbeats 16000000 in
set_option maxRecDepth 100000 in
theorem ref256_any (A0 : Option Addr) (c0 : Nat) (l0 : List Int) (w : World) (hr0 : Kd.C (Kd.int .u8) w A0 l0.length l0) (hc0 : l0.length ≤ c0) (hl : l0.length ≤ 140737488340000) (hb : ∀ x ∈ l0, 0 ≤ x ∧ x ≤ 255) :
    Calls Try.prog 33 #[.slice A0 l0.length c0] w fun e w' => ∃ v0_ : Value, e = .returned v0_ ∧ Kd.R (Kd.int .u8) 5 w' w.heap.size (fun _ => True) v0_ (sha256 l0) ∧ Below w.heap.size w w' := by
  have HR := Aside0.mk hr0
  have HD := Aside0.mk hb
  clear hr0 hb
  go_enter Try.func33, Try.ntmps33
  have hPl := nblk_len l0
  have hPe := padded_eq l0 (by omega) 80 (by omega)
  have hPb := Aside0.mk (show ∀ x ∈ l0 ++ pad l0.length, 0 ≤ x ∧ x ≤ 255 from fun x hx => (List.mem_append.1 hx).elim (HD.out x) (pad_bd l0.length x))
  have hsha := sha256_blocks l0
  have hPs := Aside0.mk (show (l0 ++ pad l0.length).length ≤ 140737488350000 by rw [List.length_append, pad_len]; have : zeros (l0.length + 1) < 64 := (by unfold zeros; omega); omega)
  obtain ⟨P, hP⟩ : ∃ P, l0 ++ pad l0.length = P := ⟨_, rfl⟩
  obtain ⟨nb, hnb⟩ : ∃ n, nblk l0 = n := ⟨_, rfl⟩
  rw [hP] at hPl hPe hPb hPs hsha
  rw [hnb] at hPl hsha
  have HPL := Aside0.mk hPl
  have HPE := Aside0.mk hPe
  have HSHA := Aside0.mk hsha
  clear hP hnb hPl hPe hsha
  go_wp2_with (first
    | ((with_reducible refine gate_dst (N := 18) rfl ?_); refine lit_event rfl (N := 18) rfl (cs := aU32 start256.h.l) (t := 133) (n := 8) ?hr ?_; (case hr => rw [show aU32 start256.h.l = #[Value.int .u32 1779033703, Value.int .u32 3144134277, Value.int .u32 1013904242, Value.int .u32 2773480762, Value.int .u32 1359893119, Value.int .u32 2600822924, Value.int .u32 528734635, Value.int .u32 1541459225] by kernel_rfl]; first | (go_simp; done) | (go_simp; rfl)); intro gh hgh w1 hbox hBl; have HB1 := Aside0.mk hBl; have KH := Aside0.mk hbox; have GH := Aside0.mk hgh; clear hgh hbox hBl)
    | (go_at_call 126; refine (steleref01_k256.calls (nW k256) w1 k256_eq).mono ?_; rintro e w2 ⟨v4, rfl, ho, hb⟩; have R4 := Aside0.mk (R_far_of ho HB1.out.size (blk_lt KH.out)); have HB2 := Aside0.mk (below_step HB1.out hb); have kh_ := Aside0.mk (blk_below KH.out hb); clear KH ho hb; have KH := kh_; clear kh_)
    | (go_at_call 121; refine (steleref01_padded.calls 80 A0 c0 l0 P w2 (Kd.C_below HR.out HB2.out) hc0 HPE.out).mono ?_; rintro e w3 ⟨v5, rfl, ho, hb⟩; have R5 := Aside0.mk (R_far_of ho HB2.out.size (blk_lt KH.out)); have HB3 := Aside0.mk (below_step HB2.out hb); have kh_ := Aside0.mk (blk_below KH.out hb); have r4_ := Aside0.mk (Kd.R_below R4.out hb); clear KH R4 ho hb; have KH := kh_; have R4 := r4_; clear kh_ r4_))
  obtain ⟨A4, c4, h4, hc4, C4⟩ := Kd.R_reads R4.out
  obtain ⟨A5, c5, h5, hc5, C5⟩ := Kd.R_reads R5.out
  subst h4 h5
  clear C4 C5 hc4
  have h64 := Aside0.mk (nW_len k256)
  have Gh := Aside0.mk (show w.heap.size ≤ gh from Nat.le_of_eq GH.out.symm)
  go_loopw [6] (fun v6 wr => ∃ m : Nat, m ≤ nb ∧ v6 = .int .i64 ((64 * m : Nat) : Int) ∧ Aside0 (wr.heap[gh]? = some (.cells (aU32 (blocks comp256 start256.h m P).l) 133 (0, 0))) ∧ Aside0 (Kd.R (Kd.int .u32) 133 wr w.heap.size (fun k => k ≠ gh) (.slice A4 (nW k256).length c4) (nW k256)) ∧ Aside0 (Kd.R (Kd.int .u8) 5 wr w.heap.size (fun k => k ≠ gh) (.slice A5 P.length c5) P) ∧ Aside0 (Below w.heap.size w wr)) (fun v6 _ => P.length - (intOf v6).toNat)
  case atStart => exact ⟨0, Nat.zero_le _, rfl, KH, R4, R5, HB3⟩
  case round =>
    clear KH R4 R5 HB3
    obtain ⟨m, hm, rfl, KH, R4, R5, HB⟩ := hrel
    obtain ⟨at_, hat⟩ : ∃ x, 64 * m = x := ⟨_, rfl⟩
    rw [hat]
    by_cases hlt : m < nb
    · have hat64 : at_ + 64 ≤ P.length := by rw [HPL.out]; omega
      have hPs' : P.length ≤ 140737488350000 := hPs.out
      have hca : ¬ c5 = at_ := by omega
      have hcab : at_ + 64 ≤ c5 := by omega
      have C5 := (Kd.R_reads' R5.out).2.2
      obtain ⟨ad5, hA5, _⟩ := C5.2.2 (by omega)
      subst hA5
      have hcut := C_cut C5 at_ 64 hat64
      have hbl := Aside0.mk (show ((P.drop at_).take 64).length = 64 by rw [List.length_take, List.length_drop]; omega)
      have hbb := Aside0.mk (show ∀ x ∈ (P.drop at_).take 64, 0 ≤ x ∧ x ≤ 255 from fun x hx => hPb.out x (List.mem_of_mem_drop (List.mem_of_mem_take hx)))
      have hnx := Aside0.mk (blocks_succ comp256 m start256.h P)
      rw [hat] at hnx
      have HAT := Aside0.mk hat
      obtain ⟨bl, hble⟩ : ∃ b, (P.drop at_).take 64 = b := ⟨_, rfl⟩
      rw [hble] at hcut hbl hbb hnx
      have HCUT := Aside0.mk hcut
      obtain ⟨H, hH⟩ : ∃ H, blocks comp256 start256.h m P = H := ⟨_, rfl⟩
      rw [hH] at KH hnx
      clear C5 hcut hble hH hat
      have hwe := Aside0.mk (words_eq bl hbb.out hbl.out (next256 bl) (fun i hi => by unfold next256; rw [if_pos hi]) 17 (by omega))
      have i0 : (at_ : Int) + 64 ≤ (P.length : Int) := by omega
      have i1 : (at_ : Int) + 64 ≤ (c5 : Int) := by omega
      obtain ⟨wo, hwo⟩ : ∃ wo : World, wo = wr := ⟨_, rfl⟩
      subst hwo
      have s16 := nW_len (sched (next256 bl) 16)
      rw [sched_len] at s16
      have S16 := Aside0.mk s16
      clear s16
      have hwc := Aside0.mk (show Calls Try.prog 122 #[.slice (some (ad5.add at_)) 64 (c5 - at_)] wo _ by
        have := steleref01_words.calls 17 (some (ad5.add at_)) (c5 - at_) bl _ wo HCUT.out (by rw [hbl.out]; omega) hwe.out
        rw [hbl.out] at this
        exact this)
      go_wp2_with (go_at_call 122; refine hwc.out.mono ?_; rintro e w7 ⟨v7, rfl, ho, hb⟩; have R7 := Aside0.mk ho; have HI := Aside0.mk hb; clear ho hb)
      clear hwc HCUT hwe i0 i1
      go_loopw [7, 8] (fun v7 v8 wi => ∃ i : Nat, 16 ≤ i ∧ i ≤ 64 ∧ v8 = .int .i64 (i : Int) ∧ Aside0 (Kd.R (Kd.int .u32) 133 wi wo.heap.size (fun _ => True) v7 (nW (sched (next256 bl) i))) ∧ Aside0 (Below wo.heap.size wo wi)) (fun _ v8 _ => 64 - (intOf v8).toNat)
      case atStart => exact ⟨16, Nat.le_refl _, by omega, rfl, R7, HI⟩
      case round =>
        clear R7 HI
        obtain ⟨i, h16, hi, rfl, R7, HI⟩ := hrel
        obtain ⟨A7, c7, e7, hc7, C7⟩ := Kd.R_reads R7.out
        have L7 : (nW (sched (next256 bl) i)).length = i := by rw [nW_len, sched_len]
        rw [L7] at e7 hc7 C7
        subst e7
        by_cases hlti : i < 64
        · obtain ⟨ad7, hA7, c15⟩ := nW_cell C7 (i - 15) (by omega)
          subst hA7
          obtain ⟨_, ha, c2⟩ := nW_cell C7 (i - 2) (by omega)
          cases ha
          obtain ⟨_, ha, c16⟩ := nW_cell C7 (i - 16) (by omega)
          cases ha
          obtain ⟨_, ha, cc7⟩ := nW_cell C7 (i - 7) (by omega)
          cases ha
          have hl7 := Aside0.mk L7
          have hnxi := Aside0.mk (show next256 bl (sched (next256 bl) i) i = _ from if_neg (show ¬ i < 16 by omega))
          obtain ⟨X15, h15⟩ : ∃ X, (sched (next256 bl) i).getD (i - 15) 0 = X := ⟨_, rfl⟩
          obtain ⟨X2, h2⟩ : ∃ X, (sched (next256 bl) i).getD (i - 2) 0 = X := ⟨_, rfl⟩
          obtain ⟨X16, h16'⟩ : ∃ X, (sched (next256 bl) i).getD (i - 16) 0 = X := ⟨_, rfl⟩
          obtain ⟨X7, h7⟩ : ∃ X, (sched (next256 bl) i).getD (i - 7) 0 = X := ⟨_, rfl⟩
          rw [h15, h2, h16', h7] at hnxi
          rw [h15] at c15
          rw [h2] at c2
          rw [h16'] at c16
          rw [h7] at cc7
          clear h15 h2 h16' h7 C7 L7
          have q15 := (IntWalk.i64_in ((i : Int) - 15) (by omega)); have z15 : (0 : Int) ≤ (i : Int) - 15 := by omega
          have q2 := (IntWalk.i64_in ((i : Int) - 2) (by omega)); have z2 : (0 : Int) ≤ (i : Int) - 2 := by omega
          have q16 := (IntWalk.i64_in ((i : Int) - 16) (by omega)); have z16 : (0 : Int) ≤ (i : Int) - 16 := by omega
          have q7 := (IntWalk.i64_in ((i : Int) - 7) (by omega)); have z7 : (0 : Int) ≤ (i : Int) - 7 := by omega
          have y15 : (15 : Int) ≤ (i : Int) := by omega
          have y2 : (2 : Int) ≤ (i : Int) := by omega
          have y16 : (16 : Int) ≤ (i : Int) := by omega
          have y7 : (7 : Int) ≤ (i : Int) := by omega
          have l15 : (i : Int) - 15 < (i : Int) := by omega
          have l2 : (i : Int) - 2 < (i : Int) := by omega
          have l16 : (i : Int) - 16 < (i : Int) := by omega
          have l7 : (i : Int) - 7 < (i : Int) := by omega
          have t15 : ((i : Int) - 15).toNat = i - 15 := by omega
          have t2 : ((i : Int) - 2).toNat = i - 2 := by omega
          have t16 : ((i : Int) - 16).toNat = i - 16 := by omega
          have t7 : ((i : Int) - 7).toNat = i - 7 := by omega
          go_wp2
          go_quiet (fail)
          clear q15 q2 z15 z2 y15 y2 l15 l2 t15 t2 c15 c2
          go_wp2
          have C16 : ∀ n, ((wr.drewN n).drew).cell? (ad7.add (i - 16)) = some (.int .u32 (n32 X16)) := fun n => c16
          have CC7 : ∀ n, ((wr.drewN n).drew).cell? (ad7.add (i - 7)) = some (.int .u32 (n32 X7)) := fun n => cc7
          have R7' : ∀ n, Kd.R (Kd.int .u32) 133 ((wr.drewN n).drew) wo.heap.size (fun _ => True) (.slice (some ad7) i c7) (nW (sched (next256 bl) i)) := fun n => Kd.R_below R7.out (below_drew (pw_below_drewN (Below.refl _ _) n))
          have HI' : ∀ n, Below wo.heap.size wo ((wr.drewN n).drew) := fun n => below_drew (pw_below_drewN HI.out n)
          replace R7' := R7' nq
          replace HI' := HI' nq
          refine start_ (n := 33) (S := fun w' => w'.cell? (ad7.add (i - 16)) = some (.int .u32 (n32 X16)) ∧ w'.cell? (ad7.add (i - 7)) = some (.int .u32 (n32 X7))) (ds := [30, 31, 32]) #[false, false, false, false, false, false, false, false, false, false, false, false, false, false, false, false, false, false, false, false, false, false, false, false, false, false, false, false, false, false, false, false, false] (by kernel_rfl) rfl rfl ⟨C16 nq, CC7 nq⟩ (fun hHeld => ?_)
          generalize (wr.drewN nq).drew = w9 at R7' HI' hHeld ⊢
          refine pure_ (i := 0) (N := some 48) (v := ?_) (a' := ?_) #[true, false, false, false, false, false, false, false, false, false, false, false, false, false, false, false, false, false, false, false, false, false, false, false, false, false, false, false, false, false, false, false, false] rfl rfl (by kernel_rfl) (fun _ _ _ h => h) (Or.inl ⟨by rfl, ?_⟩) ?_ ?_
          rotate_left
          · intro w'
            go_simp
            with_reducible rfl
          rotate_left
          · simp only [Act.put, List.setIfInBounds_toArray, List.set_cons_zero, List.set_cons_succ, i64_w, i32_w]
            rfl
          refine pure_ (i := 1) (N := some 49) (v := ?_) (a' := ?_) #[true, true, false, false, false, false, false, false, false, false, false, false, false, false, false, false, false, false, false, false, false, false, false, false, false, false, false, false, false, false, false, false, false] rfl rfl (by kernel_rfl) (fun _ _ _ h => h) (Or.inl ⟨by rfl, ?_⟩) ?_ ?_
          rotate_left
          · intro w'
            go_simp
            with_reducible rfl
          rotate_left
          · simp only [Act.put, List.setIfInBounds_toArray, List.set_cons_zero, List.set_cons_succ, i64_w, i32_w]
            rfl
          refine pure_ (i := 2) (N := some 50) (v := ?_) (a' := ?_) #[true, true, true, false, false, false, false, false, false, false, false, false, false, false, false, false, false, false, false, false, false, false, false, false, false, false, false, false, false, false, false, false, false] rfl rfl (by kernel_rfl) (fun _ _ _ h => h) (Or.inl ⟨by rfl, ?_⟩) ?_ ?_
          rotate_left
          · intro w'
            go_simp
            with_reducible rfl
          rotate_left
          · simp only [Act.put, List.setIfInBounds_toArray, List.set_cons_zero, List.set_cons_succ, i64_w, i32_w]
            rfl
          refine pure_ (i := 3) (N := some 51) (v := ?_) (a' := ?_) #[true, true, true, true, false, false, false, false, false, false, false, false, false, false, false, false, false, false, false, false, false, false, false, false, false, false, false, false, false, false, false, false, false] rfl rfl (by kernel_rfl) (fun _ _ _ h => h) (Or.inl ⟨by rfl, ?_⟩) ?_ ?_
          rotate_left
          · intro w'
            go_simp
            with_reducible rfl
          rotate_left
          · simp only [Act.put, List.setIfInBounds_toArray, List.set_cons_zero, List.set_cons_succ, i64_w, i32_w]
            rfl
          refine pure_ (i := 4) (N := some 52) (v := ?_) (a' := ?_) #[true, true, true, true, true, false, false, false, false, false, false, false, false, false, false, false, false, false, false, false, false, false, false, false, false, false, false, false, false, false, false, false, false] rfl rfl (by kernel_rfl) (fun _ _ _ h => h) (Or.inl ⟨by rfl, ?_⟩) ?_ ?_
          rotate_left
          · intro w'
            go_simp
            with_reducible rfl
          rotate_left
          · simp only [Act.put, List.setIfInBounds_toArray, List.set_cons_zero, List.set_cons_succ, i64_w, i32_w]
            rfl
          refine take_ (i := 5) (N := some 53) (v := ?_) (a' := ?_) #[true, true, true, true, true, true, false, false, false, false, false, false, false, false, false, false, false, false, false, false, false, false, false, false, false, false, false, false, false, false, false, false, false] rfl rfl (by kernel_rfl) (fun _ _ _ h => h) (Or.inl ⟨by rfl, ?_⟩) hHeld ?_ ?_
          rotate_left
          · rintro w' ⟨s0, s1⟩
            go_simp
            with_reducible rfl
          rotate_left
          · simp only [Act.put, List.setIfInBounds_toArray, List.set_cons_zero, List.set_cons_succ, i64_w, i32_w]
            rfl
          refine pure_ (i := 6) (N := some 54) (v := ?_) (a' := ?_) #[true, true, true, true, true, true, true, false, false, false, false, false, false, false, false, false, false, false, false, false, false, false, false, false, false, false, false, false, false, false, false, false, false] rfl rfl (by kernel_rfl) (fun _ _ _ h => h) (Or.inl ⟨by rfl, ?_⟩) ?_ ?_
          rotate_left
          · intro w'
            go_simp
            with_reducible rfl
          rotate_left
          · simp only [Act.put, List.setIfInBounds_toArray, List.set_cons_zero, List.set_cons_succ, i64_w, i32_w]
            rfl
          refine takeC_ (i := 7) (N := some 55) (v := .int .u32 (n32 (rl X15 25))) (a' := ?_) #[true, true, true, true, true, true, true, true, false, false, false, false, false, false, false, false, false, false, false, false, false, false, false, false, false, false, false, false, false, false, false, false, false] rfl rfl (by kernel_rfl) (fun _ _ _ h => h) (by rfl) 127 #[.int .u32 (n32 X15), .int .i64 7] ?_ (fun w => right_7 X15 w) hHeld ?_ ?_
          · intro w'
            go_simp
            try (with_reducible rfl)
          rotate_left
          · simp only [Act.put, List.setIfInBounds_toArray, List.set_cons_zero, List.set_cons_succ, i64_w, i32_w]
            rfl
          refine pure_ (i := 8) (N := some 56) (v := ?_) (a' := ?_) #[true, true, true, true, true, true, true, true, true, false, false, false, false, false, false, false, false, false, false, false, false, false, false, false, false, false, false, false, false, false, false, false, false] rfl rfl (by kernel_rfl) (fun _ _ _ h => h) (Or.inl ⟨by rfl, ?_⟩) ?_ ?_
          rotate_left
          · intro w'
            go_simp
            with_reducible rfl
          rotate_left
          · simp only [Act.put, List.setIfInBounds_toArray, List.set_cons_zero, List.set_cons_succ, i64_w, i32_w]
            rfl
          refine takeC_ (i := 9) (N := some 57) (v := .int .u32 (n32 (rl X15 14))) (a' := ?_) #[true, true, true, true, true, true, true, true, true, true, false, false, false, false, false, false, false, false, false, false, false, false, false, false, false, false, false, false, false, false, false, false, false] rfl rfl (by kernel_rfl) (fun _ _ _ h => h) (by rfl) 127 #[.int .u32 (n32 X15), .int .i64 18] ?_ (fun w => right_18 X15 w) hHeld ?_ ?_
          · intro w'
            go_simp
            try (with_reducible rfl)
          rotate_left
          · simp only [Act.put, List.setIfInBounds_toArray, List.set_cons_zero, List.set_cons_succ, i64_w, i32_w]
            rfl
          refine pure_ (i := 10) (N := some 58) (v := ?_) (a' := ?_) #[true, true, true, true, true, true, true, true, true, true, true, false, false, false, false, false, false, false, false, false, false, false, false, false, false, false, false, false, false, false, false, false, false] rfl rfl (by kernel_rfl) (fun _ _ _ h => h) (Or.inl ⟨by rfl, ?_⟩) ?_ ?_
          rotate_left
          · intro w'
            go_simp
            with_reducible rfl
          rotate_left
          · simp only [Act.put, List.setIfInBounds_toArray, List.set_cons_zero, List.set_cons_succ, i64_w, i32_w]
            rfl
          refine pure_ (i := 11) (N := some 59) (v := ?_) (a' := ?_) #[true, true, true, true, true, true, true, true, true, true, true, true, false, false, false, false, false, false, false, false, false, false, false, false, false, false, false, false, false, false, false, false, false] rfl rfl (by kernel_rfl) (fun _ _ _ h => h) (Or.inl ⟨by rfl, ?_⟩) ?_ ?_
          rotate_left
          · intro w'
            go_simp
            with_reducible rfl
          rotate_left
          · simp only [Act.put, List.setIfInBounds_toArray, List.set_cons_zero, List.set_cons_succ, i64_w, i32_w]
            rfl
          refine pure_ (i := 12) (N := some 60) (v := ?_) (a' := ?_) #[true, true, true, true, true, true, true, true, true, true, true, true, true, false, false, false, false, false, false, false, false, false, false, false, false, false, false, false, false, false, false, false, false] rfl rfl (by kernel_rfl) (fun _ _ _ h => h) (Or.inl ⟨by rfl, ?_⟩) ?_ ?_
          rotate_left
          · intro w'
            go_simp
            with_reducible rfl
          rotate_left
          · simp only [Act.put, List.setIfInBounds_toArray, List.set_cons_zero, List.set_cons_succ, i64_w, i32_w]
            rfl
          refine pure_ (i := 13) (N := some 61) (v := ?_) (a' := ?_) #[true, true, true, true, true, true, true, true, true, true, true, true, true, true, false, false, false, false, false, false, false, false, false, false, false, false, false, false, false, false, false, false, false] rfl rfl (by kernel_rfl) (fun _ _ _ h => h) (Or.inl ⟨by rfl, ?_⟩) ?_ ?_
          rotate_left
          · intro w'
            go_simp
            with_reducible rfl
          rotate_left
          · simp only [Act.put, List.setIfInBounds_toArray, List.set_cons_zero, List.set_cons_succ, i64_w, i32_w]
            rfl
          refine pure_ (i := 14) (N := some 62) (v := ?_) (a' := ?_) #[true, true, true, true, true, true, true, true, true, true, true, true, true, true, true, false, false, false, false, false, false, false, false, false, false, false, false, false, false, false, false, false, false] rfl rfl (by kernel_rfl) (fun _ _ _ h => h) (Or.inl ⟨by rfl, ?_⟩) ?_ ?_
          rotate_left
          · intro w'
            go_simp
            with_reducible rfl
          rotate_left
          · simp only [Act.put, List.setIfInBounds_toArray, List.set_cons_zero, List.set_cons_succ, i64_w, i32_w]
            rfl
          refine pure_ (i := 15) (N := some 63) (v := ?_) (a' := ?_) #[true, true, true, true, true, true, true, true, true, true, true, true, true, true, true, true, false, false, false, false, false, false, false, false, false, false, false, false, false, false, false, false, false] rfl rfl (by kernel_rfl) (fun _ _ _ h => h) (Or.inl ⟨by rfl, ?_⟩) ?_ ?_
          rotate_left
          · intro w'
            go_simp
            with_reducible rfl
          rotate_left
          · simp only [Act.put, List.setIfInBounds_toArray, List.set_cons_zero, List.set_cons_succ, i64_w, i32_w]
            rfl
          refine pure_ (i := 16) (N := some 64) (v := ?_) (a' := ?_) #[true, true, true, true, true, true, true, true, true, true, true, true, true, true, true, true, true, false, false, false, false, false, false, false, false, false, false, false, false, false, false, false, false] rfl rfl (by kernel_rfl) (fun _ _ _ h => h) (Or.inl ⟨by rfl, ?_⟩) ?_ ?_
          rotate_left
          · intro w'
            go_simp
            with_reducible rfl
          rotate_left
          · simp only [Act.put, List.setIfInBounds_toArray, List.set_cons_zero, List.set_cons_succ, i64_w, i32_w]
            rfl
          refine pure_ (i := 17) (N := some 65) (v := ?_) (a' := ?_) #[true, true, true, true, true, true, true, true, true, true, true, true, true, true, true, true, true, true, false, false, false, false, false, false, false, false, false, false, false, false, false, false, false] rfl rfl (by kernel_rfl) (fun _ _ _ h => h) (Or.inl ⟨by rfl, ?_⟩) ?_ ?_
          rotate_left
          · intro w'
            go_simp
            with_reducible rfl
          rotate_left
          · simp only [Act.put, List.setIfInBounds_toArray, List.set_cons_zero, List.set_cons_succ, i64_w, i32_w]
            rfl
          refine pure_ (i := 18) (N := some 66) (v := ?_) (a' := ?_) #[true, true, true, true, true, true, true, true, true, true, true, true, true, true, true, true, true, true, true, false, false, false, false, false, false, false, false, false, false, false, false, false, false] rfl rfl (by kernel_rfl) (fun _ _ _ h => h) (Or.inl ⟨by rfl, ?_⟩) ?_ ?_
          rotate_left
          · intro w'
            go_simp
            with_reducible rfl
          rotate_left
          · simp only [Act.put, List.setIfInBounds_toArray, List.set_cons_zero, List.set_cons_succ, i64_w, i32_w]
            rfl
          refine take_ (i := 19) (N := some 67) (v := ?_) (a' := ?_) #[true, true, true, true, true, true, true, true, true, true, true, true, true, true, true, true, true, true, true, true, false, false, false, false, false, false, false, false, false, false, false, false, false] rfl rfl (by kernel_rfl) (fun _ _ _ h => h) (Or.inl ⟨by rfl, ?_⟩) hHeld ?_ ?_
          rotate_left
          · rintro w' ⟨s0, s1⟩
            go_simp
            with_reducible rfl
          rotate_left
          · simp only [Act.put, List.setIfInBounds_toArray, List.set_cons_zero, List.set_cons_succ, i64_w, i32_w]
            rfl
          refine pure_ (i := 20) (N := some 68) (v := ?_) (a' := ?_) #[true, true, true, true, true, true, true, true, true, true, true, true, true, true, true, true, true, true, true, true, true, false, false, false, false, false, false, false, false, false, false, false, false] rfl rfl (by kernel_rfl) (fun _ _ _ h => h) (Or.inl ⟨by rfl, ?_⟩) ?_ ?_
          rotate_left
          · intro w'
            go_simp
            with_reducible rfl
          rotate_left
          · simp only [Act.put, List.setIfInBounds_toArray, List.set_cons_zero, List.set_cons_succ, i64_w, i32_w]
            rfl
          refine pure_ (i := 21) (N := some 69) (v := ?_) (a' := ?_) #[true, true, true, true, true, true, true, true, true, true, true, true, true, true, true, true, true, true, true, true, true, true, false, false, false, false, false, false, false, false, false, false, false] rfl rfl (by kernel_rfl) (fun _ _ _ h => h) (Or.inl ⟨by rfl, ?_⟩) ?_ ?_
          rotate_left
          · intro w'
            go_simp
            with_reducible rfl
          rotate_left
          · simp only [Act.put, List.setIfInBounds_toArray, List.set_cons_zero, List.set_cons_succ, i64_w, i32_w]
            rfl
          refine takeC_ (i := 22) (N := some 70) (v := .int .u32 (n32 (rl X2 15))) (a' := ?_) #[true, true, true, true, true, true, true, true, true, true, true, true, true, true, true, true, true, true, true, true, true, true, true, false, false, false, false, false, false, false, false, false, false] rfl rfl (by kernel_rfl) (fun _ _ _ h => h) (by rfl) 127 #[.int .u32 (n32 X2), .int .i64 17] ?_ (fun w => right_17 X2 w) hHeld ?_ ?_
          · intro w'
            go_simp
            try (with_reducible rfl)
          rotate_left
          · simp only [Act.put, List.setIfInBounds_toArray, List.set_cons_zero, List.set_cons_succ, i64_w, i32_w]
            rfl
          refine pure_ (i := 23) (N := some 71) (v := ?_) (a' := ?_) #[true, true, true, true, true, true, true, true, true, true, true, true, true, true, true, true, true, true, true, true, true, true, true, true, false, false, false, false, false, false, false, false, false] rfl rfl (by kernel_rfl) (fun _ _ _ h => h) (Or.inl ⟨by rfl, ?_⟩) ?_ ?_
          rotate_left
          · intro w'
            go_simp
            with_reducible rfl
          rotate_left
          · simp only [Act.put, List.setIfInBounds_toArray, List.set_cons_zero, List.set_cons_succ, i64_w, i32_w]
            rfl
          refine takeC_ (i := 24) (N := some 72) (v := .int .u32 (n32 (rl X2 13))) (a' := ?_) #[true, true, true, true, true, true, true, true, true, true, true, true, true, true, true, true, true, true, true, true, true, true, true, true, true, false, false, false, false, false, false, false, false] rfl rfl (by kernel_rfl) (fun _ _ _ h => h) (by rfl) 127 #[.int .u32 (n32 X2), .int .i64 19] ?_ (fun w => right_19 X2 w) hHeld ?_ ?_
          · intro w'
            go_simp
            try (with_reducible rfl)
          rotate_left
          · simp only [Act.put, List.setIfInBounds_toArray, List.set_cons_zero, List.set_cons_succ, i64_w, i32_w]
            rfl
          refine pure_ (i := 25) (N := some 73) (v := ?_) (a' := ?_) #[true, true, true, true, true, true, true, true, true, true, true, true, true, true, true, true, true, true, true, true, true, true, true, true, true, true, false, false, false, false, false, false, false] rfl rfl (by kernel_rfl) (fun _ _ _ h => h) (Or.inl ⟨by rfl, ?_⟩) ?_ ?_
          rotate_left
          · intro w'
            go_simp
            with_reducible rfl
          rotate_left
          · simp only [Act.put, List.setIfInBounds_toArray, List.set_cons_zero, List.set_cons_succ, i64_w, i32_w]
            rfl
          refine pure_ (i := 26) (N := some 74) (v := ?_) (a' := ?_) #[true, true, true, true, true, true, true, true, true, true, true, true, true, true, true, true, true, true, true, true, true, true, true, true, true, true, true, false, false, false, false, false, false] rfl rfl (by kernel_rfl) (fun _ _ _ h => h) (Or.inl ⟨by rfl, ?_⟩) ?_ ?_
          rotate_left
          · intro w'
            go_simp
            with_reducible rfl
          rotate_left
          · simp only [Act.put, List.setIfInBounds_toArray, List.set_cons_zero, List.set_cons_succ, i64_w, i32_w]
            rfl
          refine pure_ (i := 27) (N := some 75) (v := ?_) (a' := ?_) #[true, true, true, true, true, true, true, true, true, true, true, true, true, true, true, true, true, true, true, true, true, true, true, true, true, true, true, true, false, false, false, false, false] rfl rfl (by kernel_rfl) (fun _ _ _ h => h) (Or.inl ⟨by rfl, ?_⟩) ?_ ?_
          rotate_left
          · intro w'
            go_simp
            with_reducible rfl
          rotate_left
          · simp only [Act.put, List.setIfInBounds_toArray, List.set_cons_zero, List.set_cons_succ, i64_w, i32_w]
            rfl
          refine pure_ (i := 28) (N := some 76) (v := ?_) (a' := ?_) #[true, true, true, true, true, true, true, true, true, true, true, true, true, true, true, true, true, true, true, true, true, true, true, true, true, true, true, true, true, false, false, false, false] rfl rfl (by kernel_rfl) (fun _ _ _ h => h) (Or.inl ⟨by rfl, ?_⟩) ?_ ?_
          rotate_left
          · intro w'
            go_simp
            with_reducible rfl
          rotate_left
          · simp only [Act.put, List.setIfInBounds_toArray, List.set_cons_zero, List.set_cons_succ, i64_w, i32_w]
            rfl
          refine pure_ (i := 29) (N := some 77) (v := ?_) (a' := ?_) #[true, true, true, true, true, true, true, true, true, true, true, true, true, true, true, true, true, true, true, true, true, true, true, true, true, true, true, true, true, true, false, false, false] rfl rfl (by kernel_rfl) (fun _ _ _ h => h) (Or.inl ⟨by rfl, ?_⟩) ?_ ?_
          rotate_left
          · intro w'
            go_simp
            with_reducible rfl
          rotate_left
          · simp only [Act.put, List.setIfInBounds_toArray, List.set_cons_zero, List.set_cons_succ, i64_w, i32_w]
            rfl
          clear R7 HI c16 cc7 C16 CC7
          have R7 := Aside0.mk R7'
          have HI := Aside0.mk HI'
          clear R7' HI'
          first | rw [sched_valw] | rw [sched_val]
          obtain ⟨NX, hNX⟩ : ∃ X, X16 + sg0 X15 + X7 + sg1 X2 = X := ⟨_, rfl⟩
          rw [hNX] at hnxi ⊢
          clear hNX q16 q7 z16 z7 y16 y7 l16 l7 t16 t7 hHeld
          refine last_ (i := 30) (N := some 78) #[true, true, true, true, true, true, true, true, true, true, true, true, true, true, true, true, true, true, true, true, true, true, true, true, true, true, true, true, true, true, true, false, false] rfl rfl (by kernel_rfl) (by decide) (fun K hK => ?_)
          refine value_ (w1 := w9.alloc (.cells #[.int .u32 (n32 NX)] 133)) (v := .slice (some ⟨w9.heap.size, 0, none⟩) 1 1) (by rfl) rfl ?_ ?_
          · go_simp
            try rfl
          refine hK.out _ _ ?_
          clear hK K
          refine norm_ (a' := ?_) ?_ ?_
          rotate_left
          · show Act.put _ (some 78) _ = _
            simp only [Act.put, List.setIfInBounds_toArray, List.set_cons_zero, List.set_cons_succ, i64_w, i32_w]
            rfl
          refine last_ (i := 31) (N := some 79) #[true, true, true, true, true, true, true, true, true, true, true, true, true, true, true, true, true, true, true, true, true, true, true, true, true, true, true, true, true, true, true, true, false] rfl rfl (by kernel_rfl) (by decide) (fun K hK => ?_)
          refine Kd.R_append_step (Kd.int .u32) (w0 := wo) wo.heap.size (by rfl) (.tmp 48) (.tmp 78) 141 133 (.int .u32 0) 4 rfl Try.underlying141 infoU32 rfl (by decide) (by omega) (.slice (some ad7) i c7) (nW (sched (next256 bl) i)) (n32 NX) [.int .u32 (n32 NX)] (fun _ => True) (fun _ => False) rfl rfl ?aP (fun _ hk => hk.elim) ?aF ?aO ?aB ?aS ?aL ?_
          case aP => exact rfl
          case aF => exact (fun _ _ => trivial)
          case aO => exact R7.out
          case aB => exact HI.out
          case aS => exact HI.out.size
          case aL => rw [hl7.out]; omega
          intro v1 w5 ho hb hg hat
          have r7_ := Aside0.mk ho
          have hi_ := Aside0.mk hb
          clear ho hb hg hat
          refine hK.out _ _ ?_
          clear hK K
          refine norm_ (a' := ?_) ?_ ?_
          rotate_left
          · show Act.put _ (some 79) _ = _
            simp only [Act.put, List.setIfInBounds_toArray, List.set_cons_zero, List.set_cons_succ, i64_w, i32_w]
            rfl
          refine last_ (i := 32) (N := some 7) #[true, true, true, true, true, true, true, true, true, true, true, true, true, true, true, true, true, true, true, true, true, true, true, true, true, true, true, true, true, true, true, true, true] rfl rfl (by kernel_rfl) (by decide) (fun K hK => ?_)
          refine value_ (w1 := ?_) (v := ?_) (by rfl) rfl ?_ ?_
          rotate_left 2
          · go_simp
            constructor
            · rfl
            · rfl
          refine hK.out _ _ ?_
          clear hK K
          refine norm_ (a' := ?_) ?_ ?_
          rotate_left
          · show Act.put _ (some 7) _ = _
            simp only [Act.put, List.setIfInBounds_toArray, List.set_cons_zero, List.set_cons_succ, i64_w, i32_w]
            rfl
          refine done_ (by kernel_rfl) ?_
          go_wp2
          go_roundw
          · exact ⟨i + 1, by omega, by omega, by simp, ⟨by rw [show nW (sched (next256 bl) (i + 1)) = nW (sched (next256 bl) i) ++ [n32 NX] by rw [sched, hnxi.out]; simp [nW]]; exact r7_.out⟩, hi_⟩
          · show 64 - ((i : Int) + 1).toNat < 64 - (i : Int).toNat; omega
        · obtain rfl : i = 64 := by omega
          clear h16 hi hlti hc7
          have HWS := Aside0.mk (show comp256 H bl = H.add (rounds256 (sched (next256 bl) 64) H 64) from rfl)
          have hwl := Aside0.mk (sched_len (next256 bl) 64)
          obtain ⟨ws, hws⟩ : ∃ l, sched (next256 bl) 64 = l := ⟨_, rfl⟩
          rw [hws] at R7 C7 L7 HWS hwl
          clear hws
          have hH8 := Aside0.mk (nW_len H.l)
          have hw12 := Aside0.mk (show wo.heap.size ≤ wr.heap.size from HI.out.size)
          have kw := Aside0.mk (blk_below KH.out HI.out)
          have C7' := Aside0.mk C7
          clear C7
          go_wp2_with (first
            | ((with_reducible refine gate_dst (N := 80) rfl ?_); refine Kd.R_lit (Kd.int .u32) (w0 := wr) wr.heap.size 133 ?hg (N := 80) ?hd (xs := ([] : List Int)) (inner := []) (ok := fun _ => True) (okp := fun _ => True) ?hr ?hp (fun _ hk => hk) trivial (Below.refl _ _) (Nat.le_refl _) (by simp) ?_; (case hd => rfl); (case hg => rfl); (case hr => first | (go_simp; done) | (go_simp; rfl)); (case hp => exact (Reps.none _ _)); intro v80 w10 ho hb hg_ hnew_; have R80 := Aside0.mk ho; have H80 := Aside0.mk hb; have kh_ := Aside0.mk (blk_below kw.out hb); clear ho hb hg_ hnew_)
            | (at_builtin; refine Kd.R_append_row (Value.int .u32) (0 : Int) (h1 := fun _ => rfl) (w0 := wr) wr.heap.size rfl (.tmp 80) (.tmp 81) 141 133 (.int .u32 0) 4 rfl Try.underlying141 infoU32 rfl (by decide) _ ([] : List Int) (nW H.l) (some ⟨gh, 0, none⟩) 8 8 (fun _ => True) rfl rfl (fun _ _ => trivial) R80.out (C_words _ gh H.l _ kh_.out (by rw [V8_len]; omega) 8 rfl) H80.out H80.out.size (by simp) ?_; intro v1 w11 ho hb hg hat; have R11 := Aside0.mk (show Kd.R (Kd.int .u32) 133 w11 wr.heap.size (fun _ => True) v1 (nW H.l) from ho); have H11 := Aside0.mk hb; clear ho hb hg hat H80 kh_))
          have L11 : (nW H.l).length = 8 := by rw [nW_len]; rfl
          obtain ⟨A11, c11, e11, hc11, C11⟩ := Kd.R_reads R11.out
          rw [L11] at e11 hc11 C11
          subst e11
          have hgh : gh < wo.heap.size := blk_lt KH.out
          have C7 := Aside0.mk (Kd.C_below C7'.out H11.out)
          have C4 := Aside0.mk (Kd.C_below (Kd.C_below (Kd.R_reads' R4.out).2.2 HI.out) H11.out)
          have HI11 := Aside0.mk (below_step HI.out H11.out)
          have G11 := Aside0.mk (show ∀ ad, A11 = some ad → gh < ad.block from fun ad hA => by have := R_addr R11.out ad hA; have := hw12.out; omega)
          have HGH := Aside0.mk hgh
          clear R11 H11 kw C7' hgh hw12 R80
          have C11 := Aside0.mk C11
          go_loopw [11, 12] (fun v11 v12 wi => ∃ (i : Nat) (A : Option Addr) (c : Nat), i ≤ 64 ∧ v12 = .int .i64 (i : Int) ∧ v11 = .slice A 8 c ∧ Aside0 (Kd.C (Kd.int .u32) wi A 8 (nW (rounds256 ws H i).l)) ∧ Aside0 (∀ ad, A = some ad → gh < ad.block) ∧ Aside0 (Below w11.heap.size w11 wi)) (fun _ v12 _ => 64 - (intOf v12).toNat)
          case atStart => exact ⟨0, A11, c11, Nat.zero_le _, rfl, rfl, C11, G11, ⟨Below.refl _ _⟩⟩
          case round =>
            clear C11 G11
            obtain ⟨i, A11, c11, hi, rfl, rfl, C11, G11, H3⟩ := hrel
            by_cases hlti : i < 64
            · obtain ⟨ad11, hA11, c0⟩ := nW_cell C11.out 0 (by omega)
              subst hA11
              obtain ⟨_, ha, c1⟩ := nW_cell C11.out 1 (by omega)
              cases ha
              obtain ⟨_, ha, c2⟩ := nW_cell C11.out 2 (by omega)
              cases ha
              obtain ⟨_, ha, c3⟩ := nW_cell C11.out 3 (by omega)
              cases ha
              obtain ⟨_, ha, c4⟩ := nW_cell C11.out 4 (by omega)
              cases ha
              obtain ⟨_, ha, c5⟩ := nW_cell C11.out 5 (by omega)
              cases ha
              obtain ⟨_, ha, c6⟩ := nW_cell C11.out 6 (by omega)
              cases ha
              obtain ⟨_, ha, c7⟩ := nW_cell C11.out 7 (by omega)
              cases ha
              have hk256 : (nW k256).length = 64 := by rw [nW_len]; rfl
              obtain ⟨ad4, hA4, ck⟩ := nW_cell (Kd.C_below C4.out H3.out) i (by rw [hk256]; exact hlti)
              subst hA4
              obtain ⟨ad7, hA7, cw⟩ := nW_cell (Kd.C_below C7.out H3.out) i hlti
              subst hA7
              have lk4 : (i : Int) < ((nW k256).length : Int) := by rw [hk256]; omega
              have lkw : (i : Int) < 64 := by omega
              have hst := Aside0.mk (show rounds256 ws H (i + 1) = rnd256 (rounds256 ws H i) (k256.getD i 0) (ws.getD i 0) from rfl)
              obtain ⟨V, hV⟩ : ∃ V, rounds256 ws H i = V := ⟨_, rfl⟩
              obtain ⟨KK, hKK⟩ : ∃ V, k256.getD i 0 = V := ⟨_, rfl⟩
              obtain ⟨WK, hWK⟩ : ∃ V, ws.getD i 0 = V := ⟨_, rfl⟩
              rw [hV] at c0 c1 c2 c3 c4 c5 c6 c7
              rw [hV, hKK, hWK] at hst
              rw [hWK] at cw
              rw [hKK] at ck
              clear hV hKK hWK hk256
              obtain ⟨va, vb, vc, vd, ve, vf, vg, vh⟩ := V
              replace c0 : wr.cell? (ad11.add 0) = some (.int .u32 (n32 va)) := c0
              have c0' : wr.cell? ad11 = some (.int .u32 (n32 va)) := by rw [show ad11 = ad11.add 0 by unfold Addr.add; rfl]; exact c0
              replace c1 : wr.cell? (ad11.add 1) = some (.int .u32 (n32 vb)) := c1
              replace c2 : wr.cell? (ad11.add 2) = some (.int .u32 (n32 vc)) := c2
              replace c3 : wr.cell? (ad11.add 3) = some (.int .u32 (n32 vd)) := c3
              replace c4 : wr.cell? (ad11.add 4) = some (.int .u32 (n32 ve)) := c4
              replace c5 : wr.cell? (ad11.add 5) = some (.int .u32 (n32 vf)) := c5
              replace c6 : wr.cell? (ad11.add 6) = some (.int .u32 (n32 vg)) := c6
              replace c7 : wr.cell? (ad11.add 7) = some (.int .u32 (n32 vh)) := c7
              replace c1 : wr.cell? { block := ad11.block, off := ad11.off + 1 } = some (.int .u32 (n32 vb)) := c1
              replace c2 : wr.cell? { block := ad11.block, off := ad11.off + 2 } = some (.int .u32 (n32 vc)) := c2
              replace c3 : wr.cell? { block := ad11.block, off := ad11.off + 3 } = some (.int .u32 (n32 vd)) := c3
              replace c4 : wr.cell? { block := ad11.block, off := ad11.off + 4 } = some (.int .u32 (n32 ve)) := c4
              replace c5 : wr.cell? { block := ad11.block, off := ad11.off + 5 } = some (.int .u32 (n32 vf)) := c5
              replace c6 : wr.cell? { block := ad11.block, off := ad11.off + 6 } = some (.int .u32 (n32 vg)) := c6
              replace c7 : wr.cell? { block := ad11.block, off := ad11.off + 7 } = some (.int .u32 (n32 vh)) := c7
              go_wp2
              go_quiet (fail)
              replace c1 : (wr.drewN nq).cell? { block := ad11.block, off := ad11.off + 1 } = some (.int .u32 (n32 vb)) := c1
              replace c2 : (wr.drewN nq).cell? { block := ad11.block, off := ad11.off + 2 } = some (.int .u32 (n32 vc)) := c2
              replace c3 : (wr.drewN nq).cell? { block := ad11.block, off := ad11.off + 3 } = some (.int .u32 (n32 vd)) := c3
              replace c5 : (wr.drewN nq).cell? { block := ad11.block, off := ad11.off + 5 } = some (.int .u32 (n32 vf)) := c5
              replace c6 : (wr.drewN nq).cell? { block := ad11.block, off := ad11.off + 6 } = some (.int .u32 (n32 vg)) := c6
              replace c7 : (wr.drewN nq).cell? { block := ad11.block, off := ad11.off + 7 } = some (.int .u32 (n32 vh)) := c7
              replace ck : (wr.drewN nq).cell? (ad4.add i) = some (.int .u32 (n32 KK)) := ck
              replace cw : (wr.drewN nq).cell? (ad7.add i) = some (.int .u32 (n32 WK)) := cw
              have h3_ : Below w11.heap.size w11 (wr.drewN nq) := pw_below_drewN H3.out nq
              generalize wr.drewN nq = w15 at c1 c2 c3 c5 c6 c7 ck cw h3_ ⊢
              clear H3
              have H3 := Aside0.mk h3_
              clear h3_
              clear c0 c0' c4
              go_wp2
              go_quiet ((go_at_call 127; first | (with_reducible exact Calls.quiet_of_same (right_6 ve _)) | (with_reducible exact Calls.quiet_of_same (right_11 ve _)) | (with_reducible exact Calls.quiet_of_same (right_25 ve _))))
              replace c1 : (w15.drewN nq).cell? { block := ad11.block, off := ad11.off + 1 } = some (.int .u32 (n32 vb)) := c1
              replace c2 : (w15.drewN nq).cell? { block := ad11.block, off := ad11.off + 2 } = some (.int .u32 (n32 vc)) := c2
              replace c3 : (w15.drewN nq).cell? { block := ad11.block, off := ad11.off + 3 } = some (.int .u32 (n32 vd)) := c3
              replace c5 : (w15.drewN nq).cell? { block := ad11.block, off := ad11.off + 5 } = some (.int .u32 (n32 vf)) := c5
              replace c6 : (w15.drewN nq).cell? { block := ad11.block, off := ad11.off + 6 } = some (.int .u32 (n32 vg)) := c6
              have h3_ : Below w11.heap.size w11 (w15.drewN nq) := pw_below_drewN H3.out nq
              generalize w15.drewN nq = w16 at c1 c2 c3 c5 c6 h3_ ⊢
              clear H3
              have H3 := Aside0.mk h3_
              clear h3_
              clear c7 ck cw
              go_wp2
              go_quiet ((go_at_call 127; first | (with_reducible exact Calls.quiet_of_same (right_2 va _)) | (with_reducible exact Calls.quiet_of_same (right_13 va _)) | (with_reducible exact Calls.quiet_of_same (right_22 va _))))
              replace c1 : (w16.drewN nq).cell? { block := ad11.block, off := ad11.off + 1 } = some (.int .u32 (n32 vb)) := c1
              replace c2 : (w16.drewN nq).cell? { block := ad11.block, off := ad11.off + 2 } = some (.int .u32 (n32 vc)) := c2
              replace c3 : (w16.drewN nq).cell? { block := ad11.block, off := ad11.off + 3 } = some (.int .u32 (n32 vd)) := c3
              replace c5 : (w16.drewN nq).cell? { block := ad11.block, off := ad11.off + 5 } = some (.int .u32 (n32 vf)) := c5
              replace c6 : (w16.drewN nq).cell? { block := ad11.block, off := ad11.off + 6 } = some (.int .u32 (n32 vg)) := c6
              have h3_ : Below w11.heap.size w11 (w16.drewN nq) := pw_below_drewN H3.out nq
              generalize w16.drewN nq = w17 at c1 c2 c3 c5 c6 h3_ ⊢
              clear H3
              have H3 := Aside0.mk h3_
              clear h3_
              obtain ⟨TT, hTT⟩ : ∃ x, vh + bs1 ve + ch ve vf vg + KK + WK = x := ⟨_, rfl⟩
              obtain ⟨UU, hUU⟩ : ∃ x, bs0 va + maj va vb vc = x := ⟨_, rfl⟩
              rw [t_ref, hTT, u_ref, hUU]
              have hs2 := Aside0.mk (show rounds256 ws H (i + 1) = ⟨TT + UU, va, vb, vc, vd + TT, ve, vf, vg⟩ by rw [hst.out, ← hTT, ← hUU]; rfl)
              clear hTT hUU hst
              go_wp2
              refine start_ (n := 24) (S := fun w' => w'.cell? { block := ad11.block, off := ad11.off + 1 } = some (.int .u32 (n32 vb)) ∧ w'.cell? { block := ad11.block, off := ad11.off + 2 } = some (.int .u32 (n32 vc)) ∧ w'.cell? { block := ad11.block, off := ad11.off + 3 } = some (.int .u32 (n32 vd)) ∧ w'.cell? { block := ad11.block, off := ad11.off + 5 } = some (.int .u32 (n32 vf)) ∧ w'.cell? { block := ad11.block, off := ad11.off + 6 } = some (.int .u32 (n32 vg))) (ds := [22, 23]) #[false, false, false, false, false, false, false, false, false, false, false, false, false, false, false, false, false, false, false, false, false, false, false, false] (by kernel_rfl) rfl rfl ⟨c1, c2, c3, c5, c6⟩ (fun hHeld => ?_)
              have h3_ : Below w11.heap.size w11 w17.drew := below_drew H3.out
              replace c1 : (w17.drew).cell? { block := ad11.block, off := ad11.off + 1 } = some (.int .u32 (n32 vb)) := c1
              replace c2 : (w17.drew).cell? { block := ad11.block, off := ad11.off + 2 } = some (.int .u32 (n32 vc)) := c2
              replace c3 : (w17.drew).cell? { block := ad11.block, off := ad11.off + 3 } = some (.int .u32 (n32 vd)) := c3
              replace c5 : (w17.drew).cell? { block := ad11.block, off := ad11.off + 5 } = some (.int .u32 (n32 vf)) := c5
              replace c6 : (w17.drew).cell? { block := ad11.block, off := ad11.off + 6 } = some (.int .u32 (n32 vg)) := c6
              generalize w17.drew = w20 at h3_ hHeld c1 c2 c3 c5 c6 ⊢
              clear H3
              have H3 := Aside0.mk h3_
              clear h3_
              refine pure_ (i := 0) (N := some 156) (v := ?_) (a' := ?_) #[true, false, false, false, false, false, false, false, false, false, false, false, false, false, false, false, false, false, false, false, false, false, false, false] rfl rfl (by kernel_rfl) (fun _ _ _ h => h) (Or.inl ⟨by rfl, ?_⟩) ?_ ?_
              rotate_left
              · intro w'
                go_simp
                with_reducible rfl
              rotate_left
              · simp only [Act.put, List.setIfInBounds_toArray, List.set_cons_zero, List.set_cons_succ, i64_w, i32_w]
                rfl
              refine pure_ (i := 1) (N := some 157) (v := ?_) (a' := ?_) #[true, true, false, false, false, false, false, false, false, false, false, false, false, false, false, false, false, false, false, false, false, false, false, false] rfl rfl (by kernel_rfl) (fun _ _ _ h => h) (Or.inl ⟨by rfl, ?_⟩) ?_ ?_
              rotate_left
              · intro w'
                go_simp
                with_reducible rfl
              rotate_left
              · simp only [Act.put, List.setIfInBounds_toArray, List.set_cons_zero, List.set_cons_succ, i64_w, i32_w]
                rfl
              refine pure_ (i := 2) (N := some 158) (v := ?_) (a' := ?_) #[true, true, true, false, false, false, false, false, false, false, false, false, false, false, false, false, false, false, false, false, false, false, false, false] rfl rfl (by kernel_rfl) (fun _ _ _ h => h) (Or.inl ⟨by rfl, ?_⟩) ?_ ?_
              rotate_left
              · intro w'
                go_simp
                with_reducible rfl
              rotate_left
              · simp only [Act.put, List.setIfInBounds_toArray, List.set_cons_zero, List.set_cons_succ, i64_w, i32_w]
                rfl
              refine pure_ (i := 3) (N := some 159) (v := ?_) (a' := ?_) #[true, true, true, true, false, false, false, false, false, false, false, false, false, false, false, false, false, false, false, false, false, false, false, false] rfl rfl (by kernel_rfl) (fun _ _ _ h => h) (Or.inl ⟨by rfl, ?_⟩) ?_ ?_
              rotate_left
              · intro w'
                go_simp
                with_reducible rfl
              rotate_left
              · simp only [Act.put, List.setIfInBounds_toArray, List.set_cons_zero, List.set_cons_succ, i64_w, i32_w]
                rfl
              refine pure_ (i := 4) (N := some 160) (v := ?_) (a' := ?_) #[true, true, true, true, true, false, false, false, false, false, false, false, false, false, false, false, false, false, false, false, false, false, false, false] rfl rfl (by kernel_rfl) (fun _ _ _ h => h) (Or.inl ⟨by rfl, ?_⟩) ?_ ?_
              rotate_left
              · intro w'
                go_simp
                with_reducible rfl
              rotate_left
              · simp only [Act.put, List.setIfInBounds_toArray, List.set_cons_zero, List.set_cons_succ, i64_w, i32_w]
                rfl
              refine pure_ (i := 5) (N := some 161) (v := ?_) (a' := ?_) #[true, true, true, true, true, true, false, false, false, false, false, false, false, false, false, false, false, false, false, false, false, false, false, false] rfl rfl (by kernel_rfl) (fun _ _ _ h => h) (Or.inl ⟨by rfl, ?_⟩) ?_ ?_
              rotate_left
              · intro w'
                go_simp
                with_reducible rfl
              rotate_left
              · simp only [Act.put, List.setIfInBounds_toArray, List.set_cons_zero, List.set_cons_succ, i64_w, i32_w]
                rfl
              refine take_ (i := 6) (N := some 162) (v := ?_) (a' := ?_) #[true, true, true, true, true, true, true, false, false, false, false, false, false, false, false, false, false, false, false, false, false, false, false, false] rfl rfl (by kernel_rfl) (fun _ _ _ h => h) (Or.inl ⟨by rfl, ?_⟩) hHeld ?_ ?_
              rotate_left
              · rintro w' ⟨s1, s2, s3, s5, s6⟩
                go_simp
                with_reducible rfl
              rotate_left
              · simp only [Act.put, List.setIfInBounds_toArray, List.set_cons_zero, List.set_cons_succ, i64_w, i32_w]
                rfl
              refine pure_ (i := 7) (N := some 163) (v := ?_) (a' := ?_) #[true, true, true, true, true, true, true, true, false, false, false, false, false, false, false, false, false, false, false, false, false, false, false, false] rfl rfl (by kernel_rfl) (fun _ _ _ h => h) (Or.inl ⟨by rfl, ?_⟩) ?_ ?_
              rotate_left
              · intro w'
                go_simp
                with_reducible rfl
              rotate_left
              · simp only [Act.put, List.setIfInBounds_toArray, List.set_cons_zero, List.set_cons_succ, i64_w, i32_w]
                rfl
              refine pure_ (i := 8) (N := some 164) (v := ?_) (a' := ?_) #[true, true, true, true, true, true, true, true, true, false, false, false, false, false, false, false, false, false, false, false, false, false, false, false] rfl rfl (by kernel_rfl) (fun _ _ _ h => h) (Or.inl ⟨by rfl, ?_⟩) ?_ ?_
              rotate_left
              · intro w'
                go_simp
                with_reducible rfl
              rotate_left
              · simp only [Act.put, List.setIfInBounds_toArray, List.set_cons_zero, List.set_cons_succ, i64_w, i32_w]
                rfl
              refine take_ (i := 9) (N := some 165) (v := ?_) (a' := ?_) #[true, true, true, true, true, true, true, true, true, true, false, false, false, false, false, false, false, false, false, false, false, false, false, false] rfl rfl (by kernel_rfl) (fun _ _ _ h => h) (Or.inl ⟨by rfl, ?_⟩) hHeld ?_ ?_
              rotate_left
              · rintro w' ⟨s1, s2, s3, s5, s6⟩
                go_simp
                with_reducible rfl
              rotate_left
              · simp only [Act.put, List.setIfInBounds_toArray, List.set_cons_zero, List.set_cons_succ, i64_w, i32_w]
                rfl
              refine pure_ (i := 10) (N := some 166) (v := ?_) (a' := ?_) #[true, true, true, true, true, true, true, true, true, true, true, false, false, false, false, false, false, false, false, false, false, false, false, false] rfl rfl (by kernel_rfl) (fun _ _ _ h => h) (Or.inl ⟨by rfl, ?_⟩) ?_ ?_
              rotate_left
              · intro w'
                go_simp
                with_reducible rfl
              rotate_left
              · simp only [Act.put, List.setIfInBounds_toArray, List.set_cons_zero, List.set_cons_succ, i64_w, i32_w]
                rfl
              refine pure_ (i := 11) (N := some 167) (v := ?_) (a' := ?_) #[true, true, true, true, true, true, true, true, true, true, true, true, false, false, false, false, false, false, false, false, false, false, false, false] rfl rfl (by kernel_rfl) (fun _ _ _ h => h) (Or.inl ⟨by rfl, ?_⟩) ?_ ?_
              rotate_left
              · intro w'
                go_simp
                with_reducible rfl
              rotate_left
              · simp only [Act.put, List.setIfInBounds_toArray, List.set_cons_zero, List.set_cons_succ, i64_w, i32_w]
                rfl
              refine take_ (i := 12) (N := some 168) (v := ?_) (a' := ?_) #[true, true, true, true, true, true, true, true, true, true, true, true, true, false, false, false, false, false, false, false, false, false, false, false] rfl rfl (by kernel_rfl) (fun _ _ _ h => h) (Or.inl ⟨by rfl, ?_⟩) hHeld ?_ ?_
              rotate_left
              · rintro w' ⟨s1, s2, s3, s5, s6⟩
                go_simp
                with_reducible rfl
              rotate_left
              · simp only [Act.put, List.setIfInBounds_toArray, List.set_cons_zero, List.set_cons_succ, i64_w, i32_w]
                rfl
              refine pure_ (i := 13) (N := some 169) (v := ?_) (a' := ?_) #[true, true, true, true, true, true, true, true, true, true, true, true, true, true, false, false, false, false, false, false, false, false, false, false] rfl rfl (by kernel_rfl) (fun _ _ _ h => h) (Or.inl ⟨by rfl, ?_⟩) ?_ ?_
              rotate_left
              · intro w'
                go_simp
                with_reducible rfl
              rotate_left
              · simp only [Act.put, List.setIfInBounds_toArray, List.set_cons_zero, List.set_cons_succ, i64_w, i32_w]
                rfl
              refine pure_ (i := 14) (N := some 170) (v := ?_) (a' := ?_) #[true, true, true, true, true, true, true, true, true, true, true, true, true, true, true, false, false, false, false, false, false, false, false, false] rfl rfl (by kernel_rfl) (fun _ _ _ h => h) (Or.inl ⟨by rfl, ?_⟩) ?_ ?_
              rotate_left
              · intro w'
                go_simp
                with_reducible rfl
              rotate_left
              · simp only [Act.put, List.setIfInBounds_toArray, List.set_cons_zero, List.set_cons_succ, i64_w, i32_w]
                rfl
              refine pure_ (i := 15) (N := some 171) (v := ?_) (a' := ?_) #[true, true, true, true, true, true, true, true, true, true, true, true, true, true, true, true, false, false, false, false, false, false, false, false] rfl rfl (by kernel_rfl) (fun _ _ _ h => h) (Or.inl ⟨by rfl, ?_⟩) ?_ ?_
              rotate_left
              · intro w'
                go_simp
                with_reducible rfl
              rotate_left
              · simp only [Act.put, List.setIfInBounds_toArray, List.set_cons_zero, List.set_cons_succ, i64_w, i32_w]
                rfl
              refine pure_ (i := 16) (N := some 172) (v := ?_) (a' := ?_) #[true, true, true, true, true, true, true, true, true, true, true, true, true, true, true, true, true, false, false, false, false, false, false, false] rfl rfl (by kernel_rfl) (fun _ _ _ h => h) (Or.inl ⟨by rfl, ?_⟩) ?_ ?_
              rotate_left
              · intro w'
                go_simp
                with_reducible rfl
              rotate_left
              · simp only [Act.put, List.setIfInBounds_toArray, List.set_cons_zero, List.set_cons_succ, i64_w, i32_w]
                rfl
              refine pure_ (i := 17) (N := some 173) (v := ?_) (a' := ?_) #[true, true, true, true, true, true, true, true, true, true, true, true, true, true, true, true, true, true, false, false, false, false, false, false] rfl rfl (by kernel_rfl) (fun _ _ _ h => h) (Or.inl ⟨by rfl, ?_⟩) ?_ ?_
              rotate_left
              · intro w'
                go_simp
                with_reducible rfl
              rotate_left
              · simp only [Act.put, List.setIfInBounds_toArray, List.set_cons_zero, List.set_cons_succ, i64_w, i32_w]
                rfl
              refine take_ (i := 18) (N := some 174) (v := ?_) (a' := ?_) #[true, true, true, true, true, true, true, true, true, true, true, true, true, true, true, true, true, true, true, false, false, false, false, false] rfl rfl (by kernel_rfl) (fun _ _ _ h => h) (Or.inl ⟨by rfl, ?_⟩) hHeld ?_ ?_
              rotate_left
              · rintro w' ⟨s1, s2, s3, s5, s6⟩
                go_simp
                with_reducible rfl
              rotate_left
              · simp only [Act.put, List.setIfInBounds_toArray, List.set_cons_zero, List.set_cons_succ, i64_w, i32_w]
                rfl
              refine pure_ (i := 19) (N := some 175) (v := ?_) (a' := ?_) #[true, true, true, true, true, true, true, true, true, true, true, true, true, true, true, true, true, true, true, true, false, false, false, false] rfl rfl (by kernel_rfl) (fun _ _ _ h => h) (Or.inl ⟨by rfl, ?_⟩) ?_ ?_
              rotate_left
              · intro w'
                go_simp
                with_reducible rfl
              rotate_left
              · simp only [Act.put, List.setIfInBounds_toArray, List.set_cons_zero, List.set_cons_succ, i64_w, i32_w]
                rfl
              refine pure_ (i := 20) (N := some 176) (v := ?_) (a' := ?_) #[true, true, true, true, true, true, true, true, true, true, true, true, true, true, true, true, true, true, true, true, true, false, false, false] rfl rfl (by kernel_rfl) (fun _ _ _ h => h) (Or.inl ⟨by rfl, ?_⟩) ?_ ?_
              rotate_left
              · intro w'
                go_simp
                with_reducible rfl
              rotate_left
              · simp only [Act.put, List.setIfInBounds_toArray, List.set_cons_zero, List.set_cons_succ, i64_w, i32_w]
                rfl
              refine take_ (i := 21) (N := some 177) (v := ?_) (a' := ?_) #[true, true, true, true, true, true, true, true, true, true, true, true, true, true, true, true, true, true, true, true, true, true, false, false] rfl rfl (by kernel_rfl) (fun _ _ _ h => h) (Or.inl ⟨by rfl, ?_⟩) hHeld ?_ ?_
              rotate_left
              · rintro w' ⟨s1, s2, s3, s5, s6⟩
                go_simp
                with_reducible rfl
              rotate_left
              · simp only [Act.put, List.setIfInBounds_toArray, List.set_cons_zero, List.set_cons_succ, i64_w, i32_w]
                rfl
              first | rw [n32_add TT UU] | rw [n32_add_m TT UU]
              first | rw [n32_add vd TT] | rw [n32_add_m vd TT]
              clear c1 c2 c3 c5 c6 hHeld
              refine last_ (i := 22) (N := some 178) #[true, true, true, true, true, true, true, true, true, true, true, true, true, true, true, true, true, true, true, true, true, true, true, false] rfl rfl (by kernel_rfl) (by decide) (fun K hK => ?_)
              refine value_ (w1 := w20.alloc (.cells #[.int .u32 (n32 (TT + UU)), .int .u32 (n32 va), .int .u32 (n32 vb), .int .u32 (n32 vc), .int .u32 (n32 (vd + TT)), .int .u32 (n32 ve), .int .u32 (n32 vf), .int .u32 (n32 vg)] 133)) (v := .slice (some ⟨w20.heap.size, 0, none⟩) 8 8) (by rfl) rfl ?_ ?_
              · go_simp
                try rfl
              refine hK.out _ _ ?_
              clear hK K
              refine norm_ (a' := ?_) ?_ ?_
              rotate_left
              · show Act.put _ (some 178) _ = _
                simp only [Act.put, List.setIfInBounds_toArray, List.set_cons_zero, List.set_cons_succ, i64_w, i32_w]
                rfl
              have cz_ : (w20.alloc (.cells #[.int .u32 (n32 (TT + UU)), .int .u32 (n32 va), .int .u32 (n32 vb), .int .u32 (n32 vc), .int .u32 (n32 (vd + TT)), .int .u32 (n32 ve), .int .u32 (n32 vf), .int .u32 (n32 vg)] 133)).heap[w20.heap.size]? = some (.cells (aU32 (rounds256 ws H (i + 1)).l) 133 (0, 0)) := by rw [hs2.out]; exact blk_new _ _
              have bz_ : Below w20.heap.size w20 (w20.alloc (.cells #[.int .u32 (n32 (TT + UU)), .int .u32 (n32 va), .int .u32 (n32 vb), .int .u32 (n32 vc), .int .u32 (n32 (vd + TT)), .int .u32 (n32 ve), .int .u32 (n32 vf), .int .u32 (n32 vg)] 133)) := below_alloc (Below.refl _ _) _
              have hz_ : wo.heap.size ≤ w20.heap.size := Nat.le_trans HI11.out.size H3.out.size
              generalize w20.alloc (.cells #[.int .u32 (n32 (TT + UU)), .int .u32 (n32 va), .int .u32 (n32 vb), .int .u32 (n32 vc), .int .u32 (n32 (vd + TT)), .int .u32 (n32 ve), .int .u32 (n32 vf), .int .u32 (n32 vg)] 133) = wz at cz_ bz_ ⊢
              have CZ := Aside0.mk cz_
              have BZ := Aside0.mk (below_step H3.out bz_)
              have HZ := Aside0.mk hz_
              clear cz_ bz_ hz_
              refine last_ (i := 23) (N := some 11) #[true, true, true, true, true, true, true, true, true, true, true, true, true, true, true, true, true, true, true, true, true, true, true, true] rfl rfl (by kernel_rfl) (by decide) (fun K hK => ?_)
              refine value_ (w1 := ?_) (v := ?_) (by rfl) rfl ?_ ?_
              rotate_left 2
              · go_simp
                constructor
                · rfl
                · rfl
              refine hK.out _ _ ?_
              clear hK K
              refine norm_ (a' := ?_) ?_ ?_
              rotate_left
              · show Act.put _ (some 11) _ = _
                simp only [Act.put, List.setIfInBounds_toArray, List.set_cons_zero, List.set_cons_succ, i64_w, i32_w]
                rfl
              refine done_ (by kernel_rfl) ?_
              go_wp2
              go_roundw
              · exact ⟨i + 1, some ⟨w20.heap.size, 0, none⟩, 8, by omega, by simp, rfl, ⟨C_words _ _ _ _ CZ.out (by rw [V8_len]; omega) 8 rfl⟩, ⟨fun ad h => by cases h; show gh < w20.heap.size; have := HZ.out; have := HGH.out; omega⟩, BZ⟩
              · show 64 - ((i : Int) + 1).toNat < 64 - (i : Int).toNat; omega
            · obtain rfl : i = 64 := by omega
              clear hi hlti
              obtain ⟨V, hV⟩ : ∃ V, rounds256 ws H 64 = V := ⟨_, rfl⟩
              rw [hV] at C11 HWS
              clear hV C4 C7
              have hi_ := Aside0.mk (below_step HI11.out H3.out)
              have KW := Aside0.mk (blk_below KH.out hi_.out)
              have R4' := Aside0.mk (Kd.R_below R4.out hi_.out)
              have R5' := Aside0.mk (Kd.R_below R5.out hi_.out)
              have HB' := Aside0.mk (below_step HB.out hi_.out)
              clear KH R4 R5 HB H3 HI11 HI hi_
              go_wp2
              go_loopw [17] (fun v17 wi => ∃ k : Nat, k ≤ 8 ∧ v17 = .int .i64 (k : Int) ∧ Aside0 (wi.heap[gh]? = some (.cells (aU32 (hmix H V k)) 133 (0, 0))) ∧ Aside0 (Kd.C (Kd.int .u32) wi A11 8 (nW V.l)) ∧ Aside0 (Kd.R (Kd.int .u32) 133 wi w.heap.size (fun k => k ≠ gh) (.slice A4 (nW k256).length c4) (nW k256)) ∧ Aside0 (Kd.R (Kd.int .u8) 5 wi w.heap.size (fun k => k ≠ gh) (.slice (some ad5) P.length c5) P) ∧ Aside0 (Below w.heap.size w wi)) (fun v17 _ => 8 - (intOf v17).toNat)
              case atStart => exact ⟨0, Nat.zero_le _, rfl, ⟨KW.out⟩, C11, R4', R5', HB'⟩
              case round =>
                clear KW C11 R4' R5' HB'
                obtain ⟨k, hk, rfl, KW, C11, R4, R5, HB⟩ := hrel
                by_cases hlt8 : k < 8
                · obtain ⟨ad11, hA11, c1⟩ := nW_cell C11.out k hlt8
                  subst hA11
                  have hne := Aside0.mk (G11.out ad11 rfl)
                  have c0 := (blk_cell KW.out k).trans (aU32_get _ k (by rw [hmix_len H V k hk]; exact hlt8))
                  rw [hmix_get H V k hlt8] at c0
                  have f0 := blk_frozen KW.out k
                  have hs := Aside0.mk (hmix_set H V k hlt8)
                  have hl8 := Aside0.mk (hmix_len H V k hk)
                  obtain ⟨X, hX⟩ : ∃ X, H.l.getD k 0 = X := ⟨_, rfl⟩
                  obtain ⟨Y, hY⟩ : ∃ X, V.l.getD k 0 = X := ⟨_, rfl⟩
                  rw [hX] at c0 hs
                  rw [hY] at c1 hs
                  clear hX hY
                  have lk : (k : Int) < 8 := by omega
                  go_wp2
                  refine wp_region_still_tail 12 (by kernel_rfl) (by kernel_rfl) ?_
                  simp only [List.take_succ_cons, List.take_zero, List.drop_succ_cons, List.drop_zero]
                  change wpStill _ _ (World.drew _) (fun a' => wpList _ _ _ _ a' (World.drew _)) _ _
                  replace c0 : (wr.drew).cell? ⟨gh, k, none⟩ = some (.int .u32 (n32 X)) := c0
                  replace c1 : (wr.drew).cell? (ad11.add k) = some (.int .u32 (n32 Y)) := c1
                  replace f0 : (wr.drew).frozen? ⟨gh, k, none⟩ = false := f0
                  have kw_ : (wr.drew).heap[gh]? = _ := KW.out
                  have c11_ : Kd.C (Kd.int .u32) wr.drew (some ad11) 8 (nW V.l) := Kd.C_below C11.out (below_drew (Below.refl _ _))
                  have r4_ := Kd.R_below R4.out (below_drew (Below.refl wr.heap.size wr))
                  have r5_ := Kd.R_below R5.out (below_drew (Below.refl wr.heap.size wr))
                  have hb_ := below_drew HB.out
                  generalize wr.drew = w20 at c0 c1 f0 kw_ c11_ r4_ r5_ hb_ ⊢
                  clear KW C11 R4 R5 HB
                  have KW := Aside0.mk kw_
                  have C11 := Aside0.mk c11_
                  have R4 := Aside0.mk r4_
                  have R5 := Aside0.mk r5_
                  have HB := Aside0.mk hb_
                  clear kw_ c11_ r4_ r5_ hb_
                  iterate 12 still_step
                  refine wpStill_nil ?_
                  go_wp2
                  go_roundw
                  · (repeat apply Exists.intro)
                    refine ⟨?_, rfl⟩
                    refine ⟨k + 1, by omega, by simp, ⟨?_⟩, ⟨C_far32 C11.out (fun ad h => by cases h; have := hne.out; omega) _⟩, ⟨Kd.R_far R4.out (p := ⟨gh, k, none⟩) (fun _ h => h) _⟩, ⟨Kd.R_far R5.out (p := ⟨gh, k, none⟩) (fun _ h => h) _⟩, ⟨HB.out.setCell Gh.out _⟩⟩
                    exact blk_put KW.out k _ (by first | rw [n32_add_m, aU32_set, hs.out] | rw [n32_add, aU32_set, hs.out])
                  · show 8 - ((k : Int) + 1).toNat < 8 - (k : Int).toNat; omega
                · obtain rfl : k = 8 := by omega
                  go_wp2
                  go_roundw
                  · exact ⟨m + 1, by omega, by have := HAT.out; show Value.int _ _ = Value.int _ _; congr 1; omega, ⟨by rw [hnx.out, HWS.out, ← hmix_8]; exact KW.out⟩, R4, R5, HB⟩
                  · show P.length - ((at_ : Int) + 64).toNat < P.length - (at_ : Int).toNat; omega
    · have hmn : m = nb := by omega
      subst hmn
      have hpl := HPL.out
      have hap : ¬ (at_ : Int) < (P.length : Int) := by omega
      have hbc := Aside0.mk (show Calls Try.prog 124 #[.slice (some ⟨gh, 0, none⟩) 8 8] wr _ by
        have := steleref01_bytes.calls 9 (some ⟨gh, 0, none⟩) 8 (nW (blocks comp256 start256.h m P).l) _ wr (by rw [nW_len, V8_len]; exact C_words _ gh _ _ KH.out (by rw [V8_len]; omega) 8 rfl) (by rw [nW_len, V8_len]; exact Nat.le_refl _) (bytes_eq _ (Nat.le_of_eq (V8_len _)) 9 (by omega))
        rw [nW_len, V8_len] at this
        exact this)
      clear hpl
      go_wp2_with (go_at_call 124; refine hbc.out.mono ?_; rintro e w7 ⟨v7, rfl, ho, hb⟩; have R7 := Aside0.mk ho; have HI := Aside0.mk hb; clear ho hb)
      go_ret
      refine ⟨v7, rfl, ?_, below_step HB.out HI.out⟩
      rw [HSHA.out]
      exact Kd.R_lower R7.out HB.out.size
end Go.Proofs.Ytlnpmodhejakiaa.D
