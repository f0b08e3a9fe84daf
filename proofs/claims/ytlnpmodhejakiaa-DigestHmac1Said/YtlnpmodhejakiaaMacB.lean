/- digest.mac, Hmac256, Hmac1. -/
import Derived.Test.YtlnpmodhejakiaaMacA
import Derived.Test.YtlnpmodhejakiaaDigJ
import Derived.Test.YtlnpmodhejakiaaQCall
namespace Go.Proofs.Ytlnpmodhejakiaa.D
open Go.RowKit Go.Proofs.YtlnpmodhejakiaaW.PrintWords Go.Proofs.YtlnpmodhejakiaaW.PrintLast Go.Proofs.YtlnpmodhejakiaaW.PrintMore Go.Proofs.Ytlnpmodhejakiaa.PA Go.Proofs.Ytlnpmodhejakiaa.Sha
set_option linter.unusedVariables false
set_option linter.unusedSimpArgs false

/-- a key as a block -/
def pad64 (k : List Int) : List Int := k ++ List.replicate (64 - k.length) 0
def mixX (P : List Int) (x : Int) (k : Nat) : List Int := (P.take k).map (fun y => bits .xor .u8 y x) ++ P.drop k
def padX (k : List Int) (x : Int) : List Int := (pad64 k).map (fun y => bits .xor .u8 y x)
theorem pad64_len (k : List Int) (h : k.length ≤ 64) : (pad64 k).length = 64 := by unfold pad64; simp; omega
theorem padX_len (k : List Int) (x : Int) (h : k.length ≤ 64) : (padX k x).length = 64 := by unfold padX; rw [List.length_map, pad64_len k h]
theorem xor8_bd (a b : Int) : 0 ≤ bits .xor .u8 a b ∧ bits .xor .u8 a b ≤ 255 := by
  have h : bits .xor .u8 a b = bits .xor .u8 a b % 256 := by
    unfold bits
    show IntKind.u8.wrap _ = IntKind.u8.wrap _ % 256
    rw [IntKind.wrap_u8]; omega
  omega
theorem padX_bd (k : List Int) (x : Int) : ∀ y ∈ padX k x, 0 ≤ y ∧ y ≤ 255 := by
  intro y hy
  unfold padX at hy
  obtain ⟨z, _, rfl⟩ := List.mem_map.1 hy
  exact xor8_bd z x
theorem mixX_len (P : List Int) (x : Int) (k : Nat) : (mixX P x k).length = P.length := by unfold mixX; simp; omega
theorem mixX_get (P : List Int) (x : Int) (k : Nat) (h : k < P.length) : (mixX P x k).getD k 0 = P.getD k 0 := by
  unfold mixX
  rw [List.getD_eq_getElem?_getD, List.getElem?_append_right (by simp; omega), List.getD_eq_getElem?_getD]
  simp
  rw [Nat.min_eq_left (by omega), Nat.sub_self, Nat.add_zero]
theorem mixX_set (P : List Int) (x : Int) (k : Nat) (h : k < P.length) : (aU8 (mixX P x k)).setIfInBounds k (.int .u8 (bits .xor .u8 (P.getD k 0) x)) = aU8 (mixX P x (k + 1)) := by
  have e : (aU8 (mixX P x k)).setIfInBounds k (.int .u8 (bits .xor .u8 (P.getD k 0) x)) = aU8 ((mixX P x k).set k (bits .xor .u8 (P.getD k 0) x)) := by
    simp [aU8, List.map_set]
  rw [e]
  congr 1
  unfold mixX
  rw [List.set_append_right _ _ (by simp; omega), List.length_map, List.length_take, Nat.min_eq_left (by omega), Nat.sub_self]
  rw [List.drop_eq_getElem_cons h, List.set_cons_zero, List.take_succ_eq_append_getElem h, List.map_append, List.append_assoc]
  simp [List.getD_eq_getElem?_getD, List.getElem?_eq_getElem h]
theorem mixX_0 (P : List Int) (x : Int) : mixX P x 0 = P := by unfold mixX; simp
theorem mixX_all (k : List Int) (x : Int) (h : k.length ≤ 64) : mixX (pad64 k) x 64 = padX k x := by
  unfold mixX padX; rw [List.take_of_length_le (by rw [pad64_len k h]; omega), List.drop_eq_nil_of_le (by rw [pad64_len k h]; omega), List.append_nil]
theorem pad64_bd (k : List Int) (h : ∀ x ∈ k, 0 ≤ x ∧ x ≤ 255) : ∀ x ∈ pad64 k, 0 ≤ x ∧ x ≤ 255 := by
  intro x hx
  unfold pad64 at hx
  rcases List.mem_append.1 hx with hx | hx
  · exact h x hx
  · rw [List.mem_replicate] at hx; omega
theorem pad64_splice (k : List Int) (h : k.length ≤ 64) : (aU8 (List.replicate 64 0)).toList.take 0 ++ ((k.map (Value.int .u8)) ++ (aU8 (List.replicate 64 0)).toList.drop (0 + (k.map (Value.int .u8)).length)) = (aU8 (pad64 k)).toList := by
  unfold aU8 pad64
  simp only [List.toList_toArray, List.take_zero, List.nil_append, Nat.zero_add, List.length_map, List.map_append, List.map_replicate, List.drop_replicate]
def hmacL (sha : List Int → List Int) (key b : List Int) : List Int :=
  let k := if 64 < key.length then sha key else key
  sha (padX k 92 ++ sha (padX k 54 ++ b))
theorem byte_C_cells {w : World} {ad : Addr} {l : List Int} {n : Nat} (hr : Kd.C (Kd.int .u8) w (some ad) n l) : ∀ j v, (l.map (Value.int .u8))[j]? = some v → w.cell? (ad.add j) = some v := by
  intro j v hj
  rw [List.getElem?_map] at hj
  obtain ⟨x, hx, rfl⟩ := Option.map_eq_some_iff.1 hj
  exact byte_cells hr j x hx
section
variable {P : Program} {ops : Array Oper} {rest : List Oper} {o : Oper} {a : Act} {Q : Exit → Act → World → Prop}
/-- copy of a key, nil or not, into a block of zeros -/
theorem copy_key {w : World} (hgd : o.guard = none) (d s : Operand) (dT sT : TypeId)
    (ho : o.op = .call { callee := .builtin .copy, args := #[d, s], argTypes := #[dT, sT] }) (elem : TypeId) (hu : P.underlying dT = some (.slice elem)) (hsz : (P.info? elem).map (·.size) = some 1)
    (g : Nat) (A : Option Addr) (k : List Int) (c : Nat) (hd : a.eval d = .slice (some ⟨g, 0, none⟩) 64 64) (hs : a.eval s = .slice A k.length c) (hk : k.length ≤ 64)
    (t : TypeId) (hg : w.heap[g]? = some (.cells (aU8 (List.replicate 64 0)) t (0, 0))) (hC : Kd.C (Kd.int .u8) w A k.length k)
    (h : ∀ w', w'.heap[g]? = some (.cells (aU8 (pad64 k)) t (0, 0)) → Wr w.heap.size g w w' → wpList P ops Q rest (a.put o.dst (.int .i64 (k.length : Int))) w') : wpList P ops Q (o :: rest) a w := by
  cases A with
  | none =>
    have h0 : k = [] := by
      rcases Nat.eq_zero_or_pos k.length with h | h
      · exact List.length_eq_zero_iff.1 h
      · obtain ⟨ad, e, _⟩ := hC.2.2 h; cases e
    subst h0
    exact wpList_copy_nothing hgd d s dT sT ho elem hu hsz _ _ _ _ _ _ hd hs (Nat.min_eq_left (Nat.zero_le _)) (h w hg (Wr.refl _ _ _))
  | some ad =>
    exact copy_event hgd d s dT sT ho elem hu hsz g 0 64 64 ad _ _ hd hs _ (aU8 (pad64 k)) t hg (k.map (Value.int .u8)) (by rw [List.length_map]; exact (Nat.min_eq_left hk).symm) (byte_C_cells hC)
      (by rw [List.length_map, aU8_size, List.length_replicate]; omega) (by intro u hu; simp only [List.mem_map] at hu; obtain ⟨x, _, rfl⟩ := hu; rfl) (pad64_splice k hk) _ (List.length_map _) h
end
theorem sha256_len' (l : List Int) : (sha256 l).length = 32 := rfl
theorem sha1_len' (l : List Int) : (sha1 l).length = 20 := rfl
theorem by4_bd (x : W) : ∀ y ∈ by4 x, 0 ≤ y ∧ y ≤ 255 := by
  intro y hy
  have := x.isLt
  unfold by4 at hy
  simp only [List.mem_cons, List.not_mem_nil, or_false] at hy
  rcases hy with rfl | rfl | rfl | rfl <;> omega
theorem sumB_bd (comp : V8 → List Int → V8) (s : HS) (n : Nat) : ∀ y ∈ sumB comp s n, 0 ≤ y ∧ y ≤ 255 := by
  intro y hy
  unfold sumB at hy
  obtain ⟨x, _, hx⟩ := List.mem_flatMap.1 hy
  exact by4_bd x y hx
theorem sha256_bd (l : List Int) : ∀ y ∈ sha256 l, 0 ≤ y ∧ y ≤ 255 := sumB_bd _ _ _
theorem sha1_bd (l : List Int) : ∀ y ∈ sha1 l, 0 ≤ y ∧ y ≤ 255 := sumB_bd _ _ _
/-- a literal row of two rows of bytes -/
theorem C_rows2 (w : World) (g : Nat) (A0 : Option Addr) (c0 : Nat) (l0 : List Int) (A1 : Option Addr) (c1 : Nat) (l1 : List Int) (T : TypeId) (hg : w.heap[g]? = some (.cells #[.slice A0 l0.length c0, .slice A1 l1.length c1] T (0, 0))) (h0 : Kd.C (Kd.int .u8) w A0 l0.length l0) (hc0 : l0.length ≤ c0) (h1 : Kd.C (Kd.int .u8) w A1 l1.length l1) (hc1 : l1.length ≤ c1) : Kd.C (Kd.slice 5 (Kd.int .u8)) w (some ⟨g, 0, none⟩) 2 [l0, l1] := by
  refine ⟨rfl, by decide, fun _ => ⟨_, rfl, fun j p hj => ?_⟩⟩
  have hj2 : j < 2 := by have := (List.getElem?_eq_some_iff.1 hj).1; simpa using this
  rcases (show j = 0 ∨ j = 1 by omega) with rfl | rfl
  · obtain rfl : l0 = p := by simpa using hj
    refine ⟨[.slice A0 l0.length c0], rfl, ⟨A0, c0, rfl, hc0, h0⟩, fun i u hu => ?_⟩
    have hi : i = 0 := by have := (List.getElem?_eq_some_iff.1 hu).1; simp at this; omega
    subst hi
    have hu' : u = .slice A0 l0.length c0 := by simpa using hu.symm
    subst hu'
    rw [addr_add, blk_cell hg]
    rfl
  · obtain rfl : l1 = p := by simpa using hj
    refine ⟨[.slice A1 l1.length c1], rfl, ⟨A1, c1, rfl, hc1, h1⟩, fun i u hu => ?_⟩
    have hi : i = 0 := by have := (List.getElem?_eq_some_iff.1 hu).1; simp at this; omega
    subst hi
    have hu' : u = .slice A1 l1.length c1 := by simpa using hu.symm
    subst hu'
    rw [addr_add, blk_cell hg]
    rfl
/-- a block of bytes as a slice -/
theorem C_block (w : World) (g : Nat) (l : List Int) (T : TypeId) (hg : w.heap[g]? = some (.cells (aU8 l) T (0, 0))) (hl : l.length ≤ 100) (n : Nat) (hn : l.length = n) : Kd.C (Kd.int .u8) w (some ⟨g, 0, none⟩) n l := by
  subst hn
  refine ⟨rfl, by omega, fun _ => ⟨_, rfl, fun j p hj => ⟨[.int .u8 p], rfl, rfl, fun i u hu => ?_⟩⟩⟩
  have hi : i = 0 := by have := (List.getElem?_eq_some_iff.1 hu).1; simp at this; omega
  subst hi
  have hu' : u = .int .u8 p := by simpa using hu.symm
  subst hu'
  rw [addr_add, blk_cell hg]
  have hjl := (List.getElem?_eq_some_iff.1 hj).1
  show (aU8 l)[0 + (j * 1 + 0)]? = _
  rw [show 0 + (j * 1 + 0) = j by omega, aU8_get l j hjl, List.getD_eq_getElem?_getD, hj]
  rfl
theorem byte_rd' (bl : List Int) (hb : ∀ x ∈ bl, 0 ≤ x ∧ x ≤ 255) (i : Nat) (h : i < bl.length) : 0 ≤ bl.getD i 0 ∧ bl.getD i 0 ≤ 255 := hb _ (by rw [List.getD_eq_getElem?_getD, List.getElem?_eq_getElem h]; exact List.getElem_mem _)
/-- bytes that lie elsewhere, behind a write of block g -/
theorem C_wr {w w' : World} {A : Option Addr} {l : List Int} {g : Nat} (h : Kd.C (Kd.int .u8) w A l.length l) (hW : Wr w.heap.size g w w') (hg : 0 < l.length → ∀ ad, A = some ad → ad.block ≠ g) : Kd.C (Kd.int .u8) w' A l.length l := by
  refine ⟨h.1, h.2.1, fun h0 => ?_⟩
  obtain ⟨ad, rfl, hc⟩ := h.2.2 h0
  refine ⟨ad, rfl, fun j p hj => ?_⟩
  obtain ⟨c, e1, e2, e3⟩ := hc j p hj
  refine ⟨c, e1, e2, fun i u hu => ?_⟩
  have h1 := e3 i u hu
  have hb : (ad.add (j * (Kd.int .u8).sz + i)).block = ad.block := by unfold Addr.add; split <;> rfl
  have hlt := World.block_lt_of_cell? w _ h1
  exact (World.cell?_of_block (hW.block _ hlt (by rw [hb]; exact hg h0 ad rfl))).trans h1
set_option maxHeartbeats 16000000 in
set_option maxRecDepth 100000 in
theorem mac1_any (A0 : Option Addr) (c0 : Nat) (l0 : List Int) (A1 : Option Addr) (c1 : Nat) (l1 : List Int) (w : World) (hr0 : Kd.C (Kd.int .u8) w A0 l0.length l0) (hc0 : l0.length ≤ c0) (hb0 : okB l0) (hr1 : Kd.C (Kd.int .u8) w A1 l1.length l1) (hc1 : l1.length ≤ c1) (hb1 : okB l1) (hsz : l1.length ≤ 140737488355200) :
    Calls Try.prog 128 #[.func (.func 30) #[] #[], .slice A0 l0.length c0, .slice A1 l1.length c1] w fun e w' => ∃ v0_ : Value, e = .returned v0_ ∧ Kd.R (Kd.int .u8) 5 w' w.heap.size (fun _ => True) v0_ (hmacL sha1 l0 l1) ∧ Below w.heap.size w w' := by
  have HR0 := Aside0.mk hr0
  have HC0 := Aside0.mk hc0
  have HB0 := Aside0.mk hb0
  have HR1 := Aside0.mk hr1
  have HC1 := Aside0.mk hc1
  have HB1 := Aside0.mk hb1
  have HSZ := Aside0.mk hsz
  clear hr0 hc0 hb0 hr1 hc1 hb1 hsz
  have HB := Aside0.mk (Below.refl w.heap.size w)
  have hmac : ∀ k : List Int, (if 64 < l0.length then sha1 l0 else l0) = k → hmacL sha1 l0 l1 = sha1 (padX k 92 ++ sha1 (padX k 54 ++ l1)) := fun k hk => by unfold hmacL; rw [hk]
  have HM := Aside0.mk hmac
  clear hmac
  have z64 : (List.replicate 64 (Value.int .u8 0)).toArray = aU8 (List.replicate 64 0) := by simp [aU8]
  have HZ64 := Aside0.mk z64
  clear z64
  by_cases hbig : 64 < l0.length
  · have hb64 : ((l0.length : Int) > 64) := by omega
    have HM2 := Aside0.mk (HM.out (sha1 l0) (if_pos hbig))
    clear HM hbig
    have hlen := sha1_len' l0
    have hbd := Aside0.mk (sha1_bd l0)
    obtain ⟨kk, hkk⟩ : ∃ k, sha1 l0 = k := ⟨_, rfl⟩
    rw [hkk] at HM2 hlen hbd
    have HKK := Aside0.mk hkk
    clear hkk
    have hk64 : kk.length ≤ 64 := by omega
    clear hlen
    go_enter Try.func128, Try.ntmps128
    go_wp2_with (first
      | (go_at_call 30; refine (digest_Sha1.calls A0 c0 l0 kk _ HR0.out HC0.out (by unfold digest_Sha1.f; rw [if_pos HB0.out, HKK.out])).mono ?_; rintro e wk ⟨vk, rfl, ho, hb⟩; obtain ⟨Ak, ck, rfl, hck, hCk⟩ := Kd.R_reads ho; have HRk := Aside0.mk hCk; have HCk := Aside0.mk hck; have hb_ := Aside0.mk hb; clear HB ho hb hCk hck; have HB := hb_; clear hb_)
      | ((with_reducible refine gate_dst (N := 7) rfl ?_); refine box_event ?hg (N := 7) ?hd (cs := (List.replicate 64 (Value.int .u8 0)).toArray) (t := 135) ?hr ?_; (case hd => rfl); (case hg => rfl); (case hr => first | (go_simp; done) | (go_simp; rfl)); intro g1 hg1 w1 hbox hBl; have G1 := Aside0.mk (show w.heap.size ≤ g1 by have := HB.out.size; omega); have GN1 := Aside0.mk (fun h0 ad h => far_block HRk.out h0 ad h (Nat.le_of_eq hg1.symm)); have K1 := Aside0.mk (by rw [HZ64.out] at hbox; exact hbox); have RK1 := Aside0.mk (Kd.C_below HRk.out hBl); have hb_ := Aside0.mk (below_step HB.out hBl); clear HB HRk hg1 hbox hBl)
      | ((with_reducible refine gate_dst (N := 8) rfl ?_); refine box_event ?hg (N := 8) ?hd (cs := (List.replicate 64 (Value.int .u8 0)).toArray) (t := 135) ?hr ?_; (case hd => rfl); (case hg => rfl); (case hr => first | (go_simp; done) | (go_simp; rfl)); intro g2 hg2 w2 hbox hBl; have hlt := blk_lt K1.out; have NE := Aside0.mk (show g1 ≠ g2 by omega); have G2 := Aside0.mk (show w.heap.size ≤ g2 by have := hb_.out.size; omega); have K2 := Aside0.mk (by rw [HZ64.out] at hbox; exact hbox); have k1_ := Aside0.mk (blk_below K1.out hBl); have RK2 := Aside0.mk (Kd.C_below RK1.out hBl); have HB2 := Aside0.mk (below_step hb_.out hBl); clear K1 RK1 hb_ hg2 hbox hBl hlt; have K1 := k1_; clear k1_)
      | ((with_reducible refine gate_dst (N := 18) rfl ?_); refine copy_key rfl (.tmp 16) (.tmp 17) 22 22 rfl 5 Try.underlying22 info8b g1 Ak kk ck rfl rfl hk64 135 K1.out RK2.out ?_; intro w3 hb3 hW3; have k2_ := Aside0.mk (hW3.blk K2.out (blk_lt K2.out) (Ne.symm NE.out)); have k1_ := Aside0.mk hb3; have HB3 := Aside0.mk (HB2.out.trans ((hW3.lower HB2.out.size).below G1.out)); have WR3 := Aside0.mk hW3; clear K1 K2; have K1 := k1_; have K2 := k2_; clear k1_ k2_ hb3 hW3)
      | ((with_reducible refine gate_dst (N := 21) rfl ?_); refine copy_key rfl (.tmp 19) (.tmp 20) 22 22 rfl 5 Try.underlying22 info8b g2 Ak kk ck rfl rfl hk64 135 K2.out (C_wr RK2.out WR3.out GN1.out) ?_; intro w4 hb4 hW4; have k1_ := Aside0.mk (hW4.blk K1.out (blk_lt K1.out) NE.out); have k2_ := Aside0.mk hb4; have HB4 := Aside0.mk (HB3.out.trans ((hW4.lower HB3.out.size).below G2.out)); clear K1 K2 WR3 HB2 HB3 RK2; have K1 := k1_; have K2 := k2_; clear k1_ k2_ hb4 hW4))
    have HP := Aside0.mk (pad64_len kk hk64)
    have HPB := Aside0.mk (pad64_bd kk hbd.out)
    go_loopw [22] (fun v22 wr => ∃ k : Nat, k ≤ 64 ∧ v22 = .int .i64 (k : Int) ∧ Aside0 (wr.heap[g1]? = some (.cells (aU8 (mixX (pad64 kk) 54 k)) 135 (0, 0))) ∧ Aside0 (wr.heap[g2]? = some (.cells (aU8 (mixX (pad64 kk) 92 k)) 135 (0, 0))) ∧ Aside0 (Below w.heap.size w wr)) (fun v22 _ => 64 - (intOf v22).toNat)
    case atStart => exact ⟨0, Nat.zero_le _, rfl, ⟨by rw [mixX_0]; exact K1.out⟩, ⟨by rw [mixX_0]; exact K2.out⟩, HB4⟩
    case round =>
      clear K1 K2 HB4
      obtain ⟨k, hk, rfl, K1, K2, HBr⟩ := hrel
      by_cases hlt : k < 64
      · have d1 := (blk_cell K1.out k).trans (aU8_get _ k (by rw [mixX_len, HP.out]; exact hlt))
        have d2 := (blk_cell K2.out k).trans (aU8_get _ k (by rw [mixX_len, HP.out]; exact hlt))
        have f1 := blk_frozen K1.out k
        have f2 := blk_frozen K2.out k
        rw [mixX_get _ _ _ (by rw [HP.out]; exact hlt)] at d1 d2
        have s1 := Aside0.mk (mixX_set (pad64 kk) 54 k (by rw [HP.out]; exact hlt))
        have s2 := Aside0.mk (mixX_set (pad64 kk) 92 k (by rw [HP.out]; exact hlt))
        have hy := byte_rd' _ HPB.out k (by rw [HP.out]; exact hlt)
        obtain ⟨y, hye⟩ : ∃ y, (pad64 kk).getD k 0 = y := ⟨_, rfl⟩
        rw [hye] at d1 d2 s1 s2 hy
        clear hye
        obtain ⟨hy0, hy1⟩ := hy
        have n12 := NE.out
        have n21 := Ne.symm NE.out
        have b1_ := blk_put K1.out k (.int .u8 (bits .xor .u8 y 54)) s1.out
        have b2_ := blk_put (blk_far K2.out (p := ⟨g1, k, none⟩) n21 (.int .u8 (bits .xor .u8 y 54))) k (.int .u8 (bits .xor .u8 y 92)) s2.out
        have B1 := Aside0.mk (blk_far b1_ (p := ⟨g2, k, none⟩) n12 (.int .u8 (bits .xor .u8 y 92)))
        have B2 := Aside0.mk b2_
        have HBn := Aside0.mk ((HBr.out.setCell (p := ⟨g1, k, none⟩) G1.out (.int .u8 (bits .xor .u8 y 54))).setCell (p := ⟨g2, k, none⟩) G2.out (.int .u8 (bits .xor .u8 y 92)))
        clear b1_ b2_ K1 K2 HBr s1 s2
        have hlti : (k : Int) < 64 := by omega
        go_wp2
        go_roundw
        case rel => exact ⟨k + 1, by omega, by go_num, B1, B2, HBn⟩
        case measure => simp [intOf]; omega
      · obtain rfl : k = 64 := by omega
        rw [mixX_all kk _ hk64] at K1 K2
        go_wp2
        refine start_ (n := 12) (S := fun w' => True ∧ True) (ds := [5, 6, 7, 8, 9, 10, 11]) #[false, false, false, false, false, false, false, false, false, false, false, false] (by kernel_rfl) rfl rfl ⟨trivial, trivial⟩ (fun hHeld => ?_)
        have HBd : Below w.heap.size w wr.drew := below_drew HBr.out
        have k1_ : (wr.drew).heap[g1]? = _ := K1.out
        have k2_ : (wr.drew).heap[g2]? = _ := K2.out
        generalize wr.drew = wd at HBd k1_ k2_ hHeld ⊢
        clear K1 K2 HBr
        have K1 := Aside0.mk k1_
        have K2 := Aside0.mk k2_
        have HBd := Aside0.mk HBd
        clear k1_ k2_
        refine pure_ (i := 0) (N := some 36) (v := ?_) (a' := ?_) #[true, false, false, false, false, false, false, false, false, false, false, false] rfl rfl (by kernel_rfl) (fun _ _ _ h => h) (Or.inl ⟨by rfl, ?_⟩) ?_ ?_
        rotate_left
        · intro w'
          go_simp
          with_reducible rfl
        rotate_left
        · simp only [Act.put, List.setIfInBounds_toArray, List.set_cons_zero, List.set_cons_succ, i64_w, i32_w]
          rfl
        refine pure_ (i := 1) (N := some 37) (v := ?_) (a' := ?_) #[true, true, false, false, false, false, false, false, false, false, false, false] rfl rfl (by kernel_rfl) (fun _ _ _ h => h) (Or.inl ⟨by rfl, ?_⟩) ?_ ?_
        rotate_left
        · intro w'
          go_simp
          with_reducible rfl
        rotate_left
        · simp only [Act.put, List.setIfInBounds_toArray, List.set_cons_zero, List.set_cons_succ, i64_w, i32_w]
          rfl
        refine pure_ (i := 2) (N := some 38) (v := ?_) (a' := ?_) #[true, true, true, false, false, false, false, false, false, false, false, false] rfl rfl (by kernel_rfl) (fun _ _ _ h => h) (Or.inl ⟨by rfl, ?_⟩) ?_ ?_
        rotate_left
        · intro w'
          go_simp
          with_reducible rfl
        rotate_left
        · simp only [Act.put, List.setIfInBounds_toArray, List.set_cons_zero, List.set_cons_succ, i64_w, i32_w]
          rfl
        refine pure_ (i := 3) (N := some 39) (v := ?_) (a' := ?_) #[true, true, true, true, false, false, false, false, false, false, false, false] rfl rfl (by kernel_rfl) (fun _ _ _ h => h) (Or.inl ⟨by rfl, ?_⟩) ?_ ?_
        rotate_left
        · intro w'
          go_simp
          with_reducible rfl
        rotate_left
        · simp only [Act.put, List.setIfInBounds_toArray, List.set_cons_zero, List.set_cons_succ, i64_w, i32_w]
          rfl
        refine pure_ (i := 4) (N := some 40) (v := ?_) (a' := ?_) #[true, true, true, true, true, false, false, false, false, false, false, false] rfl rfl (by kernel_rfl) (fun _ _ _ h => h) (Or.inl ⟨by rfl, ?_⟩) ?_ ?_
        rotate_left
        · intro w'
          go_simp
          with_reducible rfl
        rotate_left
        · simp only [Act.put, List.setIfInBounds_toArray, List.set_cons_zero, List.set_cons_succ, i64_w, i32_w]
          rfl
        refine last_ (i := 5) (N := some 41) #[true, true, true, true, true, true, false, false, false, false, false, false] rfl rfl (by kernel_rfl) (by decide) (fun K hK => ?_)
        refine value_ (w1 := wd.alloc (.cells #[.slice (some ⟨g1, 0, none⟩) 64 64, .slice A1 l1.length c1] 22)) (v := .slice (some ⟨wd.heap.size, 0, none⟩) 2 2) (by rfl) rfl ?_ ?_
        · go_simp
          try rfl
        refine hK.out _ _ ?_
        clear hK K
        refine norm_ (a' := ?_) ?_ ?_
        rotate_left
        · show Act.put _ (some 41) _ = _
          simp only [Act.put, List.setIfInBounds_toArray, List.set_cons_zero, List.set_cons_succ, i64_w, i32_w]
          rfl
        have hl_ := blk_new wd (.cells #[.slice (some ⟨g1, 0, none⟩) 64 64, .slice A1 l1.length c1] 22)
        have hbl_ : Below wd.heap.size wd (wd.alloc (.cells #[.slice (some ⟨g1, 0, none⟩) 64 64, .slice A1 l1.length c1] 22)) := below_alloc (Below.refl _ _) _
        obtain ⟨gl, hgl⟩ : ∃ g, wd.heap.size = g := ⟨_, rfl⟩
        rw [hgl] at hl_ ⊢
        have k1_ := blk_below K1.out hbl_
        have k2_ := blk_below K2.out hbl_
        have hb_ := below_step HBd.out hbl_
        have r1_ := Kd.C_below (Kd.C_below HR1.out HBd.out) hbl_
        generalize wd.alloc (.cells #[.slice (some ⟨g1, 0, none⟩) 64 64, .slice A1 l1.length c1] 22) = we at hl_ k1_ k2_ hb_ r1_ ⊢
        have KL := Aside0.mk (C_rows2 we gl (some ⟨g1, 0, none⟩) 64 (padX kk 54) A1 c1 l1 _ (by rw [padX_len kk 54 hk64]; exact hl_) (C_block we g1 _ _ k1_ (by rw [padX_len kk 54 hk64]; omega) _ rfl) (by rw [padX_len kk 54 hk64]; omega) r1_ HC1.out)
        have K1 := Aside0.mk k1_
        have K2 := Aside0.mk k2_
        have HBe := Aside0.mk hb_
        clear hl_ hbl_ k1_ k2_ hb_ r1_ hgl HBd
        refine last_ (i := 6) (N := some 42) #[true, true, true, true, true, true, true, false, false, false, false, false] rfl rfl (by kernel_rfl) (by decide) (fun K hK => ?_)
        have he_ := fun w => enters_ (P := Try.prog) Try.func180 (by kernel_rfl) rfl #[.slice (some ⟨gl, 0, none⟩) 2 2] w
        refine call_ 180 #[.slice (some ⟨gl, 0, none⟩) 2 2] (by rfl) rfl ?_ ?_
        · unfold execOp
          simp [resolve, Deferred.ofValue, invoke, Act.eval, he_]
        clear he_
        refine (slices_Concat.calls (some ⟨gl, 0, none⟩) 2 [padX kk 54, l1] (padX kk 54 ++ l1) we KL.out (Nat.le_refl _) (by simp) (by unfold slices_Concat.f sumLen; rw [if_pos (by simp [padX_len kk 54 hk64]; have := HSZ.out; omega)]; simp)).mono ?_
        rintro e wf ⟨vf, rfl, ho, hb⟩
        have HBf := Aside0.mk (below_step HBe.out hb)
        have k2_ := Aside0.mk (blk_below K2.out hb)
        obtain ⟨Af, cf, rfl, hcf, hCf⟩ := Kd.R_reads ho
        have RF := Aside0.mk hCf
        have CF := Aside0.mk hcf
        clear ho hb KL K1 K2 HBe hCf hcf
        have K2 := k2_
        clear k2_
        refine ⟨_, rfl, hK.out _ _ ?_⟩
        clear hK K
        refine norm_ (a' := ?_) ?_ ?_
        rotate_left
        · show Act.put _ (some 42) _ = _
          simp only [Act.put, List.setIfInBounds_toArray, List.set_cons_zero, List.set_cons_succ, i64_w, i32_w]
          rfl
        refine last_ (i := 7) (N := some 43) #[true, true, true, true, true, true, true, true, false, false, false, false] rfl rfl (by kernel_rfl) (by decide) (fun K hK => ?_)
        have he_ := fun w => enters_ (P := Try.prog) Try.func30 (by kernel_rfl) rfl #[.slice Af (padX kk 54 ++ l1).length cf] w
        refine call_ 30 #[.slice Af (padX kk 54 ++ l1).length cf] (by rfl) rfl ?_ ?_
        · unfold execOp
          simp [resolve, Deferred.ofValue, invoke, Act.eval, he_]
        clear he_
        refine (digest_Sha1.calls Af cf (padX kk 54 ++ l1) (sha1 (padX kk 54 ++ l1)) wf RF.out CF.out (by unfold digest_Sha1.f; rw [if_pos (show okB (padX kk 54 ++ l1) from ⟨by simp only [List.length_append, padX_len kk 54 hk64]; have := HSZ.out; omega, fun x hx => by rcases List.mem_append.1 hx with hx | hx; exact padX_bd _ _ x hx; exact HB1.out.2 x hx⟩)])).mono ?_
        rintro e wg ⟨vg, rfl, ho, hb⟩
        have HBg := Aside0.mk (below_step HBf.out hb)
        have k2_ := Aside0.mk (blk_below K2.out hb)
        have hS := Aside0.mk (sha1_len' (padX kk 54 ++ l1))
        have hSB := Aside0.mk (sha1_bd (padX kk 54 ++ l1))
        obtain ⟨SH, hSH⟩ : ∃ X, sha1 (padX kk 54 ++ l1) = X := ⟨_, rfl⟩
        rw [hSH] at ho hS hSB HM2
        obtain ⟨Ag, cg, rfl, hcg, hCg⟩ := Kd.R_reads ho
        have RG := Aside0.mk hCg
        have CG := Aside0.mk hcg
        clear ho hb RF CF K2 HBf hCg hcg hSH
        have K2 := k2_
        clear k2_
        refine ⟨_, rfl, hK.out _ _ ?_⟩
        clear hK K
        refine norm_ (a' := ?_) ?_ ?_
        rotate_left
        · show Act.put _ (some 43) _ = _
          simp only [Act.put, List.setIfInBounds_toArray, List.set_cons_zero, List.set_cons_succ, i64_w, i32_w]
          rfl
        refine last_ (i := 8) (N := some 44) #[true, true, true, true, true, true, true, true, true, false, false, false] rfl rfl (by kernel_rfl) (by decide) (fun K hK => ?_)
        refine value_ (w1 := wg.alloc (.cells #[.slice (some ⟨g2, 0, none⟩) 64 64, .slice Ag SH.length cg] 22)) (v := .slice (some ⟨wg.heap.size, 0, none⟩) 2 2) (by rfl) rfl ?_ ?_
        · go_simp
          try rfl
        refine hK.out _ _ ?_
        clear hK K
        refine norm_ (a' := ?_) ?_ ?_
        rotate_left
        · show Act.put _ (some 44) _ = _
          simp only [Act.put, List.setIfInBounds_toArray, List.set_cons_zero, List.set_cons_succ, i64_w, i32_w]
          rfl
        have hl_ := blk_new wg (.cells #[.slice (some ⟨g2, 0, none⟩) 64 64, .slice Ag SH.length cg] 22)
        have hbl_ : Below wg.heap.size wg (wg.alloc (.cells #[.slice (some ⟨g2, 0, none⟩) 64 64, .slice Ag SH.length cg] 22)) := below_alloc (Below.refl _ _) _
        obtain ⟨gm, hgm⟩ : ∃ g, wg.heap.size = g := ⟨_, rfl⟩
        rw [hgm] at hl_ ⊢
        have k2_ := blk_below K2.out hbl_
        have hb_ := below_step HBg.out hbl_
        have r1_ := Kd.C_below RG.out hbl_
        generalize wg.alloc (.cells #[.slice (some ⟨g2, 0, none⟩) 64 64, .slice Ag SH.length cg] 22) = wh at hl_ k2_ hb_ r1_ ⊢
        have KL := Aside0.mk (C_rows2 wh gm (some ⟨g2, 0, none⟩) 64 (padX kk 92) Ag cg SH _ (by rw [padX_len kk 92 hk64]; exact hl_) (C_block wh g2 _ _ k2_ (by rw [padX_len kk 92 hk64]; omega) _ rfl) (by rw [padX_len kk 92 hk64]; omega) r1_ CG.out)
        have HBh := Aside0.mk hb_
        clear hl_ hbl_ k2_ hb_ r1_ hgm HBg K2 RG CG
        refine last_ (i := 9) (N := some 45) #[true, true, true, true, true, true, true, true, true, true, false, false] rfl rfl (by kernel_rfl) (by decide) (fun K hK => ?_)
        have he_ := fun w => enters_ (P := Try.prog) Try.func180 (by kernel_rfl) rfl #[.slice (some ⟨gm, 0, none⟩) 2 2] w
        refine call_ 180 #[.slice (some ⟨gm, 0, none⟩) 2 2] (by rfl) rfl ?_ ?_
        · unfold execOp
          simp [resolve, Deferred.ofValue, invoke, Act.eval, he_]
        clear he_
        refine (slices_Concat.calls (some ⟨gm, 0, none⟩) 2 [padX kk 92, SH] (padX kk 92 ++ SH) wh KL.out (Nat.le_refl _) (by simp) (by unfold slices_Concat.f sumLen; rw [if_pos (by simp [padX_len kk 92 hk64, hS.out])]; simp)).mono ?_
        rintro e wi ⟨vi, rfl, ho, hb⟩
        have HBi := Aside0.mk (below_step HBh.out hb)
        obtain ⟨Ai, ci, rfl, hci, hCi⟩ := Kd.R_reads ho
        have RI := Aside0.mk hCi
        have CI := Aside0.mk hci
        clear ho hb KL HBh hCi hci
        refine ⟨_, rfl, hK.out _ _ ?_⟩
        clear hK K
        refine norm_ (a' := ?_) ?_ ?_
        rotate_left
        · show Act.put _ (some 45) _ = _
          simp only [Act.put, List.setIfInBounds_toArray, List.set_cons_zero, List.set_cons_succ, i64_w, i32_w]
          rfl
        refine last_ (i := 10) (N := some 46) #[true, true, true, true, true, true, true, true, true, true, true, false] rfl rfl (by kernel_rfl) (by decide) (fun K hK => ?_)
        have he_ := fun w => enters_ (P := Try.prog) Try.func30 (by kernel_rfl) rfl #[.slice Ai (padX kk 92 ++ SH).length ci] w
        refine call_ 30 #[.slice Ai (padX kk 92 ++ SH).length ci] (by rfl) rfl ?_ ?_
        · unfold execOp
          simp [resolve, Deferred.ofValue, invoke, Act.eval, he_]
        clear he_
        refine (digest_Sha1.calls Ai ci (padX kk 92 ++ SH) (sha1 (padX kk 92 ++ SH)) wi RI.out CI.out (by unfold digest_Sha1.f; rw [if_pos (show okB (padX kk 92 ++ SH) from ⟨by simp only [List.length_append, padX_len kk 92 hk64, hS.out]; omega, fun x hx => by rcases List.mem_append.1 hx with hx | hx; exact padX_bd _ _ x hx; exact hSB.out x hx⟩ )])).mono ?_
        rintro e wj ⟨vj, rfl, ho, hb⟩
        have HBj := Aside0.mk (below_step HBi.out hb)
        have RJ := Aside0.mk (Kd.R_lower ho HBi.out.size)
        rw [← HM2.out] at RJ
        clear ho hb RI CI HBi
        refine ⟨_, rfl, hK.out _ _ ?_⟩
        clear hK K
        refine norm_ (a' := ?_) ?_ ?_
        rotate_left
        · show Act.put _ (some 46) _ = _
          simp only [Act.put, List.setIfInBounds_toArray, List.set_cons_zero, List.set_cons_succ, i64_w, i32_w]
          rfl
        refine last_ (i := 11) (N := some 6) #[true, true, true, true, true, true, true, true, true, true, true, true] rfl rfl (by kernel_rfl) (by decide) (fun K hK => ?_)
        refine value_ (w1 := ?_) (v := ?_) (by rfl) rfl ?_ ?_
        rotate_left 2
        · go_simp
          constructor
          · rfl
          · rfl
        refine hK.out _ _ ?_
        clear hK K
        refine norm_ (a' := ?_) ?_ ?_
        rotate_left
        · show Act.put _ (some 6) _ = _
          simp only [Act.put, List.setIfInBounds_toArray, List.set_cons_zero, List.set_cons_succ, i64_w, i32_w]
          rfl
        refine done_ (by kernel_rfl) ?_
        go_wp2
        go_ret
        exact ⟨_, rfl, RJ.out, HBj.out⟩

  · have hb64 : ¬ ((l0.length : Int) > 64) := by omega
    have HM2 := Aside0.mk (HM.out l0 (if_neg hbig))
    have hbd := Aside0.mk HB0.out.2
    have hk64 : l0.length ≤ 64 := by omega
    have HRk := HR0
    have HCk := HC0
    clear HM hbig
    go_enter Try.func128, Try.ntmps128
    go_wp2_with (first
      | ((with_reducible refine gate_dst (N := 7) rfl ?_); refine box_event ?hg (N := 7) ?hd (cs := (List.replicate 64 (Value.int .u8 0)).toArray) (t := 135) ?hr ?_; (case hd => rfl); (case hg => rfl); (case hr => first | (go_simp; done) | (go_simp; rfl)); intro g1 hg1 w1 hbox hBl; have G1 := Aside0.mk (show w.heap.size ≤ g1 by have := HB.out.size; omega); have GN1 := Aside0.mk (fun h0 ad h => far_block HRk.out h0 ad h (Nat.le_of_eq hg1.symm)); have K1 := Aside0.mk (by rw [HZ64.out] at hbox; exact hbox); have RK1 := Aside0.mk (Kd.C_below HRk.out hBl); have hb_ := Aside0.mk (below_step HB.out hBl); clear HB HRk hg1 hbox hBl)
      | ((with_reducible refine gate_dst (N := 8) rfl ?_); refine box_event ?hg (N := 8) ?hd (cs := (List.replicate 64 (Value.int .u8 0)).toArray) (t := 135) ?hr ?_; (case hd => rfl); (case hg => rfl); (case hr => first | (go_simp; done) | (go_simp; rfl)); intro g2 hg2 w2 hbox hBl; have hlt := blk_lt K1.out; have NE := Aside0.mk (show g1 ≠ g2 by omega); have G2 := Aside0.mk (show w.heap.size ≤ g2 by have := hb_.out.size; omega); have K2 := Aside0.mk (by rw [HZ64.out] at hbox; exact hbox); have k1_ := Aside0.mk (blk_below K1.out hBl); have RK2 := Aside0.mk (Kd.C_below RK1.out hBl); have HB2 := Aside0.mk (below_step hb_.out hBl); clear K1 RK1 hb_ hg2 hbox hBl hlt; have K1 := k1_; clear k1_)
      | ((with_reducible refine gate_dst (N := 18) rfl ?_); refine copy_key rfl (.tmp 16) (.tmp 17) 22 22 rfl 5 Try.underlying22 info8b g1 A0 l0 c0 rfl rfl hk64 135 K1.out RK2.out ?_; intro w3 hb3 hW3; have k2_ := Aside0.mk (hW3.blk K2.out (blk_lt K2.out) (Ne.symm NE.out)); have k1_ := Aside0.mk hb3; have HB3 := Aside0.mk (HB2.out.trans ((hW3.lower HB2.out.size).below G1.out)); have WR3 := Aside0.mk hW3; clear K1 K2; have K1 := k1_; have K2 := k2_; clear k1_ k2_ hb3 hW3)
      | ((with_reducible refine gate_dst (N := 21) rfl ?_); refine copy_key rfl (.tmp 19) (.tmp 20) 22 22 rfl 5 Try.underlying22 info8b g2 A0 l0 c0 rfl rfl hk64 135 K2.out (C_wr RK2.out WR3.out GN1.out) ?_; intro w4 hb4 hW4; have k1_ := Aside0.mk (hW4.blk K1.out (blk_lt K1.out) NE.out); have k2_ := Aside0.mk hb4; have HB4 := Aside0.mk (HB3.out.trans ((hW4.lower HB3.out.size).below G2.out)); clear K1 K2 WR3 HB2 HB3 RK2; have K1 := k1_; have K2 := k2_; clear k1_ k2_ hb4 hW4))
    have HP := Aside0.mk (pad64_len l0 hk64)
    have HPB := Aside0.mk (pad64_bd l0 hbd.out)
    go_loopw [22] (fun v22 wr => ∃ k : Nat, k ≤ 64 ∧ v22 = .int .i64 (k : Int) ∧ Aside0 (wr.heap[g1]? = some (.cells (aU8 (mixX (pad64 l0) 54 k)) 135 (0, 0))) ∧ Aside0 (wr.heap[g2]? = some (.cells (aU8 (mixX (pad64 l0) 92 k)) 135 (0, 0))) ∧ Aside0 (Below w.heap.size w wr)) (fun v22 _ => 64 - (intOf v22).toNat)
    case atStart => exact ⟨0, Nat.zero_le _, rfl, ⟨by rw [mixX_0]; exact K1.out⟩, ⟨by rw [mixX_0]; exact K2.out⟩, HB4⟩
    case round =>
      clear K1 K2 HB4
      obtain ⟨k, hk, rfl, K1, K2, HBr⟩ := hrel
      by_cases hlt : k < 64
      · have d1 := (blk_cell K1.out k).trans (aU8_get _ k (by rw [mixX_len, HP.out]; exact hlt))
        have d2 := (blk_cell K2.out k).trans (aU8_get _ k (by rw [mixX_len, HP.out]; exact hlt))
        have f1 := blk_frozen K1.out k
        have f2 := blk_frozen K2.out k
        rw [mixX_get _ _ _ (by rw [HP.out]; exact hlt)] at d1 d2
        have s1 := Aside0.mk (mixX_set (pad64 l0) 54 k (by rw [HP.out]; exact hlt))
        have s2 := Aside0.mk (mixX_set (pad64 l0) 92 k (by rw [HP.out]; exact hlt))
        have hy := byte_rd' _ HPB.out k (by rw [HP.out]; exact hlt)
        obtain ⟨y, hye⟩ : ∃ y, (pad64 l0).getD k 0 = y := ⟨_, rfl⟩
        rw [hye] at d1 d2 s1 s2 hy
        clear hye
        obtain ⟨hy0, hy1⟩ := hy
        have n12 := NE.out
        have n21 := Ne.symm NE.out
        have b1_ := blk_put K1.out k (.int .u8 (bits .xor .u8 y 54)) s1.out
        have b2_ := blk_put (blk_far K2.out (p := ⟨g1, k, none⟩) n21 (.int .u8 (bits .xor .u8 y 54))) k (.int .u8 (bits .xor .u8 y 92)) s2.out
        have B1 := Aside0.mk (blk_far b1_ (p := ⟨g2, k, none⟩) n12 (.int .u8 (bits .xor .u8 y 92)))
        have B2 := Aside0.mk b2_
        have HBn := Aside0.mk ((HBr.out.setCell (p := ⟨g1, k, none⟩) G1.out (.int .u8 (bits .xor .u8 y 54))).setCell (p := ⟨g2, k, none⟩) G2.out (.int .u8 (bits .xor .u8 y 92)))
        clear b1_ b2_ K1 K2 HBr s1 s2
        have hlti : (k : Int) < 64 := by omega
        go_wp2
        go_roundw
        case rel => exact ⟨k + 1, by omega, by go_num, B1, B2, HBn⟩
        case measure => simp [intOf]; omega
      · obtain rfl : k = 64 := by omega
        rw [mixX_all l0 _ hk64] at K1 K2
        go_wp2
        refine start_ (n := 12) (S := fun w' => True ∧ True) (ds := [5, 6, 7, 8, 9, 10, 11]) #[false, false, false, false, false, false, false, false, false, false, false, false] (by kernel_rfl) rfl rfl ⟨trivial, trivial⟩ (fun hHeld => ?_)
        have HBd : Below w.heap.size w wr.drew := below_drew HBr.out
        have k1_ : (wr.drew).heap[g1]? = _ := K1.out
        have k2_ : (wr.drew).heap[g2]? = _ := K2.out
        generalize wr.drew = wd at HBd k1_ k2_ hHeld ⊢
        clear K1 K2 HBr
        have K1 := Aside0.mk k1_
        have K2 := Aside0.mk k2_
        have HBd := Aside0.mk HBd
        clear k1_ k2_
        refine pure_ (i := 0) (N := some 36) (v := ?_) (a' := ?_) #[true, false, false, false, false, false, false, false, false, false, false, false] rfl rfl (by kernel_rfl) (fun _ _ _ h => h) (Or.inl ⟨by rfl, ?_⟩) ?_ ?_
        rotate_left
        · intro w'
          go_simp
          with_reducible rfl
        rotate_left
        · simp only [Act.put, List.setIfInBounds_toArray, List.set_cons_zero, List.set_cons_succ, i64_w, i32_w]
          rfl
        refine pure_ (i := 1) (N := some 37) (v := ?_) (a' := ?_) #[true, true, false, false, false, false, false, false, false, false, false, false] rfl rfl (by kernel_rfl) (fun _ _ _ h => h) (Or.inl ⟨by rfl, ?_⟩) ?_ ?_
        rotate_left
        · intro w'
          go_simp
          with_reducible rfl
        rotate_left
        · simp only [Act.put, List.setIfInBounds_toArray, List.set_cons_zero, List.set_cons_succ, i64_w, i32_w]
          rfl
        refine pure_ (i := 2) (N := some 38) (v := ?_) (a' := ?_) #[true, true, true, false, false, false, false, false, false, false, false, false] rfl rfl (by kernel_rfl) (fun _ _ _ h => h) (Or.inl ⟨by rfl, ?_⟩) ?_ ?_
        rotate_left
        · intro w'
          go_simp
          with_reducible rfl
        rotate_left
        · simp only [Act.put, List.setIfInBounds_toArray, List.set_cons_zero, List.set_cons_succ, i64_w, i32_w]
          rfl
        refine pure_ (i := 3) (N := some 39) (v := ?_) (a' := ?_) #[true, true, true, true, false, false, false, false, false, false, false, false] rfl rfl (by kernel_rfl) (fun _ _ _ h => h) (Or.inl ⟨by rfl, ?_⟩) ?_ ?_
        rotate_left
        · intro w'
          go_simp
          with_reducible rfl
        rotate_left
        · simp only [Act.put, List.setIfInBounds_toArray, List.set_cons_zero, List.set_cons_succ, i64_w, i32_w]
          rfl
        refine pure_ (i := 4) (N := some 40) (v := ?_) (a' := ?_) #[true, true, true, true, true, false, false, false, false, false, false, false] rfl rfl (by kernel_rfl) (fun _ _ _ h => h) (Or.inl ⟨by rfl, ?_⟩) ?_ ?_
        rotate_left
        · intro w'
          go_simp
          with_reducible rfl
        rotate_left
        · simp only [Act.put, List.setIfInBounds_toArray, List.set_cons_zero, List.set_cons_succ, i64_w, i32_w]
          rfl
        refine last_ (i := 5) (N := some 41) #[true, true, true, true, true, true, false, false, false, false, false, false] rfl rfl (by kernel_rfl) (by decide) (fun K hK => ?_)
        refine value_ (w1 := wd.alloc (.cells #[.slice (some ⟨g1, 0, none⟩) 64 64, .slice A1 l1.length c1] 22)) (v := .slice (some ⟨wd.heap.size, 0, none⟩) 2 2) (by rfl) rfl ?_ ?_
        · go_simp
          try rfl
        refine hK.out _ _ ?_
        clear hK K
        refine norm_ (a' := ?_) ?_ ?_
        rotate_left
        · show Act.put _ (some 41) _ = _
          simp only [Act.put, List.setIfInBounds_toArray, List.set_cons_zero, List.set_cons_succ, i64_w, i32_w]
          rfl
        have hl_ := blk_new wd (.cells #[.slice (some ⟨g1, 0, none⟩) 64 64, .slice A1 l1.length c1] 22)
        have hbl_ : Below wd.heap.size wd (wd.alloc (.cells #[.slice (some ⟨g1, 0, none⟩) 64 64, .slice A1 l1.length c1] 22)) := below_alloc (Below.refl _ _) _
        obtain ⟨gl, hgl⟩ : ∃ g, wd.heap.size = g := ⟨_, rfl⟩
        rw [hgl] at hl_ ⊢
        have k1_ := blk_below K1.out hbl_
        have k2_ := blk_below K2.out hbl_
        have hb_ := below_step HBd.out hbl_
        have r1_ := Kd.C_below (Kd.C_below HR1.out HBd.out) hbl_
        generalize wd.alloc (.cells #[.slice (some ⟨g1, 0, none⟩) 64 64, .slice A1 l1.length c1] 22) = we at hl_ k1_ k2_ hb_ r1_ ⊢
        have KL := Aside0.mk (C_rows2 we gl (some ⟨g1, 0, none⟩) 64 (padX l0 54) A1 c1 l1 _ (by rw [padX_len l0 54 hk64]; exact hl_) (C_block we g1 _ _ k1_ (by rw [padX_len l0 54 hk64]; omega) _ rfl) (by rw [padX_len l0 54 hk64]; omega) r1_ HC1.out)
        have K1 := Aside0.mk k1_
        have K2 := Aside0.mk k2_
        have HBe := Aside0.mk hb_
        clear hl_ hbl_ k1_ k2_ hb_ r1_ hgl HBd
        refine last_ (i := 6) (N := some 42) #[true, true, true, true, true, true, true, false, false, false, false, false] rfl rfl (by kernel_rfl) (by decide) (fun K hK => ?_)
        have he_ := fun w => enters_ (P := Try.prog) Try.func180 (by kernel_rfl) rfl #[.slice (some ⟨gl, 0, none⟩) 2 2] w
        refine call_ 180 #[.slice (some ⟨gl, 0, none⟩) 2 2] (by rfl) rfl ?_ ?_
        · unfold execOp
          simp [resolve, Deferred.ofValue, invoke, Act.eval, he_]
        clear he_
        refine (slices_Concat.calls (some ⟨gl, 0, none⟩) 2 [padX l0 54, l1] (padX l0 54 ++ l1) we KL.out (Nat.le_refl _) (by simp) (by unfold slices_Concat.f sumLen; rw [if_pos (by simp [padX_len l0 54 hk64]; have := HSZ.out; omega)]; simp)).mono ?_
        rintro e wf ⟨vf, rfl, ho, hb⟩
        have HBf := Aside0.mk (below_step HBe.out hb)
        have k2_ := Aside0.mk (blk_below K2.out hb)
        obtain ⟨Af, cf, rfl, hcf, hCf⟩ := Kd.R_reads ho
        have RF := Aside0.mk hCf
        have CF := Aside0.mk hcf
        clear ho hb KL K1 K2 HBe hCf hcf
        have K2 := k2_
        clear k2_
        refine ⟨_, rfl, hK.out _ _ ?_⟩
        clear hK K
        refine norm_ (a' := ?_) ?_ ?_
        rotate_left
        · show Act.put _ (some 42) _ = _
          simp only [Act.put, List.setIfInBounds_toArray, List.set_cons_zero, List.set_cons_succ, i64_w, i32_w]
          rfl
        refine last_ (i := 7) (N := some 43) #[true, true, true, true, true, true, true, true, false, false, false, false] rfl rfl (by kernel_rfl) (by decide) (fun K hK => ?_)
        have he_ := fun w => enters_ (P := Try.prog) Try.func30 (by kernel_rfl) rfl #[.slice Af (padX l0 54 ++ l1).length cf] w
        refine call_ 30 #[.slice Af (padX l0 54 ++ l1).length cf] (by rfl) rfl ?_ ?_
        · unfold execOp
          simp [resolve, Deferred.ofValue, invoke, Act.eval, he_]
        clear he_
        refine (digest_Sha1.calls Af cf (padX l0 54 ++ l1) (sha1 (padX l0 54 ++ l1)) wf RF.out CF.out (by unfold digest_Sha1.f; rw [if_pos (show okB (padX l0 54 ++ l1) from ⟨by simp only [List.length_append, padX_len l0 54 hk64]; have := HSZ.out; omega, fun x hx => by rcases List.mem_append.1 hx with hx | hx; exact padX_bd _ _ x hx; exact HB1.out.2 x hx⟩)])).mono ?_
        rintro e wg ⟨vg, rfl, ho, hb⟩
        have HBg := Aside0.mk (below_step HBf.out hb)
        have k2_ := Aside0.mk (blk_below K2.out hb)
        have hS := Aside0.mk (sha1_len' (padX l0 54 ++ l1))
        have hSB := Aside0.mk (sha1_bd (padX l0 54 ++ l1))
        obtain ⟨SH, hSH⟩ : ∃ X, sha1 (padX l0 54 ++ l1) = X := ⟨_, rfl⟩
        rw [hSH] at ho hS hSB HM2
        obtain ⟨Ag, cg, rfl, hcg, hCg⟩ := Kd.R_reads ho
        have RG := Aside0.mk hCg
        have CG := Aside0.mk hcg
        clear ho hb RF CF K2 HBf hCg hcg hSH
        have K2 := k2_
        clear k2_
        refine ⟨_, rfl, hK.out _ _ ?_⟩
        clear hK K
        refine norm_ (a' := ?_) ?_ ?_
        rotate_left
        · show Act.put _ (some 43) _ = _
          simp only [Act.put, List.setIfInBounds_toArray, List.set_cons_zero, List.set_cons_succ, i64_w, i32_w]
          rfl
        refine last_ (i := 8) (N := some 44) #[true, true, true, true, true, true, true, true, true, false, false, false] rfl rfl (by kernel_rfl) (by decide) (fun K hK => ?_)
        refine value_ (w1 := wg.alloc (.cells #[.slice (some ⟨g2, 0, none⟩) 64 64, .slice Ag SH.length cg] 22)) (v := .slice (some ⟨wg.heap.size, 0, none⟩) 2 2) (by rfl) rfl ?_ ?_
        · go_simp
          try rfl
        refine hK.out _ _ ?_
        clear hK K
        refine norm_ (a' := ?_) ?_ ?_
        rotate_left
        · show Act.put _ (some 44) _ = _
          simp only [Act.put, List.setIfInBounds_toArray, List.set_cons_zero, List.set_cons_succ, i64_w, i32_w]
          rfl
        have hl_ := blk_new wg (.cells #[.slice (some ⟨g2, 0, none⟩) 64 64, .slice Ag SH.length cg] 22)
        have hbl_ : Below wg.heap.size wg (wg.alloc (.cells #[.slice (some ⟨g2, 0, none⟩) 64 64, .slice Ag SH.length cg] 22)) := below_alloc (Below.refl _ _) _
        obtain ⟨gm, hgm⟩ : ∃ g, wg.heap.size = g := ⟨_, rfl⟩
        rw [hgm] at hl_ ⊢
        have k2_ := blk_below K2.out hbl_
        have hb_ := below_step HBg.out hbl_
        have r1_ := Kd.C_below RG.out hbl_
        generalize wg.alloc (.cells #[.slice (some ⟨g2, 0, none⟩) 64 64, .slice Ag SH.length cg] 22) = wh at hl_ k2_ hb_ r1_ ⊢
        have KL := Aside0.mk (C_rows2 wh gm (some ⟨g2, 0, none⟩) 64 (padX l0 92) Ag cg SH _ (by rw [padX_len l0 92 hk64]; exact hl_) (C_block wh g2 _ _ k2_ (by rw [padX_len l0 92 hk64]; omega) _ rfl) (by rw [padX_len l0 92 hk64]; omega) r1_ CG.out)
        have HBh := Aside0.mk hb_
        clear hl_ hbl_ k2_ hb_ r1_ hgm HBg K2 RG CG
        refine last_ (i := 9) (N := some 45) #[true, true, true, true, true, true, true, true, true, true, false, false] rfl rfl (by kernel_rfl) (by decide) (fun K hK => ?_)
        have he_ := fun w => enters_ (P := Try.prog) Try.func180 (by kernel_rfl) rfl #[.slice (some ⟨gm, 0, none⟩) 2 2] w
        refine call_ 180 #[.slice (some ⟨gm, 0, none⟩) 2 2] (by rfl) rfl ?_ ?_
        · unfold execOp
          simp [resolve, Deferred.ofValue, invoke, Act.eval, he_]
        clear he_
        refine (slices_Concat.calls (some ⟨gm, 0, none⟩) 2 [padX l0 92, SH] (padX l0 92 ++ SH) wh KL.out (Nat.le_refl _) (by simp) (by unfold slices_Concat.f sumLen; rw [if_pos (by simp [padX_len l0 92 hk64, hS.out])]; simp)).mono ?_
        rintro e wi ⟨vi, rfl, ho, hb⟩
        have HBi := Aside0.mk (below_step HBh.out hb)
        obtain ⟨Ai, ci, rfl, hci, hCi⟩ := Kd.R_reads ho
        have RI := Aside0.mk hCi
        have CI := Aside0.mk hci
        clear ho hb KL HBh hCi hci
        refine ⟨_, rfl, hK.out _ _ ?_⟩
        clear hK K
        refine norm_ (a' := ?_) ?_ ?_
        rotate_left
        · show Act.put _ (some 45) _ = _
          simp only [Act.put, List.setIfInBounds_toArray, List.set_cons_zero, List.set_cons_succ, i64_w, i32_w]
          rfl
        refine last_ (i := 10) (N := some 46) #[true, true, true, true, true, true, true, true, true, true, true, false] rfl rfl (by kernel_rfl) (by decide) (fun K hK => ?_)
        have he_ := fun w => enters_ (P := Try.prog) Try.func30 (by kernel_rfl) rfl #[.slice Ai (padX l0 92 ++ SH).length ci] w
        refine call_ 30 #[.slice Ai (padX l0 92 ++ SH).length ci] (by rfl) rfl ?_ ?_
        · unfold execOp
          simp [resolve, Deferred.ofValue, invoke, Act.eval, he_]
        clear he_
        refine (digest_Sha1.calls Ai ci (padX l0 92 ++ SH) (sha1 (padX l0 92 ++ SH)) wi RI.out CI.out (by unfold digest_Sha1.f; rw [if_pos (show okB (padX l0 92 ++ SH) from ⟨by simp only [List.length_append, padX_len l0 92 hk64, hS.out]; omega, fun x hx => by rcases List.mem_append.1 hx with hx | hx; exact padX_bd _ _ x hx; exact hSB.out x hx⟩ )])).mono ?_
        rintro e wj ⟨vj, rfl, ho, hb⟩
        have HBj := Aside0.mk (below_step HBi.out hb)
        have RJ := Aside0.mk (Kd.R_lower ho HBi.out.size)
        rw [← HM2.out] at RJ
        clear ho hb RI CI HBi
        refine ⟨_, rfl, hK.out _ _ ?_⟩
        clear hK K
        refine norm_ (a' := ?_) ?_ ?_
        rotate_left
        · show Act.put _ (some 46) _ = _
          simp only [Act.put, List.setIfInBounds_toArray, List.set_cons_zero, List.set_cons_succ, i64_w, i32_w]
          rfl
        refine last_ (i := 11) (N := some 6) #[true, true, true, true, true, true, true, true, true, true, true, true] rfl rfl (by kernel_rfl) (by decide) (fun K hK => ?_)
        refine value_ (w1 := ?_) (v := ?_) (by rfl) rfl ?_ ?_
        rotate_left 2
        · go_simp
          constructor
          · rfl
          · rfl
        refine hK.out _ _ ?_
        clear hK K
        refine norm_ (a' := ?_) ?_ ?_
        rotate_left
        · show Act.put _ (some 6) _ = _
          simp only [Act.put, List.setIfInBounds_toArray, List.set_cons_zero, List.set_cons_succ, i64_w, i32_w]
          rfl
        refine done_ (by kernel_rfl) ?_
        go_wp2
        go_ret
        exact ⟨_, rfl, RJ.out, HBj.out⟩

theorem hmac1_any (A0 : Option Addr) (c0 : Nat) (l0 : List Int) (A1 : Option Addr) (c1 : Nat) (l1 : List Int) (w : World) (hr0 : Kd.C (Kd.int .u8) w A0 l0.length l0) (hc0 : l0.length ≤ c0) (hb0 : okB l0) (hr1 : Kd.C (Kd.int .u8) w A1 l1.length l1) (hc1 : l1.length ≤ c1) (hb1 : okB l1) (hsz : l1.length ≤ 140737488355200) :
    Calls Try.prog 38 #[.slice A0 l0.length c0, .slice A1 l1.length c1] w fun e w' => ∃ v0_ : Value, e = .returned v0_ ∧ Kd.R (Kd.int .u8) 5 w' w.heap.size (fun _ => True) v0_ (hmacL sha1 l0 l1) ∧ Below w.heap.size w w' := by
  have H := Aside0.mk (mac1_any A0 c0 l0 A1 c1 l1 w hr0 hc0 hb0 hr1 hc1 hb1 hsz)
  clear hr0 hc0 hb0 hr1 hc1 hb1 hsz
  go_enter Try.func38, Try.ntmps38
  go_wp2_with (go_at_call 128; refine H.out.mono ?_; rintro e w1 ⟨v, rfl, ho, hb⟩; have HO := Aside0.mk ho; have HB := Aside0.mk hb; clear ho hb)
  go_ret
  exact ⟨_, rfl, HO.out, HB.out⟩
set_option maxHeartbeats 16000000 in
set_option maxRecDepth 100000 in
theorem mac256_any (A0 : Option Addr) (c0 : Nat) (l0 : List Int) (A1 : Option Addr) (c1 : Nat) (l1 : List Int) (w : World) (hr0 : Kd.C (Kd.int .u8) w A0 l0.length l0) (hc0 : l0.length ≤ c0) (hb0 : okB l0) (hr1 : Kd.C (Kd.int .u8) w A1 l1.length l1) (hc1 : l1.length ≤ c1) (hb1 : okB l1) (hsz : l1.length ≤ 140737488355200) :
    Calls Try.prog 128 #[.func (.func 32) #[] #[], .slice A0 l0.length c0, .slice A1 l1.length c1] w fun e w' => ∃ v0_ : Value, e = .returned v0_ ∧ Kd.R (Kd.int .u8) 5 w' w.heap.size (fun _ => True) v0_ (hmacL sha256 l0 l1) ∧ Below w.heap.size w w' := by
  have HR0 := Aside0.mk hr0
  have HC0 := Aside0.mk hc0
  have HB0 := Aside0.mk hb0
  have HR1 := Aside0.mk hr1
  have HC1 := Aside0.mk hc1
  have HB1 := Aside0.mk hb1
  have HSZ := Aside0.mk hsz
  clear hr0 hc0 hb0 hr1 hc1 hb1 hsz
  have HB := Aside0.mk (Below.refl w.heap.size w)
  have hmac : ∀ k : List Int, (if 64 < l0.length then sha256 l0 else l0) = k → hmacL sha256 l0 l1 = sha256 (padX k 92 ++ sha256 (padX k 54 ++ l1)) := fun k hk => by unfold hmacL; rw [hk]
  have HM := Aside0.mk hmac
  clear hmac
  have z64 : (List.replicate 64 (Value.int .u8 0)).toArray = aU8 (List.replicate 64 0) := by simp [aU8]
  have HZ64 := Aside0.mk z64
  clear z64
  by_cases hbig : 64 < l0.length
  · have hb64 : ((l0.length : Int) > 64) := by omega
    have HM2 := Aside0.mk (HM.out (sha256 l0) (if_pos hbig))
    clear HM hbig
    have hlen := sha256_len' l0
    have hbd := Aside0.mk (sha256_bd l0)
    obtain ⟨kk, hkk⟩ : ∃ k, sha256 l0 = k := ⟨_, rfl⟩
    rw [hkk] at HM2 hlen hbd
    have HKK := Aside0.mk hkk
    clear hkk
    have hk64 : kk.length ≤ 64 := by omega
    clear hlen
    go_enter Try.func128, Try.ntmps128
    go_wp2_with (first
      | (go_at_call 32; refine (digest_Sha256.calls A0 c0 l0 kk _ HR0.out HC0.out (by unfold digest_Sha256.f; rw [if_pos HB0.out, HKK.out])).mono ?_; rintro e wk ⟨vk, rfl, ho, hb⟩; obtain ⟨Ak, ck, rfl, hck, hCk⟩ := Kd.R_reads ho; have HRk := Aside0.mk hCk; have HCk := Aside0.mk hck; have hb_ := Aside0.mk hb; clear HB ho hb hCk hck; have HB := hb_; clear hb_)
      | ((with_reducible refine gate_dst (N := 7) rfl ?_); refine box_event ?hg (N := 7) ?hd (cs := (List.replicate 64 (Value.int .u8 0)).toArray) (t := 135) ?hr ?_; (case hd => rfl); (case hg => rfl); (case hr => first | (go_simp; done) | (go_simp; rfl)); intro g1 hg1 w1 hbox hBl; have G1 := Aside0.mk (show w.heap.size ≤ g1 by have := HB.out.size; omega); have GN1 := Aside0.mk (fun h0 ad h => far_block HRk.out h0 ad h (Nat.le_of_eq hg1.symm)); have K1 := Aside0.mk (by rw [HZ64.out] at hbox; exact hbox); have RK1 := Aside0.mk (Kd.C_below HRk.out hBl); have hb_ := Aside0.mk (below_step HB.out hBl); clear HB HRk hg1 hbox hBl)
      | ((with_reducible refine gate_dst (N := 8) rfl ?_); refine box_event ?hg (N := 8) ?hd (cs := (List.replicate 64 (Value.int .u8 0)).toArray) (t := 135) ?hr ?_; (case hd => rfl); (case hg => rfl); (case hr => first | (go_simp; done) | (go_simp; rfl)); intro g2 hg2 w2 hbox hBl; have hlt := blk_lt K1.out; have NE := Aside0.mk (show g1 ≠ g2 by omega); have G2 := Aside0.mk (show w.heap.size ≤ g2 by have := hb_.out.size; omega); have K2 := Aside0.mk (by rw [HZ64.out] at hbox; exact hbox); have k1_ := Aside0.mk (blk_below K1.out hBl); have RK2 := Aside0.mk (Kd.C_below RK1.out hBl); have HB2 := Aside0.mk (below_step hb_.out hBl); clear K1 RK1 hb_ hg2 hbox hBl hlt; have K1 := k1_; clear k1_)
      | ((with_reducible refine gate_dst (N := 18) rfl ?_); refine copy_key rfl (.tmp 16) (.tmp 17) 22 22 rfl 5 Try.underlying22 info8b g1 Ak kk ck rfl rfl hk64 135 K1.out RK2.out ?_; intro w3 hb3 hW3; have k2_ := Aside0.mk (hW3.blk K2.out (blk_lt K2.out) (Ne.symm NE.out)); have k1_ := Aside0.mk hb3; have HB3 := Aside0.mk (HB2.out.trans ((hW3.lower HB2.out.size).below G1.out)); have WR3 := Aside0.mk hW3; clear K1 K2; have K1 := k1_; have K2 := k2_; clear k1_ k2_ hb3 hW3)
      | ((with_reducible refine gate_dst (N := 21) rfl ?_); refine copy_key rfl (.tmp 19) (.tmp 20) 22 22 rfl 5 Try.underlying22 info8b g2 Ak kk ck rfl rfl hk64 135 K2.out (C_wr RK2.out WR3.out GN1.out) ?_; intro w4 hb4 hW4; have k1_ := Aside0.mk (hW4.blk K1.out (blk_lt K1.out) NE.out); have k2_ := Aside0.mk hb4; have HB4 := Aside0.mk (HB3.out.trans ((hW4.lower HB3.out.size).below G2.out)); clear K1 K2 WR3 HB2 HB3 RK2; have K1 := k1_; have K2 := k2_; clear k1_ k2_ hb4 hW4))
    have HP := Aside0.mk (pad64_len kk hk64)
    have HPB := Aside0.mk (pad64_bd kk hbd.out)
    go_loopw [22] (fun v22 wr => ∃ k : Nat, k ≤ 64 ∧ v22 = .int .i64 (k : Int) ∧ Aside0 (wr.heap[g1]? = some (.cells (aU8 (mixX (pad64 kk) 54 k)) 135 (0, 0))) ∧ Aside0 (wr.heap[g2]? = some (.cells (aU8 (mixX (pad64 kk) 92 k)) 135 (0, 0))) ∧ Aside0 (Below w.heap.size w wr)) (fun v22 _ => 64 - (intOf v22).toNat)
    case atStart => exact ⟨0, Nat.zero_le _, rfl, ⟨by rw [mixX_0]; exact K1.out⟩, ⟨by rw [mixX_0]; exact K2.out⟩, HB4⟩
    case round =>
      clear K1 K2 HB4
      obtain ⟨k, hk, rfl, K1, K2, HBr⟩ := hrel
      by_cases hlt : k < 64
      · have d1 := (blk_cell K1.out k).trans (aU8_get _ k (by rw [mixX_len, HP.out]; exact hlt))
        have d2 := (blk_cell K2.out k).trans (aU8_get _ k (by rw [mixX_len, HP.out]; exact hlt))
        have f1 := blk_frozen K1.out k
        have f2 := blk_frozen K2.out k
        rw [mixX_get _ _ _ (by rw [HP.out]; exact hlt)] at d1 d2
        have s1 := Aside0.mk (mixX_set (pad64 kk) 54 k (by rw [HP.out]; exact hlt))
        have s2 := Aside0.mk (mixX_set (pad64 kk) 92 k (by rw [HP.out]; exact hlt))
        have hy := byte_rd' _ HPB.out k (by rw [HP.out]; exact hlt)
        obtain ⟨y, hye⟩ : ∃ y, (pad64 kk).getD k 0 = y := ⟨_, rfl⟩
        rw [hye] at d1 d2 s1 s2 hy
        clear hye
        obtain ⟨hy0, hy1⟩ := hy
        have n12 := NE.out
        have n21 := Ne.symm NE.out
        have b1_ := blk_put K1.out k (.int .u8 (bits .xor .u8 y 54)) s1.out
        have b2_ := blk_put (blk_far K2.out (p := ⟨g1, k, none⟩) n21 (.int .u8 (bits .xor .u8 y 54))) k (.int .u8 (bits .xor .u8 y 92)) s2.out
        have B1 := Aside0.mk (blk_far b1_ (p := ⟨g2, k, none⟩) n12 (.int .u8 (bits .xor .u8 y 92)))
        have B2 := Aside0.mk b2_
        have HBn := Aside0.mk ((HBr.out.setCell (p := ⟨g1, k, none⟩) G1.out (.int .u8 (bits .xor .u8 y 54))).setCell (p := ⟨g2, k, none⟩) G2.out (.int .u8 (bits .xor .u8 y 92)))
        clear b1_ b2_ K1 K2 HBr s1 s2
        have hlti : (k : Int) < 64 := by omega
        go_wp2
        go_roundw
        case rel => exact ⟨k + 1, by omega, by go_num, B1, B2, HBn⟩
        case measure => simp [intOf]; omega
      · obtain rfl : k = 64 := by omega
        rw [mixX_all kk _ hk64] at K1 K2
        go_wp2
        refine start_ (n := 12) (S := fun w' => True ∧ True) (ds := [5, 6, 7, 8, 9, 10, 11]) #[false, false, false, false, false, false, false, false, false, false, false, false] (by kernel_rfl) rfl rfl ⟨trivial, trivial⟩ (fun hHeld => ?_)
        have HBd : Below w.heap.size w wr.drew := below_drew HBr.out
        have k1_ : (wr.drew).heap[g1]? = _ := K1.out
        have k2_ : (wr.drew).heap[g2]? = _ := K2.out
        generalize wr.drew = wd at HBd k1_ k2_ hHeld ⊢
        clear K1 K2 HBr
        have K1 := Aside0.mk k1_
        have K2 := Aside0.mk k2_
        have HBd := Aside0.mk HBd
        clear k1_ k2_
        refine pure_ (i := 0) (N := some 36) (v := ?_) (a' := ?_) #[true, false, false, false, false, false, false, false, false, false, false, false] rfl rfl (by kernel_rfl) (fun _ _ _ h => h) (Or.inl ⟨by rfl, ?_⟩) ?_ ?_
        rotate_left
        · intro w'
          go_simp
          with_reducible rfl
        rotate_left
        · simp only [Act.put, List.setIfInBounds_toArray, List.set_cons_zero, List.set_cons_succ, i64_w, i32_w]
          rfl
        refine pure_ (i := 1) (N := some 37) (v := ?_) (a' := ?_) #[true, true, false, false, false, false, false, false, false, false, false, false] rfl rfl (by kernel_rfl) (fun _ _ _ h => h) (Or.inl ⟨by rfl, ?_⟩) ?_ ?_
        rotate_left
        · intro w'
          go_simp
          with_reducible rfl
        rotate_left
        · simp only [Act.put, List.setIfInBounds_toArray, List.set_cons_zero, List.set_cons_succ, i64_w, i32_w]
          rfl
        refine pure_ (i := 2) (N := some 38) (v := ?_) (a' := ?_) #[true, true, true, false, false, false, false, false, false, false, false, false] rfl rfl (by kernel_rfl) (fun _ _ _ h => h) (Or.inl ⟨by rfl, ?_⟩) ?_ ?_
        rotate_left
        · intro w'
          go_simp
          with_reducible rfl
        rotate_left
        · simp only [Act.put, List.setIfInBounds_toArray, List.set_cons_zero, List.set_cons_succ, i64_w, i32_w]
          rfl
        refine pure_ (i := 3) (N := some 39) (v := ?_) (a' := ?_) #[true, true, true, true, false, false, false, false, false, false, false, false] rfl rfl (by kernel_rfl) (fun _ _ _ h => h) (Or.inl ⟨by rfl, ?_⟩) ?_ ?_
        rotate_left
        · intro w'
          go_simp
          with_reducible rfl
        rotate_left
        · simp only [Act.put, List.setIfInBounds_toArray, List.set_cons_zero, List.set_cons_succ, i64_w, i32_w]
          rfl
        refine pure_ (i := 4) (N := some 40) (v := ?_) (a' := ?_) #[true, true, true, true, true, false, false, false, false, false, false, false] rfl rfl (by kernel_rfl) (fun _ _ _ h => h) (Or.inl ⟨by rfl, ?_⟩) ?_ ?_
        rotate_left
        · intro w'
          go_simp
          with_reducible rfl
        rotate_left
        · simp only [Act.put, List.setIfInBounds_toArray, List.set_cons_zero, List.set_cons_succ, i64_w, i32_w]
          rfl
        refine last_ (i := 5) (N := some 41) #[true, true, true, true, true, true, false, false, false, false, false, false] rfl rfl (by kernel_rfl) (by decide) (fun K hK => ?_)
        refine value_ (w1 := wd.alloc (.cells #[.slice (some ⟨g1, 0, none⟩) 64 64, .slice A1 l1.length c1] 22)) (v := .slice (some ⟨wd.heap.size, 0, none⟩) 2 2) (by rfl) rfl ?_ ?_
        · go_simp
          try rfl
        refine hK.out _ _ ?_
        clear hK K
        refine norm_ (a' := ?_) ?_ ?_
        rotate_left
        · show Act.put _ (some 41) _ = _
          simp only [Act.put, List.setIfInBounds_toArray, List.set_cons_zero, List.set_cons_succ, i64_w, i32_w]
          rfl
        have hl_ := blk_new wd (.cells #[.slice (some ⟨g1, 0, none⟩) 64 64, .slice A1 l1.length c1] 22)
        have hbl_ : Below wd.heap.size wd (wd.alloc (.cells #[.slice (some ⟨g1, 0, none⟩) 64 64, .slice A1 l1.length c1] 22)) := below_alloc (Below.refl _ _) _
        obtain ⟨gl, hgl⟩ : ∃ g, wd.heap.size = g := ⟨_, rfl⟩
        rw [hgl] at hl_ ⊢
        have k1_ := blk_below K1.out hbl_
        have k2_ := blk_below K2.out hbl_
        have hb_ := below_step HBd.out hbl_
        have r1_ := Kd.C_below (Kd.C_below HR1.out HBd.out) hbl_
        generalize wd.alloc (.cells #[.slice (some ⟨g1, 0, none⟩) 64 64, .slice A1 l1.length c1] 22) = we at hl_ k1_ k2_ hb_ r1_ ⊢
        have KL := Aside0.mk (C_rows2 we gl (some ⟨g1, 0, none⟩) 64 (padX kk 54) A1 c1 l1 _ (by rw [padX_len kk 54 hk64]; exact hl_) (C_block we g1 _ _ k1_ (by rw [padX_len kk 54 hk64]; omega) _ rfl) (by rw [padX_len kk 54 hk64]; omega) r1_ HC1.out)
        have K1 := Aside0.mk k1_
        have K2 := Aside0.mk k2_
        have HBe := Aside0.mk hb_
        clear hl_ hbl_ k1_ k2_ hb_ r1_ hgl HBd
        refine last_ (i := 6) (N := some 42) #[true, true, true, true, true, true, true, false, false, false, false, false] rfl rfl (by kernel_rfl) (by decide) (fun K hK => ?_)
        have he_ := fun w => enters_ (P := Try.prog) Try.func180 (by kernel_rfl) rfl #[.slice (some ⟨gl, 0, none⟩) 2 2] w
        refine call_ 180 #[.slice (some ⟨gl, 0, none⟩) 2 2] (by rfl) rfl ?_ ?_
        · unfold execOp
          simp [resolve, Deferred.ofValue, invoke, Act.eval, he_]
        clear he_
        refine (slices_Concat.calls (some ⟨gl, 0, none⟩) 2 [padX kk 54, l1] (padX kk 54 ++ l1) we KL.out (Nat.le_refl _) (by simp) (by unfold slices_Concat.f sumLen; rw [if_pos (by simp [padX_len kk 54 hk64]; have := HSZ.out; omega)]; simp)).mono ?_
        rintro e wf ⟨vf, rfl, ho, hb⟩
        have HBf := Aside0.mk (below_step HBe.out hb)
        have k2_ := Aside0.mk (blk_below K2.out hb)
        obtain ⟨Af, cf, rfl, hcf, hCf⟩ := Kd.R_reads ho
        have RF := Aside0.mk hCf
        have CF := Aside0.mk hcf
        clear ho hb KL K1 K2 HBe hCf hcf
        have K2 := k2_
        clear k2_
        refine ⟨_, rfl, hK.out _ _ ?_⟩
        clear hK K
        refine norm_ (a' := ?_) ?_ ?_
        rotate_left
        · show Act.put _ (some 42) _ = _
          simp only [Act.put, List.setIfInBounds_toArray, List.set_cons_zero, List.set_cons_succ, i64_w, i32_w]
          rfl
        refine last_ (i := 7) (N := some 43) #[true, true, true, true, true, true, true, true, false, false, false, false] rfl rfl (by kernel_rfl) (by decide) (fun K hK => ?_)
        have he_ := fun w => enters_ (P := Try.prog) Try.func32 (by kernel_rfl) rfl #[.slice Af (padX kk 54 ++ l1).length cf] w
        refine call_ 32 #[.slice Af (padX kk 54 ++ l1).length cf] (by rfl) rfl ?_ ?_
        · unfold execOp
          simp [resolve, Deferred.ofValue, invoke, Act.eval, he_]
        clear he_
        refine (digest_Sha256.calls Af cf (padX kk 54 ++ l1) (sha256 (padX kk 54 ++ l1)) wf RF.out CF.out (by unfold digest_Sha256.f; rw [if_pos (show okB (padX kk 54 ++ l1) from ⟨by simp only [List.length_append, padX_len kk 54 hk64]; have := HSZ.out; omega, fun x hx => by rcases List.mem_append.1 hx with hx | hx; exact padX_bd _ _ x hx; exact HB1.out.2 x hx⟩)])).mono ?_
        rintro e wg ⟨vg, rfl, ho, hb⟩
        have HBg := Aside0.mk (below_step HBf.out hb)
        have k2_ := Aside0.mk (blk_below K2.out hb)
        have hS := Aside0.mk (sha256_len' (padX kk 54 ++ l1))
        have hSB := Aside0.mk (sha256_bd (padX kk 54 ++ l1))
        obtain ⟨SH, hSH⟩ : ∃ X, sha256 (padX kk 54 ++ l1) = X := ⟨_, rfl⟩
        rw [hSH] at ho hS hSB HM2
        obtain ⟨Ag, cg, rfl, hcg, hCg⟩ := Kd.R_reads ho
        have RG := Aside0.mk hCg
        have CG := Aside0.mk hcg
        clear ho hb RF CF K2 HBf hCg hcg hSH
        have K2 := k2_
        clear k2_
        refine ⟨_, rfl, hK.out _ _ ?_⟩
        clear hK K
        refine norm_ (a' := ?_) ?_ ?_
        rotate_left
        · show Act.put _ (some 43) _ = _
          simp only [Act.put, List.setIfInBounds_toArray, List.set_cons_zero, List.set_cons_succ, i64_w, i32_w]
          rfl
        refine last_ (i := 8) (N := some 44) #[true, true, true, true, true, true, true, true, true, false, false, false] rfl rfl (by kernel_rfl) (by decide) (fun K hK => ?_)
        refine value_ (w1 := wg.alloc (.cells #[.slice (some ⟨g2, 0, none⟩) 64 64, .slice Ag SH.length cg] 22)) (v := .slice (some ⟨wg.heap.size, 0, none⟩) 2 2) (by rfl) rfl ?_ ?_
        · go_simp
          try rfl
        refine hK.out _ _ ?_
        clear hK K
        refine norm_ (a' := ?_) ?_ ?_
        rotate_left
        · show Act.put _ (some 44) _ = _
          simp only [Act.put, List.setIfInBounds_toArray, List.set_cons_zero, List.set_cons_succ, i64_w, i32_w]
          rfl
        have hl_ := blk_new wg (.cells #[.slice (some ⟨g2, 0, none⟩) 64 64, .slice Ag SH.length cg] 22)
        have hbl_ : Below wg.heap.size wg (wg.alloc (.cells #[.slice (some ⟨g2, 0, none⟩) 64 64, .slice Ag SH.length cg] 22)) := below_alloc (Below.refl _ _) _
        obtain ⟨gm, hgm⟩ : ∃ g, wg.heap.size = g := ⟨_, rfl⟩
        rw [hgm] at hl_ ⊢
        have k2_ := blk_below K2.out hbl_
        have hb_ := below_step HBg.out hbl_
        have r1_ := Kd.C_below RG.out hbl_
        generalize wg.alloc (.cells #[.slice (some ⟨g2, 0, none⟩) 64 64, .slice Ag SH.length cg] 22) = wh at hl_ k2_ hb_ r1_ ⊢
        have KL := Aside0.mk (C_rows2 wh gm (some ⟨g2, 0, none⟩) 64 (padX kk 92) Ag cg SH _ (by rw [padX_len kk 92 hk64]; exact hl_) (C_block wh g2 _ _ k2_ (by rw [padX_len kk 92 hk64]; omega) _ rfl) (by rw [padX_len kk 92 hk64]; omega) r1_ CG.out)
        have HBh := Aside0.mk hb_
        clear hl_ hbl_ k2_ hb_ r1_ hgm HBg K2 RG CG
        refine last_ (i := 9) (N := some 45) #[true, true, true, true, true, true, true, true, true, true, false, false] rfl rfl (by kernel_rfl) (by decide) (fun K hK => ?_)
        have he_ := fun w => enters_ (P := Try.prog) Try.func180 (by kernel_rfl) rfl #[.slice (some ⟨gm, 0, none⟩) 2 2] w
        refine call_ 180 #[.slice (some ⟨gm, 0, none⟩) 2 2] (by rfl) rfl ?_ ?_
        · unfold execOp
          simp [resolve, Deferred.ofValue, invoke, Act.eval, he_]
        clear he_
        refine (slices_Concat.calls (some ⟨gm, 0, none⟩) 2 [padX kk 92, SH] (padX kk 92 ++ SH) wh KL.out (Nat.le_refl _) (by simp) (by unfold slices_Concat.f sumLen; rw [if_pos (by simp [padX_len kk 92 hk64, hS.out])]; simp)).mono ?_
        rintro e wi ⟨vi, rfl, ho, hb⟩
        have HBi := Aside0.mk (below_step HBh.out hb)
        obtain ⟨Ai, ci, rfl, hci, hCi⟩ := Kd.R_reads ho
        have RI := Aside0.mk hCi
        have CI := Aside0.mk hci
        clear ho hb KL HBh hCi hci
        refine ⟨_, rfl, hK.out _ _ ?_⟩
        clear hK K
        refine norm_ (a' := ?_) ?_ ?_
        rotate_left
        · show Act.put _ (some 45) _ = _
          simp only [Act.put, List.setIfInBounds_toArray, List.set_cons_zero, List.set_cons_succ, i64_w, i32_w]
          rfl
        refine last_ (i := 10) (N := some 46) #[true, true, true, true, true, true, true, true, true, true, true, false] rfl rfl (by kernel_rfl) (by decide) (fun K hK => ?_)
        have he_ := fun w => enters_ (P := Try.prog) Try.func32 (by kernel_rfl) rfl #[.slice Ai (padX kk 92 ++ SH).length ci] w
        refine call_ 32 #[.slice Ai (padX kk 92 ++ SH).length ci] (by rfl) rfl ?_ ?_
        · unfold execOp
          simp [resolve, Deferred.ofValue, invoke, Act.eval, he_]
        clear he_
        refine (digest_Sha256.calls Ai ci (padX kk 92 ++ SH) (sha256 (padX kk 92 ++ SH)) wi RI.out CI.out (by unfold digest_Sha256.f; rw [if_pos (show okB (padX kk 92 ++ SH) from ⟨by simp only [List.length_append, padX_len kk 92 hk64, hS.out]; omega, fun x hx => by rcases List.mem_append.1 hx with hx | hx; exact padX_bd _ _ x hx; exact hSB.out x hx⟩ )])).mono ?_
        rintro e wj ⟨vj, rfl, ho, hb⟩
        have HBj := Aside0.mk (below_step HBi.out hb)
        have RJ := Aside0.mk (Kd.R_lower ho HBi.out.size)
        rw [← HM2.out] at RJ
        clear ho hb RI CI HBi
        refine ⟨_, rfl, hK.out _ _ ?_⟩
        clear hK K
        refine norm_ (a' := ?_) ?_ ?_
        rotate_left
        · show Act.put _ (some 46) _ = _
          simp only [Act.put, List.setIfInBounds_toArray, List.set_cons_zero, List.set_cons_succ, i64_w, i32_w]
          rfl
        refine last_ (i := 11) (N := some 6) #[true, true, true, true, true, true, true, true, true, true, true, true] rfl rfl (by kernel_rfl) (by decide) (fun K hK => ?_)
        refine value_ (w1 := ?_) (v := ?_) (by rfl) rfl ?_ ?_
        rotate_left 2
        · go_simp
          constructor
          · rfl
          · rfl
        refine hK.out _ _ ?_
        clear hK K
        refine norm_ (a' := ?_) ?_ ?_
        rotate_left
        · show Act.put _ (some 6) _ = _
          simp only [Act.put, List.setIfInBounds_toArray, List.set_cons_zero, List.set_cons_succ, i64_w, i32_w]
          rfl
        refine done_ (by kernel_rfl) ?_
        go_wp2
        go_ret
        exact ⟨_, rfl, RJ.out, HBj.out⟩

  · have hb64 : ¬ ((l0.length : Int) > 64) := by omega
    have HM2 := Aside0.mk (HM.out l0 (if_neg hbig))
    have hbd := Aside0.mk HB0.out.2
    have hk64 : l0.length ≤ 64 := by omega
    have HRk := HR0
    have HCk := HC0
    clear HM hbig
    go_enter Try.func128, Try.ntmps128
    go_wp2_with (first
      | ((with_reducible refine gate_dst (N := 7) rfl ?_); refine box_event ?hg (N := 7) ?hd (cs := (List.replicate 64 (Value.int .u8 0)).toArray) (t := 135) ?hr ?_; (case hd => rfl); (case hg => rfl); (case hr => first | (go_simp; done) | (go_simp; rfl)); intro g1 hg1 w1 hbox hBl; have G1 := Aside0.mk (show w.heap.size ≤ g1 by have := HB.out.size; omega); have GN1 := Aside0.mk (fun h0 ad h => far_block HRk.out h0 ad h (Nat.le_of_eq hg1.symm)); have K1 := Aside0.mk (by rw [HZ64.out] at hbox; exact hbox); have RK1 := Aside0.mk (Kd.C_below HRk.out hBl); have hb_ := Aside0.mk (below_step HB.out hBl); clear HB HRk hg1 hbox hBl)
      | ((with_reducible refine gate_dst (N := 8) rfl ?_); refine box_event ?hg (N := 8) ?hd (cs := (List.replicate 64 (Value.int .u8 0)).toArray) (t := 135) ?hr ?_; (case hd => rfl); (case hg => rfl); (case hr => first | (go_simp; done) | (go_simp; rfl)); intro g2 hg2 w2 hbox hBl; have hlt := blk_lt K1.out; have NE := Aside0.mk (show g1 ≠ g2 by omega); have G2 := Aside0.mk (show w.heap.size ≤ g2 by have := hb_.out.size; omega); have K2 := Aside0.mk (by rw [HZ64.out] at hbox; exact hbox); have k1_ := Aside0.mk (blk_below K1.out hBl); have RK2 := Aside0.mk (Kd.C_below RK1.out hBl); have HB2 := Aside0.mk (below_step hb_.out hBl); clear K1 RK1 hb_ hg2 hbox hBl hlt; have K1 := k1_; clear k1_)
      | ((with_reducible refine gate_dst (N := 18) rfl ?_); refine copy_key rfl (.tmp 16) (.tmp 17) 22 22 rfl 5 Try.underlying22 info8b g1 A0 l0 c0 rfl rfl hk64 135 K1.out RK2.out ?_; intro w3 hb3 hW3; have k2_ := Aside0.mk (hW3.blk K2.out (blk_lt K2.out) (Ne.symm NE.out)); have k1_ := Aside0.mk hb3; have HB3 := Aside0.mk (HB2.out.trans ((hW3.lower HB2.out.size).below G1.out)); have WR3 := Aside0.mk hW3; clear K1 K2; have K1 := k1_; have K2 := k2_; clear k1_ k2_ hb3 hW3)
      | ((with_reducible refine gate_dst (N := 21) rfl ?_); refine copy_key rfl (.tmp 19) (.tmp 20) 22 22 rfl 5 Try.underlying22 info8b g2 A0 l0 c0 rfl rfl hk64 135 K2.out (C_wr RK2.out WR3.out GN1.out) ?_; intro w4 hb4 hW4; have k1_ := Aside0.mk (hW4.blk K1.out (blk_lt K1.out) NE.out); have k2_ := Aside0.mk hb4; have HB4 := Aside0.mk (HB3.out.trans ((hW4.lower HB3.out.size).below G2.out)); clear K1 K2 WR3 HB2 HB3 RK2; have K1 := k1_; have K2 := k2_; clear k1_ k2_ hb4 hW4))
    have HP := Aside0.mk (pad64_len l0 hk64)
    have HPB := Aside0.mk (pad64_bd l0 hbd.out)
    go_loopw [22] (fun v22 wr => ∃ k : Nat, k ≤ 64 ∧ v22 = .int .i64 (k : Int) ∧ Aside0 (wr.heap[g1]? = some (.cells (aU8 (mixX (pad64 l0) 54 k)) 135 (0, 0))) ∧ Aside0 (wr.heap[g2]? = some (.cells (aU8 (mixX (pad64 l0) 92 k)) 135 (0, 0))) ∧ Aside0 (Below w.heap.size w wr)) (fun v22 _ => 64 - (intOf v22).toNat)
    case atStart => exact ⟨0, Nat.zero_le _, rfl, ⟨by rw [mixX_0]; exact K1.out⟩, ⟨by rw [mixX_0]; exact K2.out⟩, HB4⟩
    case round =>
      clear K1 K2 HB4
      obtain ⟨k, hk, rfl, K1, K2, HBr⟩ := hrel
      by_cases hlt : k < 64
      · have d1 := (blk_cell K1.out k).trans (aU8_get _ k (by rw [mixX_len, HP.out]; exact hlt))
        have d2 := (blk_cell K2.out k).trans (aU8_get _ k (by rw [mixX_len, HP.out]; exact hlt))
        have f1 := blk_frozen K1.out k
        have f2 := blk_frozen K2.out k
        rw [mixX_get _ _ _ (by rw [HP.out]; exact hlt)] at d1 d2
        have s1 := Aside0.mk (mixX_set (pad64 l0) 54 k (by rw [HP.out]; exact hlt))
        have s2 := Aside0.mk (mixX_set (pad64 l0) 92 k (by rw [HP.out]; exact hlt))
        have hy := byte_rd' _ HPB.out k (by rw [HP.out]; exact hlt)
        obtain ⟨y, hye⟩ : ∃ y, (pad64 l0).getD k 0 = y := ⟨_, rfl⟩
        rw [hye] at d1 d2 s1 s2 hy
        clear hye
        obtain ⟨hy0, hy1⟩ := hy
        have n12 := NE.out
        have n21 := Ne.symm NE.out
        have b1_ := blk_put K1.out k (.int .u8 (bits .xor .u8 y 54)) s1.out
        have b2_ := blk_put (blk_far K2.out (p := ⟨g1, k, none⟩) n21 (.int .u8 (bits .xor .u8 y 54))) k (.int .u8 (bits .xor .u8 y 92)) s2.out
        have B1 := Aside0.mk (blk_far b1_ (p := ⟨g2, k, none⟩) n12 (.int .u8 (bits .xor .u8 y 92)))
        have B2 := Aside0.mk b2_
        have HBn := Aside0.mk ((HBr.out.setCell (p := ⟨g1, k, none⟩) G1.out (.int .u8 (bits .xor .u8 y 54))).setCell (p := ⟨g2, k, none⟩) G2.out (.int .u8 (bits .xor .u8 y 92)))
        clear b1_ b2_ K1 K2 HBr s1 s2
        have hlti : (k : Int) < 64 := by omega
        go_wp2
        go_roundw
        case rel => exact ⟨k + 1, by omega, by go_num, B1, B2, HBn⟩
        case measure => simp [intOf]; omega
      · obtain rfl : k = 64 := by omega
        rw [mixX_all l0 _ hk64] at K1 K2
        go_wp2
        refine start_ (n := 12) (S := fun w' => True ∧ True) (ds := [5, 6, 7, 8, 9, 10, 11]) #[false, false, false, false, false, false, false, false, false, false, false, false] (by kernel_rfl) rfl rfl ⟨trivial, trivial⟩ (fun hHeld => ?_)
        have HBd : Below w.heap.size w wr.drew := below_drew HBr.out
        have k1_ : (wr.drew).heap[g1]? = _ := K1.out
        have k2_ : (wr.drew).heap[g2]? = _ := K2.out
        generalize wr.drew = wd at HBd k1_ k2_ hHeld ⊢
        clear K1 K2 HBr
        have K1 := Aside0.mk k1_
        have K2 := Aside0.mk k2_
        have HBd := Aside0.mk HBd
        clear k1_ k2_
        refine pure_ (i := 0) (N := some 36) (v := ?_) (a' := ?_) #[true, false, false, false, false, false, false, false, false, false, false, false] rfl rfl (by kernel_rfl) (fun _ _ _ h => h) (Or.inl ⟨by rfl, ?_⟩) ?_ ?_
        rotate_left
        · intro w'
          go_simp
          with_reducible rfl
        rotate_left
        · simp only [Act.put, List.setIfInBounds_toArray, List.set_cons_zero, List.set_cons_succ, i64_w, i32_w]
          rfl
        refine pure_ (i := 1) (N := some 37) (v := ?_) (a' := ?_) #[true, true, false, false, false, false, false, false, false, false, false, false] rfl rfl (by kernel_rfl) (fun _ _ _ h => h) (Or.inl ⟨by rfl, ?_⟩) ?_ ?_
        rotate_left
        · intro w'
          go_simp
          with_reducible rfl
        rotate_left
        · simp only [Act.put, List.setIfInBounds_toArray, List.set_cons_zero, List.set_cons_succ, i64_w, i32_w]
          rfl
        refine pure_ (i := 2) (N := some 38) (v := ?_) (a' := ?_) #[true, true, true, false, false, false, false, false, false, false, false, false] rfl rfl (by kernel_rfl) (fun _ _ _ h => h) (Or.inl ⟨by rfl, ?_⟩) ?_ ?_
        rotate_left
        · intro w'
          go_simp
          with_reducible rfl
        rotate_left
        · simp only [Act.put, List.setIfInBounds_toArray, List.set_cons_zero, List.set_cons_succ, i64_w, i32_w]
          rfl
        refine pure_ (i := 3) (N := some 39) (v := ?_) (a' := ?_) #[true, true, true, true, false, false, false, false, false, false, false, false] rfl rfl (by kernel_rfl) (fun _ _ _ h => h) (Or.inl ⟨by rfl, ?_⟩) ?_ ?_
        rotate_left
        · intro w'
          go_simp
          with_reducible rfl
        rotate_left
        · simp only [Act.put, List.setIfInBounds_toArray, List.set_cons_zero, List.set_cons_succ, i64_w, i32_w]
          rfl
        refine pure_ (i := 4) (N := some 40) (v := ?_) (a' := ?_) #[true, true, true, true, true, false, false, false, false, false, false, false] rfl rfl (by kernel_rfl) (fun _ _ _ h => h) (Or.inl ⟨by rfl, ?_⟩) ?_ ?_
        rotate_left
        · intro w'
          go_simp
          with_reducible rfl
        rotate_left
        · simp only [Act.put, List.setIfInBounds_toArray, List.set_cons_zero, List.set_cons_succ, i64_w, i32_w]
          rfl
        refine last_ (i := 5) (N := some 41) #[true, true, true, true, true, true, false, false, false, false, false, false] rfl rfl (by kernel_rfl) (by decide) (fun K hK => ?_)
        refine value_ (w1 := wd.alloc (.cells #[.slice (some ⟨g1, 0, none⟩) 64 64, .slice A1 l1.length c1] 22)) (v := .slice (some ⟨wd.heap.size, 0, none⟩) 2 2) (by rfl) rfl ?_ ?_
        · go_simp
          try rfl
        refine hK.out _ _ ?_
        clear hK K
        refine norm_ (a' := ?_) ?_ ?_
        rotate_left
        · show Act.put _ (some 41) _ = _
          simp only [Act.put, List.setIfInBounds_toArray, List.set_cons_zero, List.set_cons_succ, i64_w, i32_w]
          rfl
        have hl_ := blk_new wd (.cells #[.slice (some ⟨g1, 0, none⟩) 64 64, .slice A1 l1.length c1] 22)
        have hbl_ : Below wd.heap.size wd (wd.alloc (.cells #[.slice (some ⟨g1, 0, none⟩) 64 64, .slice A1 l1.length c1] 22)) := below_alloc (Below.refl _ _) _
        obtain ⟨gl, hgl⟩ : ∃ g, wd.heap.size = g := ⟨_, rfl⟩
        rw [hgl] at hl_ ⊢
        have k1_ := blk_below K1.out hbl_
        have k2_ := blk_below K2.out hbl_
        have hb_ := below_step HBd.out hbl_
        have r1_ := Kd.C_below (Kd.C_below HR1.out HBd.out) hbl_
        generalize wd.alloc (.cells #[.slice (some ⟨g1, 0, none⟩) 64 64, .slice A1 l1.length c1] 22) = we at hl_ k1_ k2_ hb_ r1_ ⊢
        have KL := Aside0.mk (C_rows2 we gl (some ⟨g1, 0, none⟩) 64 (padX l0 54) A1 c1 l1 _ (by rw [padX_len l0 54 hk64]; exact hl_) (C_block we g1 _ _ k1_ (by rw [padX_len l0 54 hk64]; omega) _ rfl) (by rw [padX_len l0 54 hk64]; omega) r1_ HC1.out)
        have K1 := Aside0.mk k1_
        have K2 := Aside0.mk k2_
        have HBe := Aside0.mk hb_
        clear hl_ hbl_ k1_ k2_ hb_ r1_ hgl HBd
        refine last_ (i := 6) (N := some 42) #[true, true, true, true, true, true, true, false, false, false, false, false] rfl rfl (by kernel_rfl) (by decide) (fun K hK => ?_)
        have he_ := fun w => enters_ (P := Try.prog) Try.func180 (by kernel_rfl) rfl #[.slice (some ⟨gl, 0, none⟩) 2 2] w
        refine call_ 180 #[.slice (some ⟨gl, 0, none⟩) 2 2] (by rfl) rfl ?_ ?_
        · unfold execOp
          simp [resolve, Deferred.ofValue, invoke, Act.eval, he_]
        clear he_
        refine (slices_Concat.calls (some ⟨gl, 0, none⟩) 2 [padX l0 54, l1] (padX l0 54 ++ l1) we KL.out (Nat.le_refl _) (by simp) (by unfold slices_Concat.f sumLen; rw [if_pos (by simp [padX_len l0 54 hk64]; have := HSZ.out; omega)]; simp)).mono ?_
        rintro e wf ⟨vf, rfl, ho, hb⟩
        have HBf := Aside0.mk (below_step HBe.out hb)
        have k2_ := Aside0.mk (blk_below K2.out hb)
        obtain ⟨Af, cf, rfl, hcf, hCf⟩ := Kd.R_reads ho
        have RF := Aside0.mk hCf
        have CF := Aside0.mk hcf
        clear ho hb KL K1 K2 HBe hCf hcf
        have K2 := k2_
        clear k2_
        refine ⟨_, rfl, hK.out _ _ ?_⟩
        clear hK K
        refine norm_ (a' := ?_) ?_ ?_
        rotate_left
        · show Act.put _ (some 42) _ = _
          simp only [Act.put, List.setIfInBounds_toArray, List.set_cons_zero, List.set_cons_succ, i64_w, i32_w]
          rfl
        refine last_ (i := 7) (N := some 43) #[true, true, true, true, true, true, true, true, false, false, false, false] rfl rfl (by kernel_rfl) (by decide) (fun K hK => ?_)
        have he_ := fun w => enters_ (P := Try.prog) Try.func32 (by kernel_rfl) rfl #[.slice Af (padX l0 54 ++ l1).length cf] w
        refine call_ 32 #[.slice Af (padX l0 54 ++ l1).length cf] (by rfl) rfl ?_ ?_
        · unfold execOp
          simp [resolve, Deferred.ofValue, invoke, Act.eval, he_]
        clear he_
        refine (digest_Sha256.calls Af cf (padX l0 54 ++ l1) (sha256 (padX l0 54 ++ l1)) wf RF.out CF.out (by unfold digest_Sha256.f; rw [if_pos (show okB (padX l0 54 ++ l1) from ⟨by simp only [List.length_append, padX_len l0 54 hk64]; have := HSZ.out; omega, fun x hx => by rcases List.mem_append.1 hx with hx | hx; exact padX_bd _ _ x hx; exact HB1.out.2 x hx⟩)])).mono ?_
        rintro e wg ⟨vg, rfl, ho, hb⟩
        have HBg := Aside0.mk (below_step HBf.out hb)
        have k2_ := Aside0.mk (blk_below K2.out hb)
        have hS := Aside0.mk (sha256_len' (padX l0 54 ++ l1))
        have hSB := Aside0.mk (sha256_bd (padX l0 54 ++ l1))
        obtain ⟨SH, hSH⟩ : ∃ X, sha256 (padX l0 54 ++ l1) = X := ⟨_, rfl⟩
        rw [hSH] at ho hS hSB HM2
        obtain ⟨Ag, cg, rfl, hcg, hCg⟩ := Kd.R_reads ho
        have RG := Aside0.mk hCg
        have CG := Aside0.mk hcg
        clear ho hb RF CF K2 HBf hCg hcg hSH
        have K2 := k2_
        clear k2_
        refine ⟨_, rfl, hK.out _ _ ?_⟩
        clear hK K
        refine norm_ (a' := ?_) ?_ ?_
        rotate_left
        · show Act.put _ (some 43) _ = _
          simp only [Act.put, List.setIfInBounds_toArray, List.set_cons_zero, List.set_cons_succ, i64_w, i32_w]
          rfl
        refine last_ (i := 8) (N := some 44) #[true, true, true, true, true, true, true, true, true, false, false, false] rfl rfl (by kernel_rfl) (by decide) (fun K hK => ?_)
        refine value_ (w1 := wg.alloc (.cells #[.slice (some ⟨g2, 0, none⟩) 64 64, .slice Ag SH.length cg] 22)) (v := .slice (some ⟨wg.heap.size, 0, none⟩) 2 2) (by rfl) rfl ?_ ?_
        · go_simp
          try rfl
        refine hK.out _ _ ?_
        clear hK K
        refine norm_ (a' := ?_) ?_ ?_
        rotate_left
        · show Act.put _ (some 44) _ = _
          simp only [Act.put, List.setIfInBounds_toArray, List.set_cons_zero, List.set_cons_succ, i64_w, i32_w]
          rfl
        have hl_ := blk_new wg (.cells #[.slice (some ⟨g2, 0, none⟩) 64 64, .slice Ag SH.length cg] 22)
        have hbl_ : Below wg.heap.size wg (wg.alloc (.cells #[.slice (some ⟨g2, 0, none⟩) 64 64, .slice Ag SH.length cg] 22)) := below_alloc (Below.refl _ _) _
        obtain ⟨gm, hgm⟩ : ∃ g, wg.heap.size = g := ⟨_, rfl⟩
        rw [hgm] at hl_ ⊢
        have k2_ := blk_below K2.out hbl_
        have hb_ := below_step HBg.out hbl_
        have r1_ := Kd.C_below RG.out hbl_
        generalize wg.alloc (.cells #[.slice (some ⟨g2, 0, none⟩) 64 64, .slice Ag SH.length cg] 22) = wh at hl_ k2_ hb_ r1_ ⊢
        have KL := Aside0.mk (C_rows2 wh gm (some ⟨g2, 0, none⟩) 64 (padX l0 92) Ag cg SH _ (by rw [padX_len l0 92 hk64]; exact hl_) (C_block wh g2 _ _ k2_ (by rw [padX_len l0 92 hk64]; omega) _ rfl) (by rw [padX_len l0 92 hk64]; omega) r1_ CG.out)
        have HBh := Aside0.mk hb_
        clear hl_ hbl_ k2_ hb_ r1_ hgm HBg K2 RG CG
        refine last_ (i := 9) (N := some 45) #[true, true, true, true, true, true, true, true, true, true, false, false] rfl rfl (by kernel_rfl) (by decide) (fun K hK => ?_)
        have he_ := fun w => enters_ (P := Try.prog) Try.func180 (by kernel_rfl) rfl #[.slice (some ⟨gm, 0, none⟩) 2 2] w
        refine call_ 180 #[.slice (some ⟨gm, 0, none⟩) 2 2] (by rfl) rfl ?_ ?_
        · unfold execOp
          simp [resolve, Deferred.ofValue, invoke, Act.eval, he_]
        clear he_
        refine (slices_Concat.calls (some ⟨gm, 0, none⟩) 2 [padX l0 92, SH] (padX l0 92 ++ SH) wh KL.out (Nat.le_refl _) (by simp) (by unfold slices_Concat.f sumLen; rw [if_pos (by simp [padX_len l0 92 hk64, hS.out])]; simp)).mono ?_
        rintro e wi ⟨vi, rfl, ho, hb⟩
        have HBi := Aside0.mk (below_step HBh.out hb)
        obtain ⟨Ai, ci, rfl, hci, hCi⟩ := Kd.R_reads ho
        have RI := Aside0.mk hCi
        have CI := Aside0.mk hci
        clear ho hb KL HBh hCi hci
        refine ⟨_, rfl, hK.out _ _ ?_⟩
        clear hK K
        refine norm_ (a' := ?_) ?_ ?_
        rotate_left
        · show Act.put _ (some 45) _ = _
          simp only [Act.put, List.setIfInBounds_toArray, List.set_cons_zero, List.set_cons_succ, i64_w, i32_w]
          rfl
        refine last_ (i := 10) (N := some 46) #[true, true, true, true, true, true, true, true, true, true, true, false] rfl rfl (by kernel_rfl) (by decide) (fun K hK => ?_)
        have he_ := fun w => enters_ (P := Try.prog) Try.func32 (by kernel_rfl) rfl #[.slice Ai (padX l0 92 ++ SH).length ci] w
        refine call_ 32 #[.slice Ai (padX l0 92 ++ SH).length ci] (by rfl) rfl ?_ ?_
        · unfold execOp
          simp [resolve, Deferred.ofValue, invoke, Act.eval, he_]
        clear he_
        refine (digest_Sha256.calls Ai ci (padX l0 92 ++ SH) (sha256 (padX l0 92 ++ SH)) wi RI.out CI.out (by unfold digest_Sha256.f; rw [if_pos (show okB (padX l0 92 ++ SH) from ⟨by simp only [List.length_append, padX_len l0 92 hk64, hS.out]; omega, fun x hx => by rcases List.mem_append.1 hx with hx | hx; exact padX_bd _ _ x hx; exact hSB.out x hx⟩ )])).mono ?_
        rintro e wj ⟨vj, rfl, ho, hb⟩
        have HBj := Aside0.mk (below_step HBi.out hb)
        have RJ := Aside0.mk (Kd.R_lower ho HBi.out.size)
        rw [← HM2.out] at RJ
        clear ho hb RI CI HBi
        refine ⟨_, rfl, hK.out _ _ ?_⟩
        clear hK K
        refine norm_ (a' := ?_) ?_ ?_
        rotate_left
        · show Act.put _ (some 46) _ = _
          simp only [Act.put, List.setIfInBounds_toArray, List.set_cons_zero, List.set_cons_succ, i64_w, i32_w]
          rfl
        refine last_ (i := 11) (N := some 6) #[true, true, true, true, true, true, true, true, true, true, true, true] rfl rfl (by kernel_rfl) (by decide) (fun K hK => ?_)
        refine value_ (w1 := ?_) (v := ?_) (by rfl) rfl ?_ ?_
        rotate_left 2
        · go_simp
          constructor
          · rfl
          · rfl
        refine hK.out _ _ ?_
        clear hK K
        refine norm_ (a' := ?_) ?_ ?_
        rotate_left
        · show Act.put _ (some 6) _ = _
          simp only [Act.put, List.setIfInBounds_toArray, List.set_cons_zero, List.set_cons_succ, i64_w, i32_w]
          rfl
        refine done_ (by kernel_rfl) ?_
        go_wp2
        go_ret
        exact ⟨_, rfl, RJ.out, HBj.out⟩

theorem hmac256_any (A0 : Option Addr) (c0 : Nat) (l0 : List Int) (A1 : Option Addr) (c1 : Nat) (l1 : List Int) (w : World) (hr0 : Kd.C (Kd.int .u8) w A0 l0.length l0) (hc0 : l0.length ≤ c0) (hb0 : okB l0) (hr1 : Kd.C (Kd.int .u8) w A1 l1.length l1) (hc1 : l1.length ≤ c1) (hb1 : okB l1) (hsz : l1.length ≤ 140737488355200) :
    Calls Try.prog 40 #[.slice A0 l0.length c0, .slice A1 l1.length c1] w fun e w' => ∃ v0_ : Value, e = .returned v0_ ∧ Kd.R (Kd.int .u8) 5 w' w.heap.size (fun _ => True) v0_ (hmacL sha256 l0 l1) ∧ Below w.heap.size w w' := by
  have H := Aside0.mk (mac256_any A0 c0 l0 A1 c1 l1 w hr0 hc0 hb0 hr1 hc1 hb1 hsz)
  clear hr0 hc0 hb0 hr1 hc1 hb1 hsz
  go_enter Try.func40, Try.ntmps40
  go_wp2_with (go_at_call 128; refine H.out.mono ?_; rintro e w1 ⟨v, rfl, ho, hb⟩; have HO := Aside0.mk ho; have HB := Aside0.mk hb; clear ho hb)
  go_ret
  exact ⟨_, rfl, HO.out, HB.out⟩
end Go.Proofs.Ytlnpmodhejakiaa.D
