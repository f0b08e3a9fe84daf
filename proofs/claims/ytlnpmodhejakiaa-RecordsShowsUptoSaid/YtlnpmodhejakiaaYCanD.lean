/- canon.Reader: Uint, some, Bytes, Bool, List, Left, Done. -/
import Derived.Test.YtlnpmodhejakiaaYCanC
namespace Go.Proofs.Ytlnpmodhejakiaa.D
open Go.RowKit Go.Proofs.YtlnpmodhejakiaaW.PrintWords Go.Proofs.YtlnpmodhejakiaaW.PrintLast Go.Proofs.YtlnpmodhejakiaaW.PrintMore
set_option linter.unusedVariables false
set_option linter.unusedSimpArgs false
def headV (l : List Int) (bad : Bool) (sign : Int) (many : Nat) : Option Int := if bad = true ∨ l.length ≤ many ∨ l.getD 0 0 ≠ sign then none else some (numBE ((l.drop 1).take many))
def okL (l : List Int) : Prop := l.length ≤ 140737488355328 ∧ ∀ x ∈ l, 0 ≤ x ∧ x ≤ 255
theorem okL_drop {l : List Int} (h : okL l) (m : Nat) : okL (l.drop m) := ⟨by rw [List.length_drop]; have := h.1; omega, fun x hx => h.2 x (List.mem_of_mem_drop hx)⟩
theorem headV_bd {l : List Int} {bad : Bool} {sign : Int} {many : Nat} {n : Int} (h : okL l) (hv : headV l bad sign many = some n) : bad = false ∧ many < l.length ∧ l.getD 0 0 = sign ∧ n = numBE ((l.drop 1).take many) ∧ 0 ≤ n ∧ n < 256 ^ many := by
  unfold headV at hv
  split at hv
  · cases hv
  · rename_i hh
    have e := (Option.some.inj hv).symm
    have h1 : bad = false := by cases bad <;> simp_all
    have h2 : many < l.length := by simp at hh; omega
    have h3 : l.getD 0 0 = sign := by
      rcases Classical.em (l.getD 0 0 = sign) with h | h
      · exact h
      · exact absurd (Or.inr (Or.inr h)) hh
    have h4 := numBE_bd ((l.drop 1).take many) (fun x hx => h.2 x (List.mem_of_mem_drop (List.mem_of_mem_take hx)))
    have h5 : ((l.drop 1).take many).length = many := by rw [List.length_take, List.length_drop]; omega
    rw [h5] at h4
    exact ⟨h1, h2, h3, e, by rw [e]; exact h4.1, by rw [e]; exact h4.2⟩
theorem IsR.lt {g : Nat} {w : World} {l : List Int} {bad : Bool} (h : IsR g w l bad) : g < w.heap.size := by
  obtain ⟨A, c, h1, _⟩ := h
  exact blk_lt h1
theorem head_any (g : Nat) (l : List Int) (bad : Bool) (sign : Int) (many : Nat) (w : World) (h : IsR g w l bad) (ho : okL l) (hm1 : 1 ≤ many) (hm8 : many ≤ 8) :
    Calls Try.prog 134 #[.pointer (some ⟨g, 0, none⟩), .int .u8 sign, .int .i64 (many : Int)] w fun e w' => e = .returned (.tuple #[.int .u64 ((headV l bad sign many).getD 0), .bool (headV l bad sign many).isSome]) ∧ IsR g w' l (headV l bad sign many).isNone ∧ Wr w.heap.size g w w' := by
  unfold headV
  by_cases hb : bad = true
  · subst hb
    rw [if_pos (Or.inl rfl)]
    exact (head_bad g l sign many w h).mono fun e w' ⟨he, hw⟩ => by subst hw; exact ⟨he, h, Wr.refl _ _ _⟩
  · have hb' : bad = false := by simpa using hb
    subst hb'
    by_cases hno : l.length ≤ many ∨ l.getD 0 0 ≠ sign
    · rw [if_pos (Or.inr hno)]
      exact head_no g l sign many w h hno
    · rw [if_neg (by rintro (h | h); exact hb h; exact hno h)]
      have h1 : many < l.length := by
        rcases Nat.lt_or_ge many l.length with h | h
        · exact h
        · exact absurd (Or.inl h) hno
      have h2 : l.getD 0 0 = sign := by
        rcases Classical.em (l.getD 0 0 = sign) with h | h
        · exact h
        · exact absurd (Or.inr h) hno
      exact (head_yes g l sign many w h h1 h2 ho.2 ho.1 hm1 hm8).mono fun e w' ⟨he, hw⟩ => by subst hw; exact ⟨he, h, Wr.refl _ _ _⟩
theorem head_none {g : Nat} {l : List Int} {bad : Bool} {sign : Int} {many : Nat} (w : World) (h : IsR g w l bad) (ho : okL l) (hm1 : 1 ≤ many) (hm8 : many ≤ 8) (hv : headV l bad sign many = none) (mI : Int) (hmI : mI = (many : Int)) :
    Calls Try.prog 134 #[.pointer (some ⟨g, 0, none⟩), .int .u8 sign, .int .i64 mI] w fun e w' => e = .returned (.tuple #[.int .u64 0, .bool false]) ∧ IsR g w' l true ∧ Wr w.heap.size g w w' := by
  subst hmI
  have := head_any g l bad sign many w h ho hm1 hm8
  rw [hv] at this
  exact this
theorem head_some {g : Nat} {l : List Int} {bad : Bool} {sign : Int} {many : Nat} {n : Int} (w : World) (h : IsR g w l bad) (ho : okL l) (hm1 : 1 ≤ many) (hm8 : many ≤ 8) (hv : headV l bad sign many = some n) (mI : Int) (hmI : mI = (many : Int)) :
    Calls Try.prog 134 #[.pointer (some ⟨g, 0, none⟩), .int .u8 sign, .int .i64 mI] w fun e w' => e = .returned (.tuple #[.int .u64 n, .bool true]) ∧ IsR g w' l false ∧ Wr w.heap.size g w w' := by
  subst hmI
  have := head_any g l bad sign many w h ho hm1 hm8
  rw [hv] at this
  exact this
theorem IsR_cut {g : Nat} {w : World} {l : List Int} {A : Option Addr} {c : Nat} (bad : Bool) (h1 : w.heap[g]? = some (.cells #[.slice A l.length c, .int .u32 (if bad = true then 1 else 0)] 158 (0, 0))) (h2 : Kd.C (Kd.int .u8) w A l.length l) (h3 : l.length ≤ c)
    (h4 : 0 < l.length → ∀ ad, A = some ad → ad.block ≠ g) (m : Nat) (hm : m ≤ l.length) (A' : Option Addr) (n c' : Nat) (hA : A' = if c = m then A else A.map (·.add m)) (hn : n = l.length - m) (hc' : c' = c - m) : IsR g (w.setCell ⟨g, 0, none⟩ (.slice A' n c')) (l.drop m) bad := by
  subst hn hc'
  have hW : Wr w.heap.size g w (w.setCell ⟨g, 0, none⟩ (.slice A' (l.length - m) (c - m))) := (Wr.refl _ _ _).setCell 0 _
  have hC := Kd.C_drop (m := m) h2 hm h3
  rw [show m * (Kd.int .u8).sz = m from Nat.mul_one m, ← hA] at hC
  have hne : 0 < (l.drop m).length → ∀ ad, A' = some ad → ad.block ≠ g := by
    intro h0 ad he
    rw [List.length_drop] at h0
    subst hA
    split at he
    · exact h4 (by omega) ad he
    · cases A with
      | none => cases he
      | some a =>
        cases he
        have := h4 (by omega) a rfl
        have hb : (a.add m).block = a.block := by unfold Addr.add; split <;> rfl
        rw [hb]; exact this
  refine ⟨A', c - m, ?_, C_wr' hC hW hne, by rw [List.length_drop]; omega, hne⟩
  rw [List.length_drop]
  exact blk_put (cs' := #[.slice A' (l.length - m) (c - m), .int .u32 (if bad = true then 1 else 0)]) h1 0 _ rfl
def uintS (l : List Int) (bad : Bool) : Int × List Int × Bool := match headV l bad 117 8 with
  | none => (0, l, true)
  | some n => (n, l.drop 9, false)
theorem add_pos (ad : Addr) (m : Nat) (h : 0 < m) : ad.add m = ⟨ad.block, ad.off + m, none⟩ := by unfold Addr.add; split <;> simp_all
set_option maxHeartbeats 4000000 in
set_option maxRecDepth 100000 in
theorem uint_any (g : Nat) (l : List Int) (bad : Bool) (w : World) (h : IsR g w l bad) (ho : okL l) :
    Calls Try.prog 57 #[.pointer (some ⟨g, 0, none⟩)] w fun e w' => e = .returned (.int .u64 (uintS l bad).1) ∧ IsR g w' (uintS l bad).2.1 (uintS l bad).2.2 ∧ Wr w.heap.size g w w' := by
  unfold uintS
  cases hv : headV l bad 117 8 with
  | none =>
    have HH := Aside0.mk (head_none w h ho (by omega) (by omega) hv 8 rfl)
    clear h hv
    go_enter Try.func57, Try.ntmps57
    go_wp2_with (go_at_call 134; (with_reducible refine HH.out.mono ?_); rintro e w1 ⟨rfl, hi, hW⟩; have HI := Aside0.mk hi; have HW := Aside0.mk hW; clear hi hW)
    go_ret
    exact ⟨rfl, HI.out, HW.out⟩
  | some n =>
    obtain ⟨-, hlen, -, -, hn0, hn1⟩ := headV_bd ho hv
    have HH := Aside0.mk (head_some w h ho (by omega) (by omega) hv 8 rfl)
    have HO := Aside0.mk ho
    clear h hv ho
    go_enter Try.func57, Try.ntmps57
    go_wp2_with (go_at_call 134; (with_reducible refine HH.out.mono ?_); rintro e w1 ⟨rfl, hi, hW⟩; obtain ⟨A, c, k1, k2, k3, k4⟩ := hi; obtain ⟨ad, rfl, _⟩ := C_at k2 0 (by omega); have K1 := Aside0.mk k1; have K2 := Aside0.mk k2; have K4 := Aside0.mk k4; have c0 := blk_cell k1 0; have f0 := blk_frozen k1 0; replace c0 : w1.cell? ⟨g, 0, none⟩ = some (.slice (some ad) l.length c) := c0; have HW := Aside0.mk hW; clear hW k1 k2 k4; have h9 : (9 : Int) ≤ (l.length : Int) := by omega)
    all_goals
      go_ret
      refine ⟨rfl, IsR_cut false K1.out K2.out k3 K4.out 9 (by omega) _ _ _ ?_ (by first | rfl | omega) (by first | rfl | omega), HW.out.setCell 0 _⟩
      first
      | (rw [if_pos (by omega)])
      | (rw [if_neg (by omega)]; simp only [Option.map_some]; rw [add_pos _ _ (by omega)])
theorem clone_cut (w : World) (A : Option Addr) (l : List Int) (c : Nat) (h2 : Kd.C (Kd.int .u8) w A l.length l) (h3 : l.length ≤ c) (lo m : Nat) (hm : lo + m ≤ l.length) (hl : l.length ≤ 140737488355328) (A' : Option Addr) (n' c' : Nat) (hA : A' = if c = lo then A else A.map (·.add lo)) (hn : n' = m) (hc : c' = c - lo) (hlo : 0 < lo := by omega) :
    Calls Try.prog 133 #[.slice A' n' c'] w fun e w' => ∃ v0_ : Value, e = .returned v0_ ∧ Kd.R (Kd.int .u8) 5 w' w.heap.size (fun _ => True) v0_ ((l.drop lo).take m) ∧ Below w.heap.size w w' := by
  have hC := Kd.C_mid (lo := lo) (hi := lo + m) h2 (by omega) hm h3
  rw [show lo * (Kd.int .u8).sz = lo from Nat.mul_one lo, ← hA] at hC
  have e : (l.take (lo + m)).drop lo = (l.drop lo).take m := by rw [List.drop_take, Nat.add_sub_cancel_left]
  rw [e] at hC
  have hlen : ((l.drop lo).take m).length = n' := by rw [List.length_take, List.length_drop]; omega
  subst hlen
  exact slices_Clone_byte_byte.calls A' c' _ _ w hC (by omega) (by unfold slices_Clone_byte_byte.f; rw [if_pos (by omega)])
theorem cut_from {P : Program} (t e : TypeId) (kl : IntKind) {i : TypeInfo} (ht : P.underlying t = some (.slice e)) (hi : P.info? e = some i) (hsz : i.size = 1) (A : Option Addr) (n c : Nat) (lo : Int) (h0 : 0 ≤ lo) (h1 : lo ≤ n) (hc : n ≤ c) :
    ∀ W : World, (Instr.slice t (.slice A n c) (some (.int kl lo)) none none).run P W = .ok (.slice (if c = lo.toNat then A else A.map (·.add lo.toNat)) (n - lo.toNat) (c - lo.toNat)) W := by
  intro W
  have hel : P.elem t = e := by simp [Program.elem, ht]
  have hu : P.underlying t = some (.slice (P.elem t)) := by rw [hel]; exact ht
  rw [run_slice_l W t A n c hu kl lo h0 h1, hel]
  simp [sizeOf, typeInfo, hi, hsz, sliced, Result.andThen]
theorem infoU8i : ∃ i, Try.prog.info? 5 = some i ∧ i.size = 1 := by
  obtain ⟨i, hi, hz⟩ := Option.map_eq_some_iff.1 infoU8c
  simp only [Prod.mk.injEq] at hz
  exact ⟨i, hi, hz.2.1⟩
def someS (l : List Int) (bad : Bool) (sign : Int) : List Int × List Int × Bool := match headV l bad sign 4 with
  | none => ([], l, true)
  | some n => if (l.length : Int) - 5 < n then ([], l, true) else ((l.drop 5).take n.toNat, l.drop (5 + n.toNat), false)
theorem R_offg {w : World} {base g : Nat} {v : Value} {l : List Int} (h : Kd.R (Kd.int .u8) 5 w base (fun _ => True) v l) (hg : g < base) (i : Nat) (u : Value) : Kd.R (Kd.int .u8) 5 (w.setCell ⟨g, i, none⟩ u) base (fun _ => True) v l :=
  Kd.R_mono (Kd.R_far (Kd.R_bound h) (p := ⟨g, i, none⟩) (fun k hk => by show k ≠ g; have := hk.2.1; omega) u) (fun _ _ => trivial)
set_option maxHeartbeats 4000000 in
set_option maxRecDepth 100000 in
theorem some_any (g : Nat) (l : List Int) (bad : Bool) (sign : Int) (w : World) (h : IsR g w l bad) (ho : okL l) :
    Calls Try.prog 136 #[.pointer (some ⟨g, 0, none⟩), .int .u8 sign] w fun e w' => ∃ v, e = .returned v ∧ Kd.R (Kd.int .u8) 5 w' w.heap.size (fun _ => True) v (someS l bad sign).1 ∧ IsR g w' (someS l bad sign).2.1 (someS l bad sign).2.2 ∧ Wr w.heap.size g w w' := by
  unfold someS
  have hgw := h.lt
  cases hv : headV l bad sign 4 with
  | none =>
    have HH := Aside0.mk (head_none w h ho (by omega) (by omega) hv 4 rfl)
    clear h hv
    go_enter Try.func136, Try.ntmps136
    go_wp2_with (go_at_call 134; (with_reducible refine HH.out.mono ?_); rintro e w1 ⟨rfl, hi, hW⟩; have HI := Aside0.mk hi; have HW := Aside0.mk hW; clear hi hW)
    go_ret
    exact ⟨_, rfl, Kd.R_nil _ _ _ _ _, HI.out, HW.out⟩
  | some n =>
    obtain ⟨-, hlen, -, -, hn0, hn1⟩ := headV_bd ho hv
    have hn2 : n < 4294967296 := by have : (256 : Int) ^ 4 = 4294967296 := by decide
                                    omega
    have hl63 := ho.1
    have HH := Aside0.mk (head_some w h ho (by omega) (by omega) hv 4 rfl)
    have HO := Aside0.mk ho
    clear h hv ho hn1
    by_cases hbig : (l.length : Int) - 5 < n
    · simp only [if_pos hbig]
      go_enter Try.func136, Try.ntmps136
      go_wp2_with (first
        | (go_at_call 134; (with_reducible refine HH.out.mono ?_); rintro e w1 ⟨rfl, hi, hW⟩; have HI := Aside0.mk hi; obtain ⟨A, c, k1, k2, k3, k4⟩ := hi; have K1 := Aside0.mk k1; have K2 := Aside0.mk k2; have K4 := Aside0.mk k4; have c0 := blk_cell k1 0; have HS := Aside0.mk (atomic_break g w1 _ _ _ k1); replace c0 : w1.cell? ⟨g, 0, none⟩ = some (.slice A l.length c) := c0; have HW := Aside0.mk hW; clear hW k1 k2 k4)
        | (go_at_call 139; (with_reducible refine HS.out.mono ?_); rintro e w2 ⟨rfl, hk, hW2⟩; have K := Aside0.mk hk; have HI2 := Aside0.mk (show IsR g w2 l true from ⟨A, c, K.out, C_wr' K2.out hW2 K4.out, k3, K4.out⟩); have HW2 := Aside0.mk (HW.out.trans hW2 HW.out.size); clear hk hW2))
      go_ret
      exact ⟨_, rfl, Kd.R_nil _ _ _ _ _, HI2.out, HW2.out⟩
    · simp only [if_neg hbig]
      obtain ⟨m, rfl⟩ := Int.eq_ofNat_of_zero_le hn0
      have hm5 : 5 + m ≤ l.length := by omega
      rw [Int.toNat_natCast]
      have hlm : ((l.drop 5).take m).length = m := by rw [List.length_take, List.length_drop]; omega
      have HL63 := Aside0.mk hl63
      obtain ⟨ii, hii, hsz⟩ := infoU8i
      have CUT := Aside0.mk (fun (ad : Addr) (c : Nat) (hc : l.length ≤ c) => cut_mid 22 5 .i64 .u64 Try.underlying22 hii 1 hsz (some ad) l.length c 5 (5 + (m : Int)) (by omega) (by omega) (by omega) hc)
      have CUT2 := Aside0.mk (fun (ad : Addr) (c : Nat) (hc : l.length ≤ c) => cut_from 22 5 .u64 Try.underlying22 hii hsz (some ad) l.length c (5 + (m : Int)) (by omega) (by omega) hc)
      have HM5 := Aside0.mk hm5
      clear hlm hn0 hl63 hii hsz
      have hlI : (l.length : Int) ≤ 140737488355328 := by have := HL63.out; omega
      have hd5 : decide ((l.length : Int) - 5 < (m : Int)) = false := decide_eq_false hbig
      clear hbig hm5
      go_enter Try.func136, Try.ntmps136
      go_wp2_with (first
        | (go_at_call 134; (with_reducible refine HH.out.mono ?_); rintro e w1 ⟨rfl, hi, hW⟩; have HI := Aside0.mk hi; obtain ⟨A, c, k1, k2, k3, k4⟩ := hi; obtain ⟨ad, rfl, _⟩ := C_at k2 0 (by omega); have K1 := Aside0.mk k1; have K2 := Aside0.mk k2; have K4 := Aside0.mk k4; have K3 := Aside0.mk k3; have c0 := blk_cell k1 0; replace c0 : w1.cell? ⟨g, 0, none⟩ = some (.slice (some ad) l.length c) := c0; have HW := Aside0.mk hW; have hgw1 := Aside0.mk (blk_lt k1); have HSZ := Aside0.mk HW.out.size; have hcut := CUT.out ad c k3; have hcut2 := CUT2.out ad c k3; obtain ⟨AX, hAX⟩ : ∃ X, (if c = (5 : Int).toNat then some ad else (some ad).map (·.add ((5 : Int).toNat * 1))) = X := ⟨_, rfl⟩; obtain ⟨AY, hAY⟩ : ∃ X, (if c = (5 + (m : Int)).toNat then some ad else (some ad).map (·.add (5 + (m : Int)).toNat)) = X := ⟨_, rfl⟩; obtain ⟨mX, hmX⟩ : ∃ X, (5 + (m : Int)).toNat - (5 : Int).toNat = X := ⟨_, rfl⟩; obtain ⟨nY, hnY⟩ : ∃ X, l.length - (5 + (m : Int)).toNat = X := ⟨_, rfl⟩; obtain ⟨cX, hcX⟩ : ∃ X, c - (5 : Int).toNat = X := ⟨_, rfl⟩; obtain ⟨cY, hcY⟩ : ∃ X, c - (5 + (m : Int)).toNat = X := ⟨_, rfl⟩; rw [hAX, hmX, hcX] at hcut; rw [hAY, hnY, hcY] at hcut2;
            have HCl := Aside0.mk (clone_cut w1 (some ad) l c k2 k3 5 m HM5.out HL63.out AX mX cX (by rw [← hAX]; rfl) (by omega) (by omega) (by omega));
            have HY := Aside0.mk (show AY = if c = 5 + m then some ad else (some ad).map (·.add (5 + m)) by rw [← hAY, show (5 + (m : Int)).toNat = 5 + m by omega]);
            have HnY := Aside0.mk (show nY = l.length - (5 + m) by omega);
            have HcY := Aside0.mk (show cY = c - (5 + m) by omega);
            clear hW k1 k2 k3 k4 hAX hAY hmX hnY hcX hcY)
        | (go_at_call 133; (with_reducible refine HCl.out.mono ?_); rintro e w2 ⟨v, rfl, hr, hb⟩; have R2 := Aside0.mk hr; have K1' := Aside0.mk (blk_below K1.out hb); have K2' := Aside0.mk (Kd.C_below K2.out hb); have HW2 := Aside0.mk (HW.out.trans (Wr.of_below hb g) HW.out.size); have c0' := blk_cell K1'.out 0; have f0' := blk_frozen K1'.out 0; replace c0' : w2.cell? ⟨g, 0, none⟩ = some (.slice (some ad) l.length c) := c0'; clear hr hb c0 HCl K1 K2 HW))
      go_ret
      exact ⟨_, rfl, Kd.R_lower (R_offg R2.out hgw1.out 0 _) HSZ.out, IsR_cut false K1'.out K2'.out K3.out K4.out (5 + m) HM5.out _ _ _ HY.out HnY.out HcY.out, HW2.out.setCell 0 _⟩
end Go.Proofs.Ytlnpmodhejakiaa.D
