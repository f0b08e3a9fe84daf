/- The laws DigestHmac1, DigestHmac256: their functions. -/
import Derived.Test.YtlnpmodhejakiaaHmR
namespace Go.Proofs.Ytlnpmodhejakiaa.PH
open Go.RowKit Go.Proofs.YtlnpmodhejakiaaW.PrintWords Go.Proofs.YtlnpmodhejakiaaW.PrintLast Go.Proofs.YtlnpmodhejakiaaW.PrintMore Go.Proofs.Ytlnpmodhejakiaa.Sha Go.Proofs.Ytlnpmodhejakiaa.D
set_option linter.unusedVariables false
set_option linter.unusedSimpArgs false
def stelelaw01_DigestHmac1.f (l0 : List Int) (l1 : List Int) : Option Bool := if okB l0 ∧ okB l1 then some true else none
set_option maxHeartbeats 16000000 in
set_option maxRecDepth 100000 in
theorem stelelaw01_DigestHmac1.calls (A0 : Option Addr) (c0 : Nat) (l0 : List Int) (A1 : Option Addr) (c1 : Nat) (l1 : List Int) (r : Bool) (w : World) (hr0 : Kd.C (Kd.int .u8) w A0 l0.length l0) (hc0 : l0.length ≤ c0) (hr1 : Kd.C (Kd.int .u8) w A1 l1.length l1) (hc1 : l1.length ≤ c1) (h : stelelaw01_DigestHmac1.f l0 l1 = some r) :
    Calls Try.prog 6 #[.slice A0 l0.length c0, .slice A1 l1.length c1] w fun e w' => e = .returned (.bool r) ∧ Below w.heap.size w w' := by
  unfold stelelaw01_DigestHmac1.f at h
  by_cases hh : okB l0 ∧ okB l1
  · rw [if_pos hh] at h
    obtain rfl := Option.some.inj h
    clear h
    have HR0 := Aside0.mk hr0
    have HC0 := Aside0.mk hc0
    have HR1 := Aside0.mk hr1
    have HC1 := Aside0.mk hc1
    have HK := Aside0.mk hh
    have hl := Aside0.mk (light_two l0 l1 hh.1.1 hh.2.1)
    have hsl := sha1_len' 
    have hs := Aside0.mk (same_self (hmacL sha1 l0 l1) (by unfold hmacL; rw [sha1_len']; omega))
    clear hr0 hc0 hr1 hc1 hh hsl
    by_cases hlt : l0.length + l1.length ≤ 200000
    · have hld := Aside0.mk (show PG.stelelaw01_light.f 4 [l0, l1] = some true by rw [hl.out, decide_eq_true hlt])
      have M1 := Aside0.mk (fun W (hb : Below w.heap.size w W) => hmac1_any A0 c0 l0 A1 c1 l1 W (Kd.C_below HR0.out hb) HC0.out HK.out.1 (Kd.C_below HR1.out hb) HC1.out HK.out.2 (by omega))
      have M2 := Aside0.mk (fun W (hb : Below w.heap.size w W) => refHmac1_any A0 c0 l0 A1 c1 l1 W (Kd.C_below HR0.out hb) HC0.out ⟨by omega, HK.out.1.2⟩ (Kd.C_below HR1.out hb) HC1.out ⟨by omega, HK.out.2.2⟩ (by omega))
      clear hl
      obtain ⟨SH, hSH⟩ : ∃ l, hmacL sha1 l0 l1 = l := ⟨_, rfl⟩
      rw [hSH] at hs M1 M2
      clear hSH
      go_enter Try.func6, Try.ntmps6
      go_wp2_with (first
        | ((with_reducible refine gate_dst (N := 7) rfl ?_); refine lit_event rfl (N := 7) rfl (cs := #[.slice A0 l0.length c0, .slice A1 l1.length c1]) (t := 22) (n := 2) ?hr ?_; (case hr => first | (go_simp; done) | (go_simp; rfl)); intro g1 hg1 w1 hbox hBl; have HB1 := Aside0.mk hBl; have K1 := Aside0.mk (C_rows2 w1 g1 A0 c0 l0 A1 c1 l1 _ hbox (Kd.C_below HR0.out hBl) HC0.out (Kd.C_below HR1.out hBl) HC1.out); clear hg1 hbox hBl)
        | (go_at_call 28; refine (PG.stelelaw01_light.calls 4 (some ⟨g1, 0, none⟩) 2 [l0, l1] true w1 K1.out (Nat.le_refl _) hld.out).mono ?_; rintro e w2 ⟨rfl, hd⟩; have HB2 := Aside0.mk (below_step HB1.out hd.below); clear hd)
        | (go_at_call 38; refine (M1.out _ HB2.out).mono ?_; rintro e w3 ⟨v9, rfl, ho, hb⟩; have R9 := Aside0.mk ho; have HB3 := Aside0.mk (below_step HB2.out hb); clear ho hb)
        | (go_at_call 39; refine (M2.out _ HB3.out).mono ?_; rintro e w4 ⟨v11, rfl, ho, hb⟩; have R11 := Aside0.mk ho; have R9' := Aside0.mk (Kd.R_below R9.out hb); have HB4 := Aside0.mk (below_step HB3.out hb); obtain ⟨A9, c9, e9, hc9, C9⟩ := Kd.R_reads R9'.out; obtain ⟨A11, c11, e11, hc11, C11⟩ := Kd.R_reads R11.out; subst e9 e11; clear ho hb)
        | (go_at_call 29; refine (PG.steleref01_Same.calls (SH.length + 1) A9 c9 SH A11 c11 SH true w4 C9 hc9 C11 hc11 hs.out).mono ?_; rintro e w5 ⟨rfl, hd⟩; have HB5 := Aside0.mk (below_step HB4.out hd.below); clear hd))
      go_ret
      exact ⟨rfl, HB5.out⟩
    · have hld := Aside0.mk (show PG.stelelaw01_light.f 4 [l0, l1] = some false by rw [hl.out, decide_eq_false hlt])
      clear hl
      go_enter Try.func6, Try.ntmps6
      go_wp2_with (first
        | ((with_reducible refine gate_dst (N := 7) rfl ?_); refine lit_event rfl (N := 7) rfl (cs := #[.slice A0 l0.length c0, .slice A1 l1.length c1]) (t := 22) (n := 2) ?hr ?_; (case hr => first | (go_simp; done) | (go_simp; rfl)); intro g1 hg1 w1 hbox hBl; have HB1 := Aside0.mk hBl; have K1 := Aside0.mk (C_rows2 w1 g1 A0 c0 l0 A1 c1 l1 _ hbox (Kd.C_below HR0.out hBl) HC0.out (Kd.C_below HR1.out hBl) HC1.out); clear hg1 hbox hBl)
        | (go_at_call 28; refine (PG.stelelaw01_light.calls 4 (some ⟨g1, 0, none⟩) 2 [l0, l1] false w1 K1.out (Nat.le_refl _) hld.out).mono ?_; rintro e w2 ⟨rfl, hd⟩; have HB2 := Aside0.mk (below_step HB1.out hd.below); clear hd))
      go_ret
      exact ⟨rfl, HB2.out⟩
  · rw [if_neg hh] at h
    cases h
def stelelaw01_DigestHmac256.f (l0 : List Int) (l1 : List Int) : Option Bool := if okB l0 ∧ okB l1 then some true else none
set_option maxHeartbeats 16000000 in
set_option maxRecDepth 100000 in
theorem stelelaw01_DigestHmac256.calls (A0 : Option Addr) (c0 : Nat) (l0 : List Int) (A1 : Option Addr) (c1 : Nat) (l1 : List Int) (r : Bool) (w : World) (hr0 : Kd.C (Kd.int .u8) w A0 l0.length l0) (hc0 : l0.length ≤ c0) (hr1 : Kd.C (Kd.int .u8) w A1 l1.length l1) (hc1 : l1.length ≤ c1) (h : stelelaw01_DigestHmac256.f l0 l1 = some r) :
    Calls Try.prog 7 #[.slice A0 l0.length c0, .slice A1 l1.length c1] w fun e w' => e = .returned (.bool r) ∧ Below w.heap.size w w' := by
  unfold stelelaw01_DigestHmac256.f at h
  by_cases hh : okB l0 ∧ okB l1
  · rw [if_pos hh] at h
    obtain rfl := Option.some.inj h
    clear h
    have HR0 := Aside0.mk hr0
    have HC0 := Aside0.mk hc0
    have HR1 := Aside0.mk hr1
    have HC1 := Aside0.mk hc1
    have HK := Aside0.mk hh
    have hl := Aside0.mk (light_two l0 l1 hh.1.1 hh.2.1)
    have hsl := sha256_len' 
    have hs := Aside0.mk (same_self (hmacL sha256 l0 l1) (by unfold hmacL; rw [sha256_len']; omega))
    clear hr0 hc0 hr1 hc1 hh hsl
    by_cases hlt : l0.length + l1.length ≤ 200000
    · have hld := Aside0.mk (show PG.stelelaw01_light.f 4 [l0, l1] = some true by rw [hl.out, decide_eq_true hlt])
      have M1 := Aside0.mk (fun W (hb : Below w.heap.size w W) => hmac256_any A0 c0 l0 A1 c1 l1 W (Kd.C_below HR0.out hb) HC0.out HK.out.1 (Kd.C_below HR1.out hb) HC1.out HK.out.2 (by omega))
      have M2 := Aside0.mk (fun W (hb : Below w.heap.size w W) => refHmac256_any A0 c0 l0 A1 c1 l1 W (Kd.C_below HR0.out hb) HC0.out ⟨by omega, HK.out.1.2⟩ (Kd.C_below HR1.out hb) HC1.out ⟨by omega, HK.out.2.2⟩ (by omega))
      clear hl
      obtain ⟨SH, hSH⟩ : ∃ l, hmacL sha256 l0 l1 = l := ⟨_, rfl⟩
      rw [hSH] at hs M1 M2
      clear hSH
      go_enter Try.func7, Try.ntmps7
      go_wp2_with (first
        | ((with_reducible refine gate_dst (N := 7) rfl ?_); refine lit_event rfl (N := 7) rfl (cs := #[.slice A0 l0.length c0, .slice A1 l1.length c1]) (t := 22) (n := 2) ?hr ?_; (case hr => first | (go_simp; done) | (go_simp; rfl)); intro g1 hg1 w1 hbox hBl; have HB1 := Aside0.mk hBl; have K1 := Aside0.mk (C_rows2 w1 g1 A0 c0 l0 A1 c1 l1 _ hbox (Kd.C_below HR0.out hBl) HC0.out (Kd.C_below HR1.out hBl) HC1.out); clear hg1 hbox hBl)
        | (go_at_call 28; refine (PG.stelelaw01_light.calls 4 (some ⟨g1, 0, none⟩) 2 [l0, l1] true w1 K1.out (Nat.le_refl _) hld.out).mono ?_; rintro e w2 ⟨rfl, hd⟩; have HB2 := Aside0.mk (below_step HB1.out hd.below); clear hd)
        | (go_at_call 40; refine (M1.out _ HB2.out).mono ?_; rintro e w3 ⟨v9, rfl, ho, hb⟩; have R9 := Aside0.mk ho; have HB3 := Aside0.mk (below_step HB2.out hb); clear ho hb)
        | (go_at_call 41; refine (M2.out _ HB3.out).mono ?_; rintro e w4 ⟨v11, rfl, ho, hb⟩; have R11 := Aside0.mk ho; have R9' := Aside0.mk (Kd.R_below R9.out hb); have HB4 := Aside0.mk (below_step HB3.out hb); obtain ⟨A9, c9, e9, hc9, C9⟩ := Kd.R_reads R9'.out; obtain ⟨A11, c11, e11, hc11, C11⟩ := Kd.R_reads R11.out; subst e9 e11; clear ho hb)
        | (go_at_call 29; refine (PG.steleref01_Same.calls (SH.length + 1) A9 c9 SH A11 c11 SH true w4 C9 hc9 C11 hc11 hs.out).mono ?_; rintro e w5 ⟨rfl, hd⟩; have HB5 := Aside0.mk (below_step HB4.out hd.below); clear hd))
      go_ret
      exact ⟨rfl, HB5.out⟩
    · have hld := Aside0.mk (show PG.stelelaw01_light.f 4 [l0, l1] = some false by rw [hl.out, decide_eq_false hlt])
      clear hl
      go_enter Try.func7, Try.ntmps7
      go_wp2_with (first
        | ((with_reducible refine gate_dst (N := 7) rfl ?_); refine lit_event rfl (N := 7) rfl (cs := #[.slice A0 l0.length c0, .slice A1 l1.length c1]) (t := 22) (n := 2) ?hr ?_; (case hr => first | (go_simp; done) | (go_simp; rfl)); intro g1 hg1 w1 hbox hBl; have HB1 := Aside0.mk hBl; have K1 := Aside0.mk (C_rows2 w1 g1 A0 c0 l0 A1 c1 l1 _ hbox (Kd.C_below HR0.out hBl) HC0.out (Kd.C_below HR1.out hBl) HC1.out); clear hg1 hbox hBl)
        | (go_at_call 28; refine (PG.stelelaw01_light.calls 4 (some ⟨g1, 0, none⟩) 2 [l0, l1] false w1 K1.out (Nat.le_refl _) hld.out).mono ?_; rintro e w2 ⟨rfl, hd⟩; have HB2 := Aside0.mk (below_step HB1.out hd.below); clear hd))
      go_ret
      exact ⟨rfl, HB2.out⟩
  · rw [if_neg hh] at h
    cases h
end Go.Proofs.Ytlnpmodhejakiaa.PH
