/- The law DigestSha1: its function. -/
import Derived.Test.YtlnpmodhejakiaaLawA
import Derived.Test.YtlnpmodhejakiaaRefC
namespace Go.Proofs.Ytlnpmodhejakiaa.PH
open Go.RowKit Go.Proofs.YtlnpmodhejakiaaW.PrintWords Go.Proofs.YtlnpmodhejakiaaW.PrintLast Go.Proofs.YtlnpmodhejakiaaW.PrintMore Go.Proofs.Ytlnpmodhejakiaa.Sha Go.Proofs.Ytlnpmodhejakiaa.D Go.Proofs.Ytlnpmodhejakiaa.PG
set_option linter.unusedVariables false
set_option linter.unusedSimpArgs false
theorem sha1_lenC (l : List Int) : (sha1 l).length = 20 := rfl
def stelelaw01_DigestSha1.f (l0 : List Int) : Option Bool := if okB l0 then some true else none
set_option maxHeartbeats 16000000 in
set_option maxRecDepth 100000 in
theorem stelelaw01_DigestSha1.calls (A0 : Option Addr) (c0 : Nat) (l0 : List Int) (r : Bool) (w : World) (hr0 : Kd.C (Kd.int .u8) w A0 l0.length l0) (hc0 : l0.length ≤ c0) (h : stelelaw01_DigestSha1.f l0 = some r) :
    Calls Try.prog 3 #[.slice A0 l0.length c0] w fun e w' => e = .returned (.bool r) ∧ Below w.heap.size w w' := by
  unfold stelelaw01_DigestSha1.f at h
  by_cases hh : okB l0
  · rw [if_pos hh] at h
    obtain rfl := Option.some.inj h
    clear h
    have HR := Aside0.mk hr0
    have HC := Aside0.mk hc0
    have HK := Aside0.mk hh
    have hl := Aside0.mk (light_one l0 hh.1)
    have hs := Aside0.mk (same_self (sha1 l0) (by rw [sha1_lenC]; omega))
    have hS := Aside0.mk (sha1_lenC l0)
    clear hr0 hc0 hh
    obtain ⟨SH, hSH⟩ : ∃ l, sha1 l0 = l := ⟨_, rfl⟩
    have HSH := Aside0.mk hSH
    rw [hSH] at hs hS
    clear hSH
    by_cases hlt : l0.length ≤ 200000
    · have hld := Aside0.mk (show stelelaw01_light.f 3 [l0] = some true by rw [hl.out, decide_eq_true hlt])
      clear hl
      go_enter Try.func3, Try.ntmps3
      go_wp2_with (first
        | ((with_reducible refine gate_dst (N := 4) rfl ?_); refine lit_event rfl (N := 4) rfl (cs := #[.slice A0 l0.length c0]) (t := 22) (n := 1) ?hr ?_; (case hr => first | (go_simp; done) | (go_simp; rfl)); intro g1 hg1 w1 hbox hBl; have HB1 := Aside0.mk hBl; have K1 := Aside0.mk (C_rows1 w1 g1 A0 c0 l0 _ hbox (Kd.C_below HR.out hBl) HC.out); clear hg1 hbox hBl)
        | (go_at_call 28; refine (stelelaw01_light.calls 3 (some ⟨g1, 0, none⟩) 1 [l0] true w1 K1.out (Nat.le_refl _) hld.out).mono ?_; rintro e w2 ⟨rfl, hd⟩; have HB2 := Aside0.mk (below_step HB1.out hd.below); clear hd)
        | (go_at_call 30; refine (digest_Sha1.calls A0 c0 l0 SH w2 (Kd.C_below HR.out HB2.out) HC.out (by unfold digest_Sha1.f; rw [if_pos HK.out, HSH.out])).mono ?_; rintro e w3 ⟨v9, rfl, ho, hb⟩; have R9 := Aside0.mk ho; have HI3 := Aside0.mk hb; have HB3 := Aside0.mk (below_step HB2.out hb); clear ho hb)
        | (go_at_call 31; refine (ref1_any A0 c0 l0 w3 (Kd.C_below HR.out HB3.out) HC.out (by omega) HK.out.2).mono ?_; rintro e w4 ⟨v11, rfl, ho, hb⟩; have R11 := Aside0.mk ho; have R9' := Aside0.mk (Kd.R_below R9.out hb); have HB4 := Aside0.mk (below_step HB3.out hb); rw [HSH.out] at R11; obtain ⟨A9, c9, e9, hc9, C9⟩ := Kd.R_reads R9'.out; obtain ⟨A11, c11, e11, hc11, C11⟩ := Kd.R_reads R11.out; subst e9 e11; clear ho hb)
        | (go_at_call 29; refine (steleref01_Same.calls (SH.length + 1) A9 c9 SH A11 c11 SH true w4 C9 hc9 C11 hc11 hs.out).mono ?_; rintro e w5 ⟨rfl, hd⟩; have HB5 := Aside0.mk (below_step HB4.out hd.below); clear hd))
      go_ret
      exact ⟨rfl, HB5.out⟩
    · have hld := Aside0.mk (show stelelaw01_light.f 3 [l0] = some false by rw [hl.out, decide_eq_false hlt])
      clear hl
      go_enter Try.func3, Try.ntmps3
      go_wp2_with (first
        | ((with_reducible refine gate_dst (N := 4) rfl ?_); refine lit_event rfl (N := 4) rfl (cs := #[.slice A0 l0.length c0]) (t := 22) (n := 1) ?hr ?_; (case hr => first | (go_simp; done) | (go_simp; rfl)); intro g1 hg1 w1 hbox hBl; have HB1 := Aside0.mk hBl; have K1 := Aside0.mk (C_rows1 w1 g1 A0 c0 l0 _ hbox (Kd.C_below HR.out hBl) HC.out); clear hg1 hbox hBl)
        | (go_at_call 28; refine (stelelaw01_light.calls 3 (some ⟨g1, 0, none⟩) 1 [l0] false w1 K1.out (Nat.le_refl _) hld.out).mono ?_; rintro e w2 ⟨rfl, hd⟩; have HB2 := Aside0.mk (below_step HB1.out hd.below); clear hd))
      go_ret
      exact ⟨rfl, HB2.out⟩
  · rw [if_neg hh] at h
    cases h
end Go.Proofs.Ytlnpmodhejakiaa.PH
