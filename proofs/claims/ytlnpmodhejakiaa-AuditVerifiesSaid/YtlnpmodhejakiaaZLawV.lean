/- The law AuditVerifies: its function. -/
import Derived.Test.YtlnpmodhejakiaaZAudR
namespace Go.Proofs.Ytlnpmodhejakiaa.AV
open Go.RowKit Go.Proofs.YtlnpmodhejakiaaW.PrintWords Go.Proofs.YtlnpmodhejakiaaW.PrintLast Go.Proofs.YtlnpmodhejakiaaW.PrintMore Go.Proofs.Ytlnpmodhejakiaa.Sha Go.Proofs.Ytlnpmodhejakiaa.D Go.Proofs.Ytlnpmodhejakiaa.PC Go.Proofs.Ytlnpmodhejakiaa.CP Go.Proofs.Ytlnpmodhejakiaa.PV
set_option linter.unusedVariables false
set_option linter.unusedSimpArgs false
set_option maxHeartbeats 16000000 in
set_option maxRecDepth 100000 in
theorem verifies_any (A : Option Addr) (c : Nat) (l : List S69) (A1 : Option Addr) (c1 : Nat) (head : List Int) (w : World) (hC : Kd.C k69 w A l.length l) (hc : l.length ≤ c) (hC1 : Kd.C (Kd.int .u8) w A1 head.length head) (hc1 : head.length ≤ c1)
    (hl : l.length ≤ 140737488355328) (hs : ∀ y ∈ l, smallX y) (hk : lightP l = true → l.length ≤ 1000 ∧ ∀ y ∈ l, okX y) (hh : B255 head) :
    Calls Try.prog 16 #[.slice A l.length c, .slice A1 head.length c1] w fun e w' => e = .returned (.bool true) ∧ Below w.heap.size w w' := by
  have HB := Aside0.mk (Below.refl w.heap.size w)
  have HC := Aside0.mk hC
  have HC1 := Aside0.mk hC1
  have HS := Aside0.mk hs
  have HH := Aside0.mk hh
  have Hc := Aside0.mk hc
  have Hc1 := Aside0.mk hc1
  have HLn := Aside0.mk hl
  cases hb : lightP l with
  | true =>
    have OK := Aside0.mk (hk hb)
    have HL := Aside0.mk hb
    obtain ⟨v, hv⟩ : ∃ v, verP l 0 [] head = v := ⟨_, rfl⟩
    have VA := Aside0.mk (fun W h1 h2 => ver_c A c l A1 c1 head W h1 Hc.out h2 Hc1.out OK.out.1 OK.out.2 HH.out)
    have VR := Aside0.mk (fun W h1 h2 => rver_c A c l A1 c1 head W h1 Hc.out h2 Hc1.out OK.out.1 OK.out.2)
    rw [hv] at VA VR
    clear hC hc hC1 hc1 hl hs hk hh hb hv
    go_enter Try.func16, Try.ntmps16
    go_wp2_with (first
      | (go_at_call 73; (with_reducible refine (lightB A c l true _ HC.out Hc.out HLn.out HS.out HL.out).mono ?_); rintro e w1 ⟨rfl, hb⟩; have HB1 := Aside0.mk hb; clear hb)
      | (go_at_call 78; (with_reducible refine (VA.out _ (Kd.C_below HC.out HB1.out) (Kd.C_below HC1.out HB1.out)).mono ?_); rintro e w2 ⟨rfl, hb⟩; have HB2 := Aside0.mk (below_step HB1.out hb); clear hb)
      | (go_at_call 79; (with_reducible refine (VR.out _ (Kd.C_below HC.out HB2.out) (Kd.C_below HC1.out HB2.out)).mono ?_); rintro e w3 ⟨rfl, hb⟩; have HB3 := Aside0.mk (below_step HB2.out hb); clear hb)
      | (go_at_call 74; (with_reducible refine (alive14 _).mono ?_); rintro e w4 ⟨rfl, hb⟩; have HB4 := Aside0.mk (below_step HB3.out hb); clear hb))
    go_ret
    exact ⟨rfl, HB4.out⟩
  | false =>
    have HL := Aside0.mk hb
    clear hC hc hC1 hc1 hl hs hk hh hb
    go_enter Try.func16, Try.ntmps16
    go_wp2_with (go_at_call 73; (with_reducible refine (lightB A c l false _ HC.out Hc.out HLn.out HS.out HL.out).mono ?_); rintro e w1 ⟨rfl, hb⟩; have HB1 := Aside0.mk hb; clear hb)
    go_ret
    exact ⟨rfl, HB1.out⟩
end Go.Proofs.Ytlnpmodhejakiaa.AV
namespace Go.Proofs.Ytlnpmodhejakiaa.PV
open Go.RowKit Go.Proofs.YtlnpmodhejakiaaW.PrintWords Go.Proofs.YtlnpmodhejakiaaW.PrintLast Go.Proofs.YtlnpmodhejakiaaW.PrintMore Go.Proofs.Ytlnpmodhejakiaa.D Go.Proofs.Ytlnpmodhejakiaa.AV
open Classical in
noncomputable def stelelaw14_AuditVerifies.f (l0 : List S69) (l1 : List Int) : Option Bool := if l0.length ≤ 140737488355328 ∧ (∀ y ∈ l0, rawX y) ∧ B255 l1 then some true else none
theorem stelelaw14_AuditVerifies.calls (A0 : Option Addr) (c0 : Nat) (l0 : List S69) (A1 : Option Addr) (c1 : Nat) (l1 : List Int) (r : Bool) (w : World) (hr0 : Kd.C k69 w A0 l0.length l0) (hc0 : l0.length ≤ c0) (hr1 : Kd.C (Kd.int .u8) w A1 l1.length l1) (hc1 : l1.length ≤ c1) (h : stelelaw14_AuditVerifies.f l0 l1 = some r) :
    Calls Try.prog 16 #[.slice A0 l0.length c0, .slice A1 l1.length c1] w fun e w' => e = .returned (.bool r) ∧ Below w.heap.size w w' := by
  unfold stelelaw14_AuditVerifies.f at h
  split at h
  · rename_i hh
    obtain rfl := Option.some.inj h
    exact verifies_any A0 c0 l0 A1 c1 l1 w hr0 hc0 hr1 hc1 hh.1 (fun y hy => (hh.2.1 y hy).small) (fun hL => ⟨by have := (light_m hL).1; omega, fun y hy => (hh.2.1 y hy).ok ((light_m hL).2 y hy)⟩) hh.2.2
  · cases h
end Go.Proofs.Ytlnpmodhejakiaa.PV
