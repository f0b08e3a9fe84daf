/- The law AuditCollides: its function. -/
import Derived.Test.YtlnpmodhejakiaaZAudK
import Derived.Test.YtlnpmodhejakiaaZAudR
import Derived.Test.YtlnpmodhejakiaaZAudRb
import Derived.Test.YtlnpmodhejakiaaZWb
import Derived.Test.YtlnpmodhejakiaaZShab
import Derived.Test.YtlnpmodhejakiaaZAudBb
namespace Go.Proofs.Ytlnpmodhejakiaa.AV
open Go.RowKit Go.Proofs.YtlnpmodhejakiaaW.PrintWords Go.Proofs.YtlnpmodhejakiaaW.PrintLast Go.Proofs.YtlnpmodhejakiaaW.PrintMore Go.Proofs.Ytlnpmodhejakiaa.Sha Go.Proofs.Ytlnpmodhejakiaa.D Go.Proofs.Ytlnpmodhejakiaa.PC Go.Proofs.Ytlnpmodhejakiaa.CP Go.Proofs.Ytlnpmodhejakiaa.PV
set_option linter.unusedVariables false
set_option linter.unusedSimpArgs false
theorem CollPost_eq {a b a' b' : List S69} {w : World} {e : Ending} {w' : World} (h : collP a b = collP a' b') (hp : CollPost a' b' w e w') : CollPost a b w e w' := by
  unfold CollPost at *
  rw [h]
  exact hp
theorem acoll_c (A : Option Addr) (ca : Nat) (a : List S69) (B : Option Addr) (cb : Nat) (b : List S69) (w : World) (hC : Kd.C k69 w A a.length a) (hc : a.length ≤ ca) (hD : Kd.C k69 w B b.length b) (hd : b.length ≤ cb) (hla : a.length ≤ 1000) (hlb : b.length ≤ 1000) (hsa : ∀ y ∈ a, okX y) (hsb : ∀ y ∈ b, okX y) :
    Calls Try.prog 87 #[.slice A a.length ca, .slice B b.length cb] w fun e w' => CollPost a b w e w' := by
  by_cases hlt : b.length < a.length
  · obtain ⟨Ad, h1, h2⟩ := cutB A a.length ca b.length (by omega)
    obtain ⟨Bd, h3, h4⟩ := cutB B b.length cb b.length (Nat.le_refl _)
    have hCa := h2 w a rfl hc hC
    have hCb := h4 w b rfl hd hD
    rw [Int.sub_self] at h3
    rw [Nat.sub_self, List.drop_zero] at hCb
    have ht := collP_tail a b b.length (by omega)
    rw [Nat.sub_self, List.drop_zero] at ht
    have hl : (a.drop (a.length - b.length)).length = b.length := by rw [List.length_drop]; omega
    have hs : ∀ y ∈ a.drop (a.length - b.length), okX y := fun y hy => hsa y (List.mem_of_mem_drop hy)
    obtain ⟨a', ha'⟩ : ∃ a', a.drop (a.length - b.length) = a' := ⟨_, rfl⟩
    rw [ha'] at hCa ht hl hs
    exact (acoll_eq A ca a B cb b w hla hlb Ad Bd (ca - (a.length - b.length)) (cb - (b.length - b.length)) a' b (by omega) hl.symm (Or.inl ⟨hlt, fun W => by rw [hl]; exact h1 W, fun W => by rw [hl]; exact h3 W⟩) (by rw [hl]; exact hCa) (by omega) (by rw [hl]; exact hCb) hs hsb).mono fun e w' h => CollPost_eq ht h
  · obtain ⟨Ad, h1, h2⟩ := cutB A a.length ca a.length (Nat.le_refl _)
    obtain ⟨Bd, h3, h4⟩ := cutB B b.length cb a.length (by omega)
    have hCa := h2 w a rfl hc hC
    have hCb := h4 w b rfl hd hD
    rw [Int.sub_self] at h1
    rw [Nat.sub_self, List.drop_zero] at hCa
    have ht := collP_tail a b a.length (by omega)
    rw [Nat.sub_self, List.drop_zero] at ht
    have hl : (b.drop (b.length - a.length)).length = a.length := by rw [List.length_drop]; omega
    have hs : ∀ y ∈ b.drop (b.length - a.length), okX y := fun y hy => hsb y (List.mem_of_mem_drop hy)
    obtain ⟨b', hb'⟩ : ∃ b', b.drop (b.length - a.length) = b' := ⟨_, rfl⟩
    rw [hb'] at hCb ht hl hs
    exact (acoll_eq A ca a B cb b w hla hlb Ad Bd (ca - (a.length - a.length)) (cb - (b.length - a.length)) a b' hla hl (Or.inr ⟨hlt, h1, h3⟩) hCa (by omega) hCb hsa hs).mono fun e w' h => CollPost_eq ht h
theorem coll_t {a b : List S69} {p q : S69} (hn : collP a b = some (p, q)) (hd : (digP p == digP q) = true) {w : World} {e : Ending} {w' : World} (h : CollPost a b w e w') :
    ∃ A c B d, e = .returned (.tuple #[.slice A (showP p).length c, .slice B (showP q).length d, .bool true]) ∧ Kd.C (Kd.int .u8) w' A (showP p).length (showP p) ∧ (showP p).length ≤ c ∧ Kd.C (Kd.int .u8) w' B (showP q).length (showP q) ∧ (showP q).length ≤ d ∧ Below w.heap.size w w' := by
  obtain ⟨h1, h2⟩ := h
  rw [hn] at h1
  simp only at h1
  rw [if_pos hd] at h1
  obtain ⟨A, c, B, d, he, q1, q2, q3, q4⟩ := h1
  exact ⟨A, c, B, d, he, q1, q2, q3, q4, h2⟩
theorem coll_f {a b : List S69} (hf : foundP a b = false) {w : World} {e : Ending} {w' : World} (h : CollPost a b w e w') : e = .returned (.tuple #[.slice none 0 0, .slice none 0 0, .bool false]) ∧ Below w.heap.size w w' := by
  obtain ⟨h1, h2⟩ := h
  unfold foundP at hf
  cases hc : collP a b with
  | none => rw [hc] at h1; exact ⟨h1, h2⟩
  | some r =>
    obtain ⟨p, q⟩ := r
    rw [hc] at h1 hf
    simp only at h1 hf
    rw [if_neg (by rw [hf]; decide)] at h1
    exact ⟨h1, h2⟩
theorem found_t {a b : List S69} (hf : foundP a b = true) : ∃ p q, collP a b = some (p, q) ∧ (digP p == digP q) = true := by
  unfold foundP at hf
  cases hc : collP a b with
  | none => rw [hc] at hf; cases hf
  | some r => obtain ⟨p, q⟩ := r; rw [hc] at hf; exact ⟨p, q, rfl, hf⟩
theorem bsame_k (l : List Int) (hl : l.length ≤ 140737488355328) (A : Option Addr) (c : Nat) (A1 : Option Addr) (c1 : Nat) (w : World) (hC : Kd.C (Kd.int .u8) w A l.length l) (hc : l.length ≤ c) (hC1 : Kd.C (Kd.int .u8) w A1 l.length l) (hc1 : l.length ≤ c1) :
    Calls Try.prog 29 #[.slice A l.length c, .slice A1 l.length c1] w fun e w' => e = .returned (.bool true) ∧ Below w.heap.size w w' :=
  (bsame_c A c l A1 c1 l w hC hc hC1 hc1 hl).mono fun e w' ⟨he, hb⟩ => ⟨by rw [he, beq_self_eq_true], hb⟩
theorem bsame_n (w : World) : Calls Try.prog 29 #[.slice none 0 0, .slice none 0 0] w fun e w' => e = .returned (.bool true) ∧ Below w.heap.size w w' :=
  bsame_k [] (by simp) none 0 none 0 w (C_none _ _) (Nat.le_refl _) (C_none _ _) (Nat.le_refl _)
theorem show_le (p : S69) (h : okX p) : (showP p).length ≤ 140737488355328 := by rw [showP_len]; have := h.bulk; omega
theorem collR_mem : ∀ (a b : List S69) (p q : S69), collR a b = some (p, q) → p ∈ a ∧ q ∈ b
  | [], b, p, q, h => by rw [collR_nil'] at h; cases h
  | x :: a, [], p, q, h => by rw [collR_nil] at h; cases h
  | x :: a, y :: b, p, q, h => by
    rw [collR] at h
    split at h
    · obtain ⟨h1, h2⟩ := collR_mem a b p q h
      exact ⟨List.mem_cons_of_mem _ h1, List.mem_cons_of_mem _ h2⟩
    · simp only [Option.some.injEq, Prod.mk.injEq] at h
      obtain ⟨rfl, rfl⟩ := h
      exact ⟨List.mem_cons_self, List.mem_cons_self⟩
theorem collP_mem {a b : List S69} {p q : S69} (h : collP a b = some (p, q)) : p ∈ a ∧ q ∈ b := by
  obtain ⟨h1, h2⟩ := collR_mem _ _ p q h
  exact ⟨List.mem_reverse.1 h1, List.mem_reverse.1 h2⟩
set_option maxHeartbeats 16000000 in
set_option maxRecDepth 100000 in
theorem collides_any (A : Option Addr) (ca : Nat) (a : List S69) (B : Option Addr) (cb : Nat) (b : List S69) (w : World) (hC : Kd.C k69 w A a.length a) (hc : a.length ≤ ca) (hD : Kd.C k69 w B b.length b) (hd : b.length ≤ cb)
    (hl : a.length ≤ 140737488355328) (hl' : b.length ≤ 140737488355328) (hs : ∀ y ∈ a, smallX y) (hs' : ∀ y ∈ b, smallX y) (hk : lightP a = true → a.length ≤ 1000 ∧ ∀ y ∈ a, okX y) (hk' : lightP b = true → b.length ≤ 1000 ∧ ∀ y ∈ b, okX y) :
    Calls Try.prog 20 #[.slice A a.length ca, .slice B b.length cb] w fun e w' => e = .returned (.bool true) ∧ Below w.heap.size w w' := by
  have HB := Aside0.mk (Below.refl w.heap.size w)
  have HC := Aside0.mk hC
  have HD := Aside0.mk hD
  obtain ⟨s, hsl⟩ : ∃ s, lightP a = s := ⟨_, rfl⟩
  obtain ⟨t, htl⟩ : ∃ t, lightP b = t := ⟨_, rfl⟩
  have LAc := Aside0.mk (fun W h => lightB A ca a s W h hc hl hs hsl)
  have LBc := Aside0.mk (fun W h => lightB B cb b t W h hd hl' hs' htl)
  cases s with
  | false =>
    clear hC hc hD hd hl hl' hs hs' hk hk' hsl htl
    go_enter Try.func20, Try.ntmps20
    go_wp2_with (first
      | (go_at_call 73; (with_reducible refine (LAc.out _ (Kd.C_below HC.out HB.out)).mono ?_); rintro e w1 ⟨rfl, hb⟩; clear LAc; have nb_ := Aside0.mk (below_step HB.out hb); clear HB hb; have HB := nb_; clear nb_)
      | (go_at_call 74; (with_reducible refine (alive14 _).mono ?_); rintro e wz ⟨rfl, hb⟩; have nb_ := Aside0.mk (below_step HB.out hb); clear HB hb; have HB := nb_; clear nb_))
    go_ret
    exact ⟨rfl, HB.out⟩
  | true =>
    cases t with
    | false =>
      clear hC hc hD hd hl hl' hs hs' hk hk' hsl htl
      go_enter Try.func20, Try.ntmps20
      go_wp2_with (first
        | (go_at_call 73; (with_reducible refine (LAc.out _ (Kd.C_below HC.out HB.out)).mono ?_); rintro e w1 ⟨rfl, hb⟩; clear LAc; have nb_ := Aside0.mk (below_step HB.out hb); clear HB hb; have HB := nb_; clear nb_)
        | (go_at_call 73; (with_reducible refine (LBc.out _ (Kd.C_below HD.out HB.out)).mono ?_); rintro e w2 ⟨rfl, hb⟩; clear LBc; have nb_ := Aside0.mk (below_step HB.out hb); clear HB hb; have HB := nb_; clear nb_)
        | (go_at_call 74; (with_reducible refine (alive14 _).mono ?_); rintro e wz ⟨rfl, hb⟩; have nb_ := Aside0.mk (below_step HB.out hb); clear HB hb; have HB := nb_; clear nb_))
      go_ret
      exact ⟨rfl, HB.out⟩
    | true =>
      obtain ⟨n1, o1⟩ := hk hsl
      obtain ⟨n2, o2⟩ := hk' htl
      have CA := Aside0.mk (fun W h1 h2 => acoll_c A ca a B cb b W h1 hc h2 hd n1 n2 o1 o2)
      have CR := Aside0.mk (fun W h1 h2 => rcoll_c A ca a B cb b W h1 hc h2 hd n1 n2 o1 o2)
      obtain ⟨f, hf⟩ : ∃ f, foundP a b = f := ⟨_, rfl⟩
      cases f with
      | false =>
        have HF := Aside0.mk hf
        clear hC hc hD hd hl hl' hs hs' hk hk' hsl htl n1 n2 o1 o2 hf
        go_enter Try.func20, Try.ntmps20
        go_wp2_with (first
          | (go_at_call 73; (with_reducible refine (LAc.out _ (Kd.C_below HC.out HB.out)).mono ?_); rintro e w1 ⟨rfl, hb⟩; clear LAc; have nb_ := Aside0.mk (below_step HB.out hb); clear HB hb; have HB := nb_; clear nb_)
          | (go_at_call 73; (with_reducible refine (LBc.out _ (Kd.C_below HD.out HB.out)).mono ?_); rintro e w2 ⟨rfl, hb⟩; clear LBc; have nb_ := Aside0.mk (below_step HB.out hb); clear HB hb; have HB := nb_; clear nb_)
          | (go_at_call 87; (with_reducible refine (CA.out _ (Kd.C_below HC.out HB.out) (Kd.C_below HD.out HB.out)).mono ?_); rintro e w3 hp; obtain ⟨rfl, hb⟩ := coll_f HF.out hp; clear hp CA; have nb_ := Aside0.mk (below_step HB.out hb); clear HB hb; have HB := nb_; clear nb_)
          | (go_at_call 83; (with_reducible refine (CR.out _ (Kd.C_below HC.out HB.out) (Kd.C_below HD.out HB.out)).mono ?_); rintro e w4 hp; obtain ⟨rfl, hb⟩ := coll_f HF.out hp; clear hp CR; have nb_ := Aside0.mk (below_step HB.out hb); clear HB hb; have HB := nb_; clear nb_)
          | (go_at_call 29; (with_reducible refine (bsame_n _).mono ?_); rintro e w5 ⟨rfl, hb⟩; have nb_ := Aside0.mk (below_step HB.out hb); clear HB hb; have HB := nb_; clear nb_)
          | (go_at_call 74; (with_reducible refine (alive14 _).mono ?_); rintro e wz ⟨rfl, hb⟩; have nb_ := Aside0.mk (below_step HB.out hb); clear HB hb; have HB := nb_; clear nb_))
        go_ret
        exact ⟨rfl, HB.out⟩
      | true =>
        obtain ⟨p, q, hpq, hdd⟩ := found_t hf
        have m := collP_mem hpq
        have S1 := Aside0.mk (fun A c A1 c1 W h1 h2 h3 h4 => bsame_k (showP p) (show_le p (o1 p m.1)) A c A1 c1 W h1 h2 h3 h4)
        have S2 := Aside0.mk (fun A c A1 c1 W h1 h2 h3 h4 => bsame_k (showP q) (show_le q (o2 q m.2)) A c A1 c1 W h1 h2 h3 h4)
        have HF := Aside0.mk (And.intro hpq hdd)
        clear hC hc hD hd hl hl' hs hs' hk hk' hsl htl n1 n2 o1 o2 hf hpq hdd m
        go_enter Try.func20, Try.ntmps20
        go_wp2_with (first
          | (go_at_call 73; (with_reducible refine (LAc.out _ (Kd.C_below HC.out HB.out)).mono ?_); rintro e w1 ⟨rfl, hb⟩; clear LAc; have nb_ := Aside0.mk (below_step HB.out hb); clear HB hb; have HB := nb_; clear nb_)
          | (go_at_call 73; (with_reducible refine (LBc.out _ (Kd.C_below HD.out HB.out)).mono ?_); rintro e w2 ⟨rfl, hb⟩; clear LBc; have nb_ := Aside0.mk (below_step HB.out hb); clear HB hb; have HB := nb_; clear nb_)
          | (go_at_call 87; (with_reducible refine (CA.out _ (Kd.C_below HC.out HB.out) (Kd.C_below HD.out HB.out)).mono ?_); rintro e w3 hp; obtain ⟨Ua, Uc, Ub, Ud, rfl, c1, c2, c3, c4, hb⟩ := coll_t HF.out.1 HF.out.2 hp; have U1 := Aside0.mk c1; have U2 := Aside0.mk c2; have U3 := Aside0.mk c3; have U4 := Aside0.mk c4; clear hp c1 c2 c3 c4 CA; have nb_ := Aside0.mk (below_step HB.out hb); clear HB hb; have HB := nb_; clear nb_)
          | (go_at_call 83; (with_reducible refine (CR.out _ (Kd.C_below HC.out HB.out) (Kd.C_below HD.out HB.out)).mono ?_); rintro e w4 hp; obtain ⟨Va, Vc, Vb, Vd, rfl, c1, c2, c3, c4, hb⟩ := coll_t HF.out.1 HF.out.2 hp; have q1_ := Aside0.mk (Kd.C_below U1.out hb); have q3_ := Aside0.mk (Kd.C_below U3.out hb); clear U1 U3; have U1 := q1_; have U3 := q3_; clear q1_ q3_; have V1 := Aside0.mk c1; have V2 := Aside0.mk c2; have V3 := Aside0.mk c3; have V4 := Aside0.mk c4; clear hp c1 c2 c3 c4 CR; have nb_ := Aside0.mk (below_step HB.out hb); clear HB hb; have HB := nb_; clear nb_)
          | (go_at_call 29; (with_reducible refine (S1.out _ _ _ _ _ U1.out U2.out V1.out V2.out).mono ?_); rintro e w5 ⟨rfl, hb⟩; have r1_ := Aside0.mk (Kd.C_below U3.out hb); have r2_ := Aside0.mk (Kd.C_below V3.out hb); clear U3 V3; have U3 := r1_; have V3 := r2_; clear r1_ r2_; clear S1; have nb_ := Aside0.mk (below_step HB.out hb); clear HB hb; have HB := nb_; clear nb_)
          | (go_at_call 29; (with_reducible refine (S2.out _ _ _ _ _ U3.out U4.out V3.out V4.out).mono ?_); rintro e w6 ⟨rfl, hb⟩; clear S2; have nb_ := Aside0.mk (below_step HB.out hb); clear HB hb; have HB := nb_; clear nb_)
          | (go_at_call 74; (with_reducible refine (alive14 _).mono ?_); rintro e wz ⟨rfl, hb⟩; have nb_ := Aside0.mk (below_step HB.out hb); clear HB hb; have HB := nb_; clear nb_))
        go_ret
        exact ⟨rfl, HB.out⟩
end Go.Proofs.Ytlnpmodhejakiaa.AV
namespace Go.Proofs.Ytlnpmodhejakiaa.PV
open Go.RowKit Go.Proofs.YtlnpmodhejakiaaW.PrintWords Go.Proofs.YtlnpmodhejakiaaW.PrintLast Go.Proofs.YtlnpmodhejakiaaW.PrintMore Go.Proofs.Ytlnpmodhejakiaa.D Go.Proofs.Ytlnpmodhejakiaa.AV
open Classical in
noncomputable def stelelaw14_AuditCollides.f (l0 : List S69) (l1 : List S69) : Option Bool := if l0.length ≤ 140737488355328 ∧ (∀ y ∈ l0, rawX y) ∧ l1.length ≤ 140737488355328 ∧ (∀ y ∈ l1, rawX y) then some true else none
theorem stelelaw14_AuditCollides.calls (A0 : Option Addr) (c0 : Nat) (l0 : List S69) (A1 : Option Addr) (c1 : Nat) (l1 : List S69) (r : Bool) (w : World) (hr0 : Kd.C k69 w A0 l0.length l0) (hc0 : l0.length ≤ c0) (hr1 : Kd.C k69 w A1 l1.length l1) (hc1 : l1.length ≤ c1) (h : stelelaw14_AuditCollides.f l0 l1 = some r) :
    Calls Try.prog 20 #[.slice A0 l0.length c0, .slice A1 l1.length c1] w fun e w' => e = .returned (.bool r) ∧ Below w.heap.size w w' := by
  unfold stelelaw14_AuditCollides.f at h
  split at h
  · rename_i hh
    obtain rfl := Option.some.inj h
    exact collides_any A0 c0 l0 A1 c1 l1 w hr0 hc0 hr1 hc1 hh.1 hh.2.2.1 (fun y hy => (hh.2.1 y hy).small) (fun y hy => (hh.2.2.2 y hy).small) (fun hL => ⟨by have := (light_m hL).1; omega, fun y hy => (hh.2.1 y hy).ok ((light_m hL).2 y hy)⟩) (fun hL => ⟨by have := (light_m hL).1; omega, fun y hy => (hh.2.2.2 y hy).ok ((light_m hL).2 y hy)⟩)
  · cases h
end Go.Proofs.Ytlnpmodhejakiaa.PV
