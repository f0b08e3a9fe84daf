/- Parts of the proofs of this seat, in one text. -/
import Derived.Test.YtlnpmodhejakiaaZAudK
import Derived.Test.YtlnpmodhejakiaaZAudR
import Derived.Test.YtlnpmodhejakiaaZAudRb
import Derived.Test.YtlnpmodhejakiaaZWb
import Derived.Test.YtlnpmodhejakiaaZShab
import Derived.Test.YtlnpmodhejakiaaZAudBb
namespace Go.Proofs.Ytlnpmodhejakiaa.AV
open Go.RowKit Go.Proofs.YtlnpmodhejakiaaW.PrintWords Go.Proofs.YtlnpmodhejakiaaW.PrintLast Go.Proofs.YtlnpmodhejakiaaW.PrintMore Go.Proofs.Ytlnpmodhejakiaa.Sha Go.Proofs.Ytlnpmodhejakiaa.D Go.Proofs.Ytlnpmodhejakiaa.PC Go.Proofs.Ytlnpmodhejakiaa.CP Go.Proofs.Ytlnpmodhejakiaa.PV
set_option linter.unusedVariables false
set_option linter.unusedSimpArgs false
theorem CollPost_eq {a b a' b' : List S69} {w : World} {e : Ending} {w' : World} (h : collP a b = collP a' b') (hp : CollPost a' b' w e w') : CollPost a b w e w' := by
  unfold CollPost at *
  rw [h]
  exact hp
theorem acoll_c (A : Option Addr) (ca : Nat) (a : List S69) (B : Option Addr) (cb : Nat) (b : List S69) (w : World) (hC : Kd.C k69 w A a.length a) (hc : a.length ≤ ca) (hD : Kd.C k69 w B b.length b) (hd : b.length ≤ cb) (hla : a.length ≤ 1000) (hlb : b.length ≤ 1000) (hsa : ∀ y ∈ a, okX y) (hsb : ∀ y ∈ b, okX y) :
    Calls Try.prog 87 #[.slice A a.length ca, .slice B b.length cb] w fun e w' => CollPost a b w e w' := by
  by_cases hlt : b.length < a.length
  · obtain ⟨Ad, h1, h2⟩ := cutB A a.length ca b.length (by omega)
    obtain ⟨Bd, h3, h4⟩ := cutB B b.length cb b.length (Nat.le_refl _)
    have hCa := h2 w a rfl hc hC
    have hCb := h4 w b rfl hd hD
    rw [Int.sub_self] at h3
    rw [Nat.sub_self, List.drop_zero] at hCb
    have ht := collP_tail a b b.length (by omega)
    rw [Nat.sub_self, List.drop_zero] at ht
    have hl : (a.drop (a.length - b.length)).length = b.length := by rw [List.length_drop]; omega
    have hs : ∀ y ∈ a.drop (a.length - b.length), okX y := fun y hy => hsa y (List.mem_of_mem_drop hy)
    obtain ⟨a', ha'⟩ : ∃ a', a.drop (a.length - b.length) = a' := ⟨_, rfl⟩
    rw [ha'] at hCa ht hl hs
    exact (acoll_eq A ca a B cb b w hla hlb Ad Bd (ca - (a.length - b.length)) (cb - (b.length - b.length)) a' b (by omega) hl.symm (Or.inl ⟨hlt, fun W => by rw [hl]; exact h1 W, fun W => by rw [hl]; exact h3 W⟩) (by rw [hl]; exact hCa) (by omega) (by rw [hl]; exact hCb) hs hsb).mono fun e w' h => CollPost_eq ht h
  · obtain ⟨Ad, h1, h2⟩ := cutB A a.length ca a.length (Nat.le_refl _)
    obtain ⟨Bd, h3, h4⟩ := cutB B b.length cb a.length (by omega)
    have hCa := h2 w a rfl hc hC
    have hCb := h4 w b rfl hd hD
    rw [Int.sub_self] at h1
    rw [Nat.sub_self, List.drop_zero] at hCa
    have ht := collP_tail a b a.length (by omega)
    rw [Nat.sub_self, List.drop_zero] at ht
    have hl : (b.drop (b.length - a.length)).length = a.length := by rw [List.length_drop]; omega
    have hs : ∀ y ∈ b.drop (b.length - a.length), okX y := fun y hy => hsb y (List.mem_of_mem_drop hy)
    obtain ⟨b', hb'⟩ : ∃ b', b.drop (b.length - a.length) = b' := ⟨_, rfl⟩
    rw [hb'] at hCb ht hl hs
    exact (acoll_eq A ca a B cb b w hla hlb Ad Bd (ca - (a.length - a.length)) (cb - (b.length - a.length)) a b' hla hl (Or.inr ⟨hlt, h1, h3⟩) hCa (by omega) hCb hsa hs).mono fun e w' h => CollPost_eq ht h
theorem coll_t {a b : List S69} {p q : S69} (hn : collP a b = some (p, q)) (hd : (digP p == digP q) = true) {w : World} {e : Ending} {w' : World} (h : CollPost a b w e w') :
    ∃ A c B d, e = .returned (.tuple #[.slice A (showP p).length c, .slice B (showP q).length d, .bool true]) ∧ Kd.C (Kd.int .u8) w' A (showP p).length (showP p) ∧ (showP p).length ≤ c ∧ Kd.C (Kd.int .u8) w' B (showP q).length (showP q) ∧ (showP q).length ≤ d ∧ Below w.heap.size w w' := by
  obtain ⟨h1, h2⟩ := h
  rw [hn] at h1
  simp only at h1
  rw [if_pos hd] at h1
  obtain ⟨A, c, B, d, he, q1, q2, q3, q4⟩ := h1
  exact ⟨A, c, B, d, he, q1, q2, q3, q4, h2⟩
theorem coll_f {a b : List S69} (hf : foundP a b = false) {w : World} {e : Ending} {w' : World} (h : CollPost a b w e w') : e = .returned (.tuple #[.slice none 0 0, .slice none 0 0, .bool false]) ∧ Below w.heap.size w w' := by
  obtain ⟨h1, h2⟩ := h
  unfold foundP at hf
  cases hc : collP a b with
  | none => rw [hc] at h1; exact ⟨h1, h2⟩
  | some r =>
    obtain ⟨p, q⟩ := r
    rw [hc] at h1 hf
    simp only at h1 hf
    rw [if_neg (by rw [hf]; decide)] at h1
    exact ⟨h1, h2⟩
theorem found_t {a b : List S69} (hf : foundP a b = true) : ∃ p q, collP a b = some (p, q) ∧ (digP p == digP q) = true := by
  unfold foundP at hf
  cases hc : collP a b with
  | none => rw [hc] at hf; cases hf
  | some r => obtain ⟨p, q⟩ := r; rw [hc] at hf; exact ⟨p, q, rfl, hf⟩
theorem bsame_k (l : List Int) (hl : l.length ≤ 140737488355328) (A : Option Addr) (c : Nat) (A1 : Option Addr) (c1 : Nat) (w : World) (hC : Kd.C (Kd.int .u8) w A l.length l) (hc : l.length ≤ c) (hC1 : Kd.C (Kd.int .u8) w A1 l.length l) (hc1 : l.length ≤ c1) :
    Calls Try.prog 29 #[.slice A l.length c, .slice A1 l.length c1] w fun e w' => e = .returned (.bool true) ∧ Below w.heap.size w w' :=
  (bsame_c A c l A1 c1 l w hC hc hC1 hc1 hl).mono fun e w' ⟨he, hb⟩ => ⟨by rw [he, beq_self_eq_true], hb⟩
theorem bsame_n (w : World) : Calls Try.prog 29 #[.slice none 0 0, .slice none 0 0] w fun e w' => e = .returned (.bool true) ∧ Below w.heap.size w w' :=
  bsame_k [] (by simp) none 0 none 0 w (C_none _ _) (Nat.le_refl _) (C_none _ _) (Nat.le_refl _)
theorem show_le (p : S69) (h : okX p) : (showP p).length ≤ 140737488355328 := by rw [showP_len]; have := h.bulk; omega
theorem collR_mem : ∀ (a b : List S69) (p q : S69), collR a b = some (p, q) → p ∈ a ∧ q ∈ b
  | [], b, p, q, h => by rw [collR_nil'] at h; cases h
  | x :: a, [], p, q, h => by rw [collR_nil] at h; cases h
  | x :: a, y :: b, p, q, h => by
    rw [collR] at h
    split at h
    · obtain ⟨h1, h2⟩ := collR_mem a b p q h
      exact ⟨List.mem_cons_of_mem _ h1, List.mem_cons_of_mem _ h2⟩
    · simp only [Option.some.injEq, Prod.mk.injEq] at h
      obtain ⟨rfl, rfl⟩ := h
      exact ⟨List.mem_cons_self, List.mem_cons_self⟩
theorem collP_mem {a b : List S69} {p q : S69} (h : collP a b = some (p, q)) : p ∈ a ∧ q ∈ b := by
  obtain ⟨h1, h2⟩ := collR_mem _ _ p q h
  exact ⟨List.mem_reverse.1 h1, List.mem_reverse.1 h2⟩
set_option maxHeartbeats 16000000 in
set_option maxRecDepth 100000 in
theorem collides_any (A : Option Addr) (ca : Nat) (a : List S69) (B : Option Addr) (cb : Nat) (b : List S69) (w : World) (hC : Kd.C k69 w A a.length a) (hc : a.length ≤ ca) (hD : Kd.C k69 w B b.length b) (hd : b.length ≤ cb)
    (hl : a.length ≤ 140737488355328) (hl' : b.length ≤ 140737488355328) (hs : ∀ y ∈ a, smallX y) (hs' : ∀ y ∈ b, smallX y) (hk : lightP a = true → a.length ≤ 1000 ∧ ∀ y ∈ a, okX y) (hk' : lightP b = true → b.length ≤ 1000 ∧ ∀ y ∈ b, okX y) :
    Calls Try.prog 20 #[.slice A a.length ca, .slice B b.length cb] w fun e w' => e = .returned (.bool true) ∧ Below w.heap.size w w' := by
  have HB := Aside0.mk (Below.refl w.heap.size w)
  have HC := Aside0.mk hC
  have HD := Aside0.mk hD
  obtain ⟨s, hsl⟩ : ∃ s, lightP a = s := ⟨_, rfl⟩
  obtain ⟨t, htl⟩ : ∃ t, lightP b = t := ⟨_, rfl⟩
  have LAc := Aside0.mk (fun W h => lightB A ca a s W h hc hl hs hsl)
  have LBc := Aside0.mk (fun W h => lightB B cb b t W h hd hl' hs' htl)
  cases s with
  | false =>
    clear hC hc hD hd hl hl' hs hs' hk hk' hsl htl
    go_enter Try.func20, Try.ntmps20
    go_wp2_with (first
      | (go_at_call 73; (with_reducible refine (LAc.out _ (Kd.C_below HC.out HB.out)).mono ?_); rintro e w1 ⟨rfl, hb⟩; clear LAc; have nb_ := Aside0.mk (below_step HB.out hb); clear HB hb; have HB := nb_; clear nb_)
      | (go_at_call 74; (with_reducible refine (alive14 _).mono ?_); rintro e wz ⟨rfl, hb⟩; have nb_ := Aside0.mk (below_step HB.out hb); clear HB hb; have HB := nb_; clear nb_))
    go_ret
    exact ⟨rfl, HB.out⟩
  | true =>
    cases t with
    | false =>
      clear hC hc hD hd hl hl' hs hs' hk hk' hsl htl
      go_enter Try.func20, Try.ntmps20
      go_wp2_with (first
        | (go_at_call 73; (with_reducible refine (LAc.out _ (Kd.C_below HC.out HB.out)).mono ?_); rintro e w1 ⟨rfl, hb⟩; clear LAc; have nb_ := Aside0.mk (below_step HB.out hb); clear HB hb; have HB := nb_; clear nb_)
        | (go_at_call 73; (with_reducible refine (LBc.out _ (Kd.C_below HD.out HB.out)).mono ?_); rintro e w2 ⟨rfl, hb⟩; clear LBc; have nb_ := Aside0.mk (below_step HB.out hb); clear HB hb; have HB := nb_; clear nb_)
        | (go_at_call 74; (with_reducible refine (alive14 _).mono ?_); rintro e wz ⟨rfl, hb⟩; have nb_ := Aside0.mk (below_step HB.out hb); clear HB hb; have HB := nb_; clear nb_))
      go_ret
      exact ⟨rfl, HB.out⟩
    | true =>
      obtain ⟨n1, o1⟩ := hk hsl
      obtain ⟨n2, o2⟩ := hk' htl
      have CA := Aside0.mk (fun W h1 h2 => acoll_c A ca a B cb b W h1 hc h2 hd n1 n2 o1 o2)
      have CR := Aside0.mk (fun W h1 h2 => rcoll_c A ca a B cb b W h1 hc h2 hd n1 n2 o1 o2)
      obtain ⟨f, hf⟩ : ∃ f, foundP a b = f := ⟨_, rfl⟩
      cases f with
      | false =>
        have HF := Aside0.mk hf
        clear hC hc hD hd hl hl' hs hs' hk hk' hsl htl n1 n2 o1 o2 hf
        go_enter Try.func20, Try.ntmps20
        go_wp2_with (first
          | (go_at_call 73; (with_reducible refine (LAc.out _ (Kd.C_below HC.out HB.out)).mono ?_); rintro e w1 ⟨rfl, hb⟩; clear LAc; have nb_ := Aside0.mk (below_step HB.out hb); clear HB hb; have HB := nb_; clear nb_)
          | (go_at_call 73; (with_reducible refine (LBc.out _ (Kd.C_below HD.out HB.out)).mono ?_); rintro e w2 ⟨rfl, hb⟩; clear LBc; have nb_ := Aside0.mk (below_step HB.out hb); clear HB hb; have HB := nb_; clear nb_)
          | (go_at_call 87; (with_reducible refine (CA.out _ (Kd.C_below HC.out HB.out) (Kd.C_below HD.out HB.out)).mono ?_); rintro e w3 hp; obtain ⟨rfl, hb⟩ := coll_f HF.out hp; clear hp CA; have nb_ := Aside0.mk (below_step HB.out hb); clear HB hb; have HB := nb_; clear nb_)
          | (go_at_call 83; (with_reducible refine (CR.out _ (Kd.C_below HC.out HB.out) (Kd.C_below HD.out HB.out)).mono ?_); rintro e w4 hp; obtain ⟨rfl, hb⟩ := coll_f HF.out hp; clear hp CR; have nb_ := Aside0.mk (below_step HB.out hb); clear HB hb; have HB := nb_; clear nb_)
          | (go_at_call 29; (with_reducible refine (bsame_n _).mono ?_); rintro e w5 ⟨rfl, hb⟩; have nb_ := Aside0.mk (below_step HB.out hb); clear HB hb; have HB := nb_; clear nb_)
          | (go_at_call 74; (with_reducible refine (alive14 _).mono ?_); rintro e wz ⟨rfl, hb⟩; have nb_ := Aside0.mk (below_step HB.out hb); clear HB hb; have HB := nb_; clear nb_))
        go_ret
        exact ⟨rfl, HB.out⟩
      | true =>
        obtain ⟨p, q, hpq, hdd⟩ := found_t hf
        have m := collP_mem hpq
        have S1 := Aside0.mk (fun A c A1 c1 W h1 h2 h3 h4 => bsame_k (showP p) (show_le p (o1 p m.1)) A c A1 c1 W h1 h2 h3 h4)
        have S2 := Aside0.mk (fun A c A1 c1 W h1 h2 h3 h4 => bsame_k (showP q) (show_le q (o2 q m.2)) A c A1 c1 W h1 h2 h3 h4)
        have HF := Aside0.mk (And.intro hpq hdd)
        clear hC hc hD hd hl hl' hs hs' hk hk' hsl htl n1 n2 o1 o2 hf hpq hdd m
        go_enter Try.func20, Try.ntmps20
        go_wp2_with (first
          | (go_at_call 73; (with_reducible refine (LAc.out _ (Kd.C_below HC.out HB.out)).mono ?_); rintro e w1 ⟨rfl, hb⟩; clear LAc; have nb_ := Aside0.mk (below_step HB.out hb); clear HB hb; have HB := nb_; clear nb_)
          | (go_at_call 73; (with_reducible refine (LBc.out _ (Kd.C_below HD.out HB.out)).mono ?_); rintro e w2 ⟨rfl, hb⟩; clear LBc; have nb_ := Aside0.mk (below_step HB.out hb); clear HB hb; have HB := nb_; clear nb_)
          | (go_at_call 87; (with_reducible refine (CA.out _ (Kd.C_below HC.out HB.out) (Kd.C_below HD.out HB.out)).mono ?_); rintro e w3 hp; obtain ⟨Ua, Uc, Ub, Ud, rfl, c1, c2, c3, c4, hb⟩ := coll_t HF.out.1 HF.out.2 hp; have U1 := Aside0.mk c1; have U2 := Aside0.mk c2; have U3 := Aside0.mk c3; have U4 := Aside0.mk c4; clear hp c1 c2 c3 c4 CA; have nb_ := Aside0.mk (below_step HB.out hb); clear HB hb; have HB := nb_; clear nb_)
          | (go_at_call 83; (with_reducible refine (CR.out _ (Kd.C_below HC.out HB.out) (Kd.C_below HD.out HB.out)).mono ?_); rintro e w4 hp; obtain ⟨Va, Vc, Vb, Vd, rfl, c1, c2, c3, c4, hb⟩ := coll_t HF.out.1 HF.out.2 hp; have q1_ := Aside0.mk (Kd.C_below U1.out hb); have q3_ := Aside0.mk (Kd.C_below U3.out hb); clear U1 U3; have U1 := q1_; have U3 := q3_; clear q1_ q3_; have V1 := Aside0.mk c1; have V2 := Aside0.mk c2; have V3 := Aside0.mk c3; have V4 := Aside0.mk c4; clear hp c1 c2 c3 c4 CR; have nb_ := Aside0.mk (below_step HB.out hb); clear HB hb; have HB := nb_; clear nb_)
          | (go_at_call 29; (with_reducible refine (S1.out _ _ _ _ _ U1.out U2.out V1.out V2.out).mono ?_); rintro e w5 ⟨rfl, hb⟩; have r1_ := Aside0.mk (Kd.C_below U3.out hb); have r2_ := Aside0.mk (Kd.C_below V3.out hb); clear U3 V3; have U3 := r1_; have V3 := r2_; clear r1_ r2_; clear S1; have nb_ := Aside0.mk (below_step HB.out hb); clear HB hb; have HB := nb_; clear nb_)
          | (go_at_call 29; (with_reducible refine (S2.out _ _ _ _ _ U3.out U4.out V3.out V4.out).mono ?_); rintro e w6 ⟨rfl, hb⟩; clear S2; have nb_ := Aside0.mk (below_step HB.out hb); clear HB hb; have HB := nb_; clear nb_)
          | (go_at_call 74; (with_reducible refine (alive14 _).mono ?_); rintro e wz ⟨rfl, hb⟩; have nb_ := Aside0.mk (below_step HB.out hb); clear HB hb; have HB := nb_; clear nb_))
        go_ret
        exact ⟨rfl, HB.out⟩
end Go.Proofs.Ytlnpmodhejakiaa.AV
namespace Go.Proofs.Ytlnpmodhejakiaa.PV
open Go.RowKit Go.Proofs.YtlnpmodhejakiaaW.PrintWords Go.Proofs.YtlnpmodhejakiaaW.PrintLast Go.Proofs.YtlnpmodhejakiaaW.PrintMore Go.Proofs.Ytlnpmodhejakiaa.D Go.Proofs.Ytlnpmodhejakiaa.AV
open Classical in
noncomputable def stelelaw14_AuditCollides.f (l0 : List S69) (l1 : List S69) : Option Bool := if l0.length ≤ 140737488355328 ∧ (∀ y ∈ l0, rawX y) ∧ l1.length ≤ 140737488355328 ∧ (∀ y ∈ l1, rawX y) then some true else none
theorem stelelaw14_AuditCollides.calls (A0 : Option Addr) (c0 : Nat) (l0 : List S69) (A1 : Option Addr) (c1 : Nat) (l1 : List S69) (r : Bool) (w : World) (hr0 : Kd.C k69 w A0 l0.length l0) (hc0 : l0.length ≤ c0) (hr1 : Kd.C k69 w A1 l1.length l1) (hc1 : l1.length ≤ c1) (h : stelelaw14_AuditCollides.f l0 l1 = some r) :
    Calls Try.prog 20 #[.slice A0 l0.length c0, .slice A1 l1.length c1] w fun e w' => e = .returned (.bool r) ∧ Below w.heap.size w w' := by
  unfold stelelaw14_AuditCollides.f at h
  split at h
  · rename_i hh
    obtain rfl := Option.some.inj h
    exact collides_any A0 c0 l0 A1 c1 l1 w hr0 hc0 hr1 hc1 hh.1 hh.2.2.1 (fun y hy => (hh.2.1 y hy).small) (fun y hy => (hh.2.2.2 y hy).small) (fun hL => ⟨by have := (light_m hL).1; omega, fun y hy => (hh.2.1 y hy).ok ((light_m hL).2 y hy)⟩) (fun hL => ⟨by have := (light_m hL).1; omega, fun y hy => (hh.2.2.2 y hy).ok ((light_m hL).2 y hy)⟩)
  · cases h
end Go.Proofs.Ytlnpmodhejakiaa.PV
namespace Go.Proofs.Ytlnpmodhejakiaa.AV
open Go.RowKit Go.Proofs.YtlnpmodhejakiaaW.PrintWords Go.Proofs.YtlnpmodhejakiaaW.PrintLast Go.Proofs.YtlnpmodhejakiaaW.PrintMore Go.Proofs.Ytlnpmodhejakiaa.Sha Go.Proofs.Ytlnpmodhejakiaa.D Go.Proofs.Ytlnpmodhejakiaa.PC Go.Proofs.Ytlnpmodhejakiaa.CP Go.Proofs.Ytlnpmodhejakiaa.PV
set_option linter.unusedVariables false
set_option linter.unusedSimpArgs false
/-! the plain law -/
theorem ver_back (x : S69) (head : List Int) : ∀ (l : List S69) (i : Nat) (last : List Int), verP (l ++ [x]) i last head = 0 → rightP x = true ∧ x.f0 = (i : Int) + (l.length : Int) + 1 ∧ x.f9 = lastD l last ∧ verP l i last (lastD l last) = 0 ∧ digP x = head
  | [], i, last, h => by
    rw [List.nil_append] at h
    unfold verP at h
    split at h
    · rename_i c
      unfold verP at h
      split at h
      · rename_i e
        refine ⟨c.1, by rw [c.2.1]; simp, c.2.2, ?_, e⟩
        unfold verP lastD
        rw [if_pos rfl]
      · cases h
    · cases h
  | z :: l, i, last, h => by
    rw [List.cons_append] at h
    unfold verP at h
    split at h
    · rename_i c
      obtain ⟨h1, h2, h3, h4, h5⟩ := ver_back x head l (i + 1) (digP z) h; refine ⟨h1, by rw [h2, List.length_cons]; omega, h3, ?_, h5⟩
      unfold verP
      rw [if_pos c]
      exact h4
    · cases h
theorem forged_go : ∀ (n : Nat) (a b : List S69) (head : List Int), a.length = n → verP a 0 [] head = 0 → verP b 0 [] head = 0 → a = b ∨ ∃ p q, collP a b = some (p, q) ∧ digP p = digP q ∧ sameP p q = false ∧ rightP p = true ∧ rightP q = true := by
  intro n
  induction n with
  | zero =>
    intro a b head hn ha hb; obtain rfl := List.length_eq_zero_iff.1 hn
    rcases List.eq_nil_or_concat b with rfl | ⟨b', y, rfl⟩
    · exact Or.inl rfl
    · rw [List.concat_eq_append] at *
      obtain ⟨-, -, -, -, h5⟩ := ver_back y head b' 0 [] hb
      unfold verP at ha
      split at ha
      · rename_i e
        rw [← e] at h5; have := digP_len y; rw [h5] at this
        cases this
      · cases ha
  | succ n ih =>
    intro a b head hn ha hb
    rcases List.eq_nil_or_concat a with rfl | ⟨a', x, rfl⟩
    · cases hn
    · rw [List.concat_eq_append] at *
      obtain ⟨r1, e1, p1, v1, d1⟩ := ver_back x head a' 0 [] ha
      rcases List.eq_nil_or_concat b with rfl | ⟨b', y, rfl⟩
      · unfold verP at hb
        split at hb
        · rename_i e
          rw [← e] at d1; have := digP_len x; rw [d1] at this
          cases this
        · cases hb
      · rw [List.concat_eq_append] at *
        obtain ⟨r2, e2, p2, v2, d2⟩ := ver_back y head b' 0 [] hb
        have hc : collP (a' ++ [x]) (b' ++ [y]) = if sameP x y = true then collP a' b' else some (x, y) := by
          unfold collP
          rw [List.reverse_append, List.reverse_append]
          show collR (x :: a'.reverse) (y :: b'.reverse) = _
          rw [collR]
        cases hs : sameP x y with
        | true =>
          obtain rfl := (sameP_iff x y).1 hs; rw [← p1.symm.trans p2] at v2; rw [List.length_append, List.length_singleton] at hn
          rcases ih a' b' _ (by omega) v1 v2 with rfl | ⟨p, q, h1, h2⟩
          · exact Or.inl rfl
          · exact Or.inr ⟨p, q, by rw [hc, if_pos hs]; exact h1, h2⟩
        | false => exact Or.inr ⟨x, y, by rw [hc, if_neg (by rw [hs]; decide)], d1.trans d2.symm, hs, r1, r2⟩
theorem byteAt_natF (N i : Nat) : byteAt (N : Int) i = ((N / 256 ^ i % 256 : Nat) : Int) := by
  unfold byteAt
  have e : (2 : Int) ^ (8 * i) = ((256 ^ i : Nat) : Int) := by
    rw [Int.pow_mul, Int.natCast_pow]; rfl
  rw [e]
  rfl
theorem longL_foldF (N : Nat) : ∀ (m : Nat) (a : Int), (longL (N : Int) m).foldl (fun n x => n * 256 + x) a = a * ((256 ^ m : Nat) : Int) + ((N % 256 ^ m : Nat) : Int)
  | 0, a => by simp [longL, Nat.mod_one]
  | m + 1, a => by
    rw [longL, List.foldl_cons, longL_foldF N m, byteAt_natF, Nat.pow_succ, Nat.mod_mul]; generalize (256 ^ m : Nat) = p; generalize N / p % 256 = x; generalize N % p = y; rw [Int.natCast_add, Int.natCast_mul, Int.natCast_mul, Int.add_mul, Int.mul_assoc, Int.mul_comm 256 (p : Int), Int.mul_comm (x : Int) (p : Int), show ((256 : Nat) : Int) = 256 from rfl]
    omega
theorem longL_injF {a b : Int} {m : Nat} (ha : 0 ≤ a ∧ a < ((256 ^ m : Nat) : Int)) (hb : 0 ≤ b ∧ b < ((256 ^ m : Nat) : Int)) (h : longL a m = longL b m) : a = b := by
  obtain ⟨A, rfl⟩ := Int.eq_ofNat_of_zero_le ha.1
  obtain ⟨B, rfl⟩ := Int.eq_ofNat_of_zero_le hb.1
  have e1 := longL_foldF A m 0
  have e2 := longL_foldF B m 0
  rw [h, e2, Nat.mod_eq_of_lt (Int.ofNat_lt.1 ha.2), Nat.mod_eq_of_lt (Int.ofNat_lt.1 hb.2)] at e1
  omega
def puF (n : Int) : List Int := 117 :: longL n 8
def psF (s : Int) (t : List Int) : List Int := s :: (longL (t.length : Int) 4 ++ t)
theorem showP_eqF (x : S69) : showP x = puF x.f0 ++ (puF x.f1 ++ (psF 115 (bytesOf x.f2) ++ (puF (pos x.f3) ++ (psF 115 (bytesOf x.f4) ++ (psF 115 (bytesOf x.f5) ++ (puF x.f6 ++ (puF (pos x.f7) ++ (psF 98 x.f8 ++ (psF 98 x.f9 ++ []))))))))) := by
  unfold showP bytesL uintL textL puF psF
  simp only [List.append_assoc, List.cons_append, List.nil_append, List.append_nil, bytesOf_length]
theorem str_bytesF (s : ByteArray) : strOfNums (bytesOf s) = s := by
  unfold strOfNums bytesOf
  cases s with
  | mk a =>
    simp only [List.map_map]
    congr 1
    have e : (a.toList.map ((fun n : Int => UInt8.ofNat n.toNat) ∘ fun (c : UInt8) => (c.toNat : Int))) = a.toList := by
      conv => rhs; rw [← List.map_id a.toList]
      apply List.map_congr_left
      intro c _
      show UInt8.ofNat ((c.toNat : Int).toNat) = id c
      rw [Int.toNat_natCast]
      exact UInt8.ofNat_toNat
    simp [e]
theorem right_leF {x : S69} (h : rightP x = true) : (0 ≤ x.f3 ∧ x.f3 ≤ 19) ∧ 0 ≤ x.f7 ∧ x.f7 ≤ 9999 := by
  unfold rightP at h
  simp only [Bool.and_eq_true, decide_eq_true_eq] at h
  exact ⟨⟨h.1.1.1.1.1.1.2, h.1.1.1.1.1.2⟩, h.1.1.1.1.2, h.1.1.1.2⟩
theorem p8 : (256 ^ 8 : Nat) = 18446744073709551616 := by decide
theorem p4 : (256 ^ 4 : Nat) = 4294967296 := by decide
theorem pu_inj {n m : Int} {r s : List Int} (hn : 0 ≤ n ∧ n ≤ 18446744073709551615) (hm : 0 ≤ m ∧ m ≤ 18446744073709551615) (h : puF n ++ r = puF m ++ s) : n = m ∧ r = s := by
  unfold puF at h
  rw [List.cons_append, List.cons_append] at h
  have h2 := List.append_inj (List.cons.inj h).2 (by rw [longL_len, longL_len])
  exact ⟨longL_injF (m := 8) ⟨hn.1, by rw [p8]; omega⟩ ⟨hm.1, by rw [p8]; omega⟩ h2.1, h2.2⟩
theorem ps_inj {g : Int} {t u : List Int} {r s : List Int} (ht : t.length ≤ 4294967295) (hu : u.length ≤ 4294967295) (h : psF g t ++ r = psF g u ++ s) : t = u ∧ r = s := by
  unfold psF at h
  rw [List.cons_append, List.cons_append, List.append_assoc, List.append_assoc] at h
  have h2 := List.append_inj (List.cons.inj h).2 (by rw [longL_len, longL_len])
  have h3 := longL_injF (m := 4) ⟨Int.natCast_nonneg _, by rw [p4]; omega⟩ ⟨Int.natCast_nonneg _, by rw [p4]; omega⟩ h2.1
  exact List.append_inj h2.2 (Int.ofNat_inj.1 h3)
theorem bytes_inj {s t : ByteArray} (h : bytesOf s = bytesOf t) : s = t := by rw [← str_bytesF s, ← str_bytesF t, h]
theorem showP_inj {x y : S69} (hx : okX x) (hy : okX y) (rx : rightP x = true) (ry : rightP y = true) (h : showP x = showP y) : x = y := by
  have lx := right_leF rx
  have ly := right_leF ry
  have bx := hx.bulk
  have by_ := hy.bulk
  rw [showP_eqF, showP_eqF] at h
  have px3 : pos x.f3 = x.f3 := by unfold pos mx; split <;> omega
  have px7 : pos x.f7 = x.f7 := by unfold pos mx; split <;> omega
  have py3 : pos y.f3 = y.f3 := by unfold pos mx; split <;> omega
  have py7 : pos y.f7 = y.f7 := by unfold pos mx; split <;> omega
  rw [px3, px7, py3, py7] at h
  obtain ⟨e0, h⟩ := pu_inj hx.s0 hy.s0 h
  obtain ⟨e1, h⟩ := pu_inj hx.s1 hy.s1 h
  obtain ⟨e2, h⟩ := ps_inj (by rw [bytesOf_length]; omega) (by rw [bytesOf_length]; omega) h
  obtain ⟨e3, h⟩ := pu_inj ⟨lx.1.1, by omega⟩ ⟨ly.1.1, by omega⟩ h
  obtain ⟨e4, h⟩ := ps_inj (by rw [bytesOf_length]; omega) (by rw [bytesOf_length]; omega) h
  obtain ⟨e5, h⟩ := ps_inj (by rw [bytesOf_length]; omega) (by rw [bytesOf_length]; omega) h
  obtain ⟨e6, h⟩ := pu_inj hx.s6 hy.s6 h
  obtain ⟨e7, h⟩ := pu_inj ⟨lx.2.1, by omega⟩ ⟨ly.2.1, by omega⟩ h
  obtain ⟨e8, h⟩ := ps_inj (by omega) (by omega) h
  obtain ⟨e9, h⟩ := ps_inj (by omega) (by omega) h
  have e2 := bytes_inj e2
  have e4 := bytes_inj e4
  have e5 := bytes_inj e5
  cases x
  cases y
  simp only [S69.mk.injEq] at *
  exact ⟨e0, e1, e2, e3, e4, e5, e6, e7, e8, e9⟩
theorem forged_plain {a b : List S69} {head : List Int} (oa : ∀ y ∈ a, okX y) (ob : ∀ y ∈ b, okX y) (ha : verP a 0 [] head = 0) (hb : verP b 0 [] head = 0) (hne : a ≠ b) : ∃ p q, collP a b = some (p, q) ∧ (digP p == digP q) = true ∧ okX p ∧ okX q ∧ (showP p == showP q) = false := by
  rcases forged_go _ a b head rfl ha hb with h | ⟨p, q, h1, h2, h3, h4, h5⟩
  · exact absurd h hne
  · have m := collP_mem h1
    refine ⟨p, q, h1, by rw [h2, beq_self_eq_true], oa p m.1, ob q m.2, ?_⟩; rw [beq_eq_false_iff_ne]; intro e; have := showP_inj (oa p m.1) (ob q m.2) h4 h5 e; rw [(sameP_iff p q).2 this] at h3
    cases h3
theorem forged_none (a : List S69) : foundP a a = false := by
  unfold foundP
  rw [coll_none a a rfl (fun j _ => sameP_refl _)]
theorem list_same {a b : List S69} (hl : a.length = b.length) (h : ∀ j, j < a.length → sameP (rd_T69 a (j : Int)) (rd_T69 b (j : Int)) = true) : a = b := by
  have := tails_eq a b hl 0 (fun j _ hj => h j hj)
  rwa [List.drop_zero, List.drop_zero] at this
structure Cmp (a b : List S69) (i : Nat) (s : Bool) : Prop where
  t : s = true → a.length = b.length ∧ ∀ j, j < i → sameP (rd_T69 a (j : Int)) (rd_T69 b (j : Int)) = true
  f : s = false → a ≠ b
theorem Cmp.start (a b : List S69) : Cmp a b 0 (decide ((a.length : Int) = (b.length : Int))) := ⟨fun h => ⟨Int.ofNat_inj.1 (of_decide_eq_true h), fun j hj => absurd hj (Nat.not_lt_zero j)⟩, fun h e => by rw [e] at h; simp at h⟩
theorem Cmp.start2 (a b : List S69) (s : Bool) (h : s = (a.length == b.length)) : Cmp a b 0 s := ⟨fun e => ⟨by rw [e] at h; exact beq_iff_eq.1 h.symm, fun j hj => absurd hj (Nat.not_lt_zero j)⟩, fun e e' => by rw [e, e'] at h; simp at h⟩
theorem Cmp.next {a b : List S69} {i : Nat} (h : Cmp a b i true) {s : Bool} (hi : i < a.length) (hs : sameP (rd_T69 a (i : Int)) (rd_T69 b (i : Int)) = s) : Cmp a b (i + 1) s := by
  have ht := h.t rfl
  refine ⟨fun e => ⟨ht.1, fun j hj => ?_⟩, fun e e' => ?_⟩
  · rcases Nat.lt_or_ge j i with h1 | h1
    · exact ht.2 j h1
    · obtain rfl : j = i := by omega
      rw [hs, e]
  · rw [e', sameP_refl, e] at hs
    cases hs
theorem Cmp.eq {a b : List S69} {i : Nat} (h : Cmp a b i true) (hi : a.length ≤ i) : a = b := list_same (h.t rfl).1 (fun j hj => (h.t rfl).2 j (by omega))
theorem stepI3 (i n : Nat) (h : (i : Int) < (n : Int)) (hn : n ≤ 1000) : Value.int .i64 (wrap64 ((i : Int) + 1)) = .int .i64 ((i + 1 : Nat) : Int) := by
  rw [show wrap64 ((i : Int) + 1) = ((i + 1 : Nat) : Int) from by unfold wrap64; omega]
theorem stepM3 (i n : Nat) (h : (i : Int) < (n : Int)) (hn : n ≤ 1000) : n - (intOf (.int .i64 (wrap64 ((i : Int) + 1)))).toNat < n - (intOf (.int .i64 (i : Int))).toNat := by
  rw [stepI3 i n h hn]
  show n - (((i + 1 : Nat) : Int)).toNat < n - ((i : Int)).toNat
  rw [Int.toNat_natCast, Int.toNat_natCast]
  omega
theorem shaC (l : List Int) (hl : l.length ≤ 1000070) (hb : B255 l) (A : Option Addr) (c : Nat) (w : World) (hC : Kd.C (Kd.int .u8) w A l.length l) (hc : l.length ≤ c) :
    Calls Try.prog 33 #[.slice A l.length c] w fun e w' => ∃ B d, e = .returned (.slice B 32 d) ∧ Kd.C (Kd.int .u8) w' B 32 (sha256 l) ∧ 32 ≤ d ∧ Below w.heap.size w w' :=
  (steleref01_Sha256.calls A c l (sha256 l) w hC hc (by unfold steleref01_Sha256.f; rw [if_pos ⟨by omega, hb⟩])).mono fun e w' ⟨v, he, hr, hB⟩ => by
    obtain ⟨B, d, rfl, hd, hC'⟩ := Kd.R_reads hr; have e32 : (sha256 l).length = 32 := rfl; rw [e32] at *
    exact ⟨B, d, he, hC', hd, hB⟩
theorem bsame_ff (l m : List Int) (h : (l == m) = false) (hl : l.length ≤ 140737488355328) (A : Option Addr) (c : Nat) (A1 : Option Addr) (c1 : Nat) (w : World) (hC : Kd.C (Kd.int .u8) w A l.length l) (hc : l.length ≤ c) (hC1 : Kd.C (Kd.int .u8) w A1 m.length m) (hc1 : m.length ≤ c1) :
    Calls Try.prog 29 #[.slice A l.length c, .slice A1 m.length c1] w fun e w' => e = .returned (.bool false) ∧ Below w.heap.size w w' :=
  (bsame_c A c l A1 c1 m w hC hc hC1 hc1 hl).mono fun e w' ⟨he, hb⟩ => ⟨by rw [he, h], hb⟩
theorem bsame_32 (l m : List Int) (h : (l == m) = true) (hl : l.length = 32) (hm : m.length = 32) (A : Option Addr) (c : Nat) (A1 : Option Addr) (c1 : Nat) (w : World) (hC : Kd.C (Kd.int .u8) w A 32 l) (hc : 32 ≤ c) (hC1 : Kd.C (Kd.int .u8) w A1 32 m) (hc1 : 32 ≤ c1) :
    Calls Try.prog 29 #[.slice A 32 c, .slice A1 32 c1] w fun e w' => e = .returned (.bool true) ∧ Below w.heap.size w w' := by
  have h1 := bsame_c A c l A1 c1 m w
  rw [hl, hm, h] at h1
  exact h1 hC hc hC1 hc1 (by omega)
set_option maxHeartbeats 32000000 in
set_option maxRecDepth 100000 in
theorem forged_any (A : Option Addr) (ca : Nat) (a : List S69) (B : Option Addr) (cb : Nat) (b : List S69) (E : Option Addr) (ce : Nat) (head : List Int) (w : World) (hC : Kd.C k69 w A a.length a) (hc : a.length ≤ ca) (hD : Kd.C k69 w B b.length b) (hd : b.length ≤ cb) (hE : Kd.C (Kd.int .u8) w E head.length head) (he : head.length ≤ ce)
    (hl : a.length ≤ 140737488355328) (hl' : b.length ≤ 140737488355328) (hs : ∀ y ∈ a, smallX y) (hs' : ∀ y ∈ b, smallX y) (hk : lightP a = true → a.length ≤ 1000 ∧ ∀ y ∈ a, okX y) (hk' : lightP b = true → b.length ≤ 1000 ∧ ∀ y ∈ b, okX y) (hh : B255 head) :
    Calls Try.prog 21 #[.slice A a.length ca, .slice B b.length cb, .slice E head.length ce] w fun e w' => e = .returned (.bool true) ∧ Below w.heap.size w w' := by
  have hu69 := Try.underlying69
  have HB := Aside0.mk (Below.refl w.heap.size w)
  have HC := Aside0.mk hC
  have HD := Aside0.mk hD
  have HE := Aside0.mk hE
  obtain ⟨s, hsl⟩ : ∃ s, lightP a = s := ⟨_, rfl⟩
  obtain ⟨t, htl⟩ : ∃ t, lightP b = t := ⟨_, rfl⟩
  have LAc := Aside0.mk (fun W h => lightB A ca a s W h hc hl hs hsl)
  have LBc := Aside0.mk (fun W h => lightB B cb b t W h hd hl' hs' htl)
  cases s with
  | false =>
    clear hC hc hD hd hE he hl hl' hs hs' hk hk' hh hsl htl
    go_enter Try.func21, Try.ntmps21
    go_wp2_with (first
      | (go_at_call 73; (with_reducible refine (LAc.out _ (Kd.C_below HC.out HB.out)).mono ?_); rintro e w1 ⟨rfl, hb⟩; clear LAc; have nb_ := Aside0.mk (below_step HB.out hb); clear HB hb; have HB := nb_; clear nb_)
      | (go_at_call 74; (with_reducible refine (alive14 _).mono ?_); rintro e wz ⟨rfl, hb⟩; have nb_ := Aside0.mk (below_step HB.out hb); clear HB hb; have HB := nb_; clear nb_))
    go_ret
    exact ⟨rfl, HB.out⟩
  | true =>
    cases t with
    | false =>
      clear hC hc hD hd hE he hl hl' hs hs' hk hk' hh hsl htl
      go_enter Try.func21, Try.ntmps21
      go_wp2_with (first
        | (go_at_call 73; (with_reducible refine (LAc.out _ (Kd.C_below HC.out HB.out)).mono ?_); rintro e w1 ⟨rfl, hb⟩; clear LAc; have nb_ := Aside0.mk (below_step HB.out hb); clear HB hb; have HB := nb_; clear nb_)
        | (go_at_call 73; (with_reducible refine (LBc.out _ (Kd.C_below HD.out HB.out)).mono ?_); rintro e w2 ⟨rfl, hb⟩; clear LBc; have nb_ := Aside0.mk (below_step HB.out hb); clear HB hb; have HB := nb_; clear nb_)
        | (go_at_call 74; (with_reducible refine (alive14 _).mono ?_); rintro e wz ⟨rfl, hb⟩; have nb_ := Aside0.mk (below_step HB.out hb); clear HB hb; have HB := nb_; clear nb_))
      go_ret
      exact ⟨rfl, HB.out⟩
    | true =>
      obtain ⟨n1, o1⟩ := hk hsl; obtain ⟨n2, o2⟩ := hk' htl; have CA := Aside0.mk (fun W h1 h2 => acoll_c A ca a B cb b W h1 hc h2 hd n1 n2 o1 o2); have O1 := Aside0.mk o1; have O2 := Aside0.mk o2; have N1 := Aside0.mk n1; obtain ⟨va, hva⟩ : ∃ v, verP a 0 [] head = v := ⟨_, rfl⟩; obtain ⟨vb, hvb⟩ : ∃ v, verP b 0 [] head = v := ⟨_, rfl⟩; have VAc := Aside0.mk (fun W h1 h2 => ver_c A ca a E ce head W h1 hc h2 he n1 o1 hh); have VBc := Aside0.mk (fun W h1 h2 => ver_c B cb b E ce head W h1 hd h2 he n2 o2 hh); rw [hva] at VAc; rw [hvb] at VBc
      by_cases h0 : va = 0
      · subst h0
        by_cases h1 : vb = 0
        · subst h1
          have V1 := Aside0.mk hva; have V2 := Aside0.mk hvb; clear hC hc hD hd hE he hl hl' hs hs' hk hk' hh hsl htl n1 n2 o1 o2 hva hvb
          go_enter Try.func21, Try.ntmps21
          go_wp2_with (first
            | (go_at_call 73; (with_reducible refine (LAc.out _ (Kd.C_below HC.out HB.out)).mono ?_); rintro e w1 ⟨rfl, hb⟩; clear LAc; have nb_ := Aside0.mk (below_step HB.out hb); clear HB hb; have HB := nb_; clear nb_)
            | (go_at_call 73; (with_reducible refine (LBc.out _ (Kd.C_below HD.out HB.out)).mono ?_); rintro e w2 ⟨rfl, hb⟩; clear LBc; have nb_ := Aside0.mk (below_step HB.out hb); clear HB hb; have HB := nb_; clear nb_)
            | (go_at_call 78; (with_reducible refine (VAc.out _ (Kd.C_below HC.out HB.out) (Kd.C_below HE.out HB.out)).mono ?_); rintro e w3 ⟨rfl, hb⟩; clear VAc; have nb_ := Aside0.mk (below_step HB.out hb); clear HB hb; have HB := nb_; clear nb_)
            | (go_at_call 78; (with_reducible refine (VBc.out _ (Kd.C_below HD.out HB.out) (Kd.C_below HE.out HB.out)).mono ?_); rintro e w4 ⟨rfl, hb⟩; clear VBc; have nb_ := Aside0.mk (below_step HB.out hb); clear HB hb; have HB := nb_; clear nb_))
          go_loopw [7, 8] (fun v7 v8 wr => ∃ (s : Bool) (i : Nat), v7 = .bool s ∧ v8 = .int .i64 (i : Int) ∧ i ≤ a.length ∧ Aside0 (Cmp a b i s) ∧ Aside0 (Below w.heap.size w wr)) (fun _ v _ => a.length - (intOf v).toNat)
          case atStart => exact ⟨_, 0, rfl, rfl, Nat.zero_le _, ⟨by first | exact Cmp.start a b | exact Cmp.start2 a b _ rfl | (refine Cmp.start2 a b _ ?_; simp; done)⟩, HB⟩
          case round =>
            clear HB; obtain ⟨s, i, rfl, rfl, hi, HM, HB⟩ := hrel
            by_cases hlt : i < a.length
            · have d0 : decide ((i : Int) < (a.length : Int)) = true := decide_eq_true (by omega)
              have d1 : decide (i < a.length) = true := decide_eq_true hlt
              have p1 : (i : Int) < (a.length : Int) := by omega
              cases s with
              | true =>
                have hab := (HM.out.t rfl).1; obtain ⟨ad, P8, c8, P9, c9, hA, hx0, hx1, hx2, hx3, hx4, hx5, hx6, hx7, hx8, hx9, l8, C8, l9, C9⟩ := at_T69 HC.out (i : Int) (by omega) (by omega)
                subst hA
                obtain ⟨bd, Q8, d8, Q9, d9, hB, hy0, hy1, hy2, hy3, hy4, hy5, hy6, hy7, hy8, hy9, m8, E8, m9, E9⟩ := at_T69 HD.out (i : Int) (by omega) (by omega)
                subst hB
                have ka := O1.out (rd_T69 a (i : Int)) (by rw [rdT a _ hlt]; exact List.getElem_mem _); have kb := O2.out (rd_T69 b (i : Int)) (by rw [rdT b _ (by omega)]; exact List.getElem_mem _); obtain ⟨r, hr⟩ : ∃ r, sameP (rd_T69 a (i : Int)) (rd_T69 b (i : Int)) = r := ⟨_, rfl⟩; have HMN := Aside0.mk (HM.out.next hlt hr); rw [Int.toNat_natCast] at hx0 hx1 hx2 hx3 hx4 hx5 hx6 hx7 hx8 hx9 hy0 hy1 hy2 hy3 hy4 hy5 hy6 hy7 hy8 hy9; obtain ⟨p, hp⟩ : ∃ p, rd_T69 a (i : Int) = p := ⟨_, rfl⟩; obtain ⟨q, hq⟩ : ∃ q, rd_T69 b (i : Int) = q := ⟨_, rfl⟩; rw [hp] at hx0 hx1 hx2 hx3 hx4 hx5 hx6 hx7 hx8 hx9 l8 C8 l9 C9 ka hr; rw [hq] at hy0 hy1 hy2 hy3 hy4 hy5 hy6 hy7 hy8 hy9 m8 E8 m9 E9 kb hr; have PR := Aside0.mk (show RecC w p P8 c8 P9 c9 from ⟨C8, l8, C9, l9⟩); have QR := Aside0.mk (show RecC w q Q8 d8 Q9 d9 from ⟨E8, m8, E9, m9⟩); have PK := Aside0.mk ka; have QK := Aside0.mk kb; have HP0 := Aside0.mk hx0; have HP1 := Aside0.mk hx1; have HP2 := Aside0.mk hx2; have HP3 := Aside0.mk hx3; have HP4 := Aside0.mk hx4; have HP5 := Aside0.mk hx5; have HP6 := Aside0.mk hx6; have HP7 := Aside0.mk hx7; have HP8 := Aside0.mk hx8; have HP9 := Aside0.mk hx9; have HQ0 := Aside0.mk hy0; have HQ1 := Aside0.mk hy1; have HQ2 := Aside0.mk hy2; have HQ3 := Aside0.mk hy3; have HQ4 := Aside0.mk hy4; have HQ5 := Aside0.mk hy5; have HQ6 := Aside0.mk hy6; have HQ7 := Aside0.mk hy7; have HQ8 := Aside0.mk hy8; have HQ9 := Aside0.mk hy9; have NS := Aside0.mk (fun W h1 h2 => rsame_c p P8 c8 P9 c9 q Q8 d8 Q9 d9 W h1 PK.out h2 QK.out); rw [hr] at NS
                have p2 : (i : Int) < (b.length : Int) := by omega
                clear hlt hi hab hr hp hq ka kb l8 C8 l9 C9 m8 E8 m9 E9 hx0 hx1 hx2 hx3 hx4 hx5 hx6 hx7 hx8 hx9 hy0 hy1 hy2 hy3 hy4 hy5 hy6 hy7 hy8 hy9; go_wp2; have hb_ := Aside0.mk (below_drew1 HB.out); clear HB; have HB := hb_; clear hb_
                refine start_ (n := 10) (S := fun w' => w'.cell? (ad.add (i * 10)) = some (.int .u64 p.f0) ∧ w'.cell? ⟨(ad.add (i * 10)).block, (ad.add (i * 10)).off + 1, none⟩ = some (.int .u64 p.f1) ∧ w'.cell? ⟨(ad.add (i * 10)).block, (ad.add (i * 10)).off + 2, none⟩ = some (.string p.f2) ∧ w'.cell? ⟨(ad.add (i * 10)).block, (ad.add (i * 10)).off + 3, none⟩ = some (.int .i64 p.f3) ∧ w'.cell? ⟨(ad.add (i * 10)).block, (ad.add (i * 10)).off + 4, none⟩ = some (.string p.f4) ∧ w'.cell? ⟨(ad.add (i * 10)).block, (ad.add (i * 10)).off + 5, none⟩ = some (.string p.f5) ∧ w'.cell? ⟨(ad.add (i * 10)).block, (ad.add (i * 10)).off + 6, none⟩ = some (.int .u64 p.f6) ∧ w'.cell? ⟨(ad.add (i * 10)).block, (ad.add (i * 10)).off + 7, none⟩ = some (.int .i64 p.f7) ∧ w'.cell? ⟨(ad.add (i * 10)).block, (ad.add (i * 10)).off + 8, none⟩ = some (.slice P8 p.f8.length c8) ∧ w'.cell? ⟨(ad.add (i * 10)).block, (ad.add (i * 10)).off + 9, none⟩ = some (.slice P9 p.f9.length c9) ∧ w'.cell? (bd.add (i * 10)) = some (.int .u64 q.f0) ∧ w'.cell? ⟨(bd.add (i * 10)).block, (bd.add (i * 10)).off + 1, none⟩ = some (.int .u64 q.f1) ∧ w'.cell? ⟨(bd.add (i * 10)).block, (bd.add (i * 10)).off + 2, none⟩ = some (.string q.f2) ∧ w'.cell? ⟨(bd.add (i * 10)).block, (bd.add (i * 10)).off + 3, none⟩ = some (.int .i64 q.f3) ∧ w'.cell? ⟨(bd.add (i * 10)).block, (bd.add (i * 10)).off + 4, none⟩ = some (.string q.f4) ∧ w'.cell? ⟨(bd.add (i * 10)).block, (bd.add (i * 10)).off + 5, none⟩ = some (.string q.f5) ∧ w'.cell? ⟨(bd.add (i * 10)).block, (bd.add (i * 10)).off + 6, none⟩ = some (.int .u64 q.f6) ∧ w'.cell? ⟨(bd.add (i * 10)).block, (bd.add (i * 10)).off + 7, none⟩ = some (.int .i64 q.f7) ∧ w'.cell? ⟨(bd.add (i * 10)).block, (bd.add (i * 10)).off + 8, none⟩ = some (.slice Q8 q.f8.length d8) ∧ w'.cell? ⟨(bd.add (i * 10)).block, (bd.add (i * 10)).off + 9, none⟩ = some (.slice Q9 q.f9.length d9)) (ds := []) #[false, false, false, false, false, false, false, false, false, false] (by kernel_rfl) rfl rfl ⟨(HB.out.cell (World.block_lt_of_cell? w _ HP0.out)).trans HP0.out, (HB.out.cell (World.block_lt_of_cell? w _ HP1.out)).trans HP1.out, (HB.out.cell (World.block_lt_of_cell? w _ HP2.out)).trans HP2.out, (HB.out.cell (World.block_lt_of_cell? w _ HP3.out)).trans HP3.out, (HB.out.cell (World.block_lt_of_cell? w _ HP4.out)).trans HP4.out, (HB.out.cell (World.block_lt_of_cell? w _ HP5.out)).trans HP5.out, (HB.out.cell (World.block_lt_of_cell? w _ HP6.out)).trans HP6.out, (HB.out.cell (World.block_lt_of_cell? w _ HP7.out)).trans HP7.out, (HB.out.cell (World.block_lt_of_cell? w _ HP8.out)).trans HP8.out, (HB.out.cell (World.block_lt_of_cell? w _ HP9.out)).trans HP9.out, (HB.out.cell (World.block_lt_of_cell? w _ HQ0.out)).trans HQ0.out, (HB.out.cell (World.block_lt_of_cell? w _ HQ1.out)).trans HQ1.out, (HB.out.cell (World.block_lt_of_cell? w _ HQ2.out)).trans HQ2.out, (HB.out.cell (World.block_lt_of_cell? w _ HQ3.out)).trans HQ3.out, (HB.out.cell (World.block_lt_of_cell? w _ HQ4.out)).trans HQ4.out, (HB.out.cell (World.block_lt_of_cell? w _ HQ5.out)).trans HQ5.out, (HB.out.cell (World.block_lt_of_cell? w _ HQ6.out)).trans HQ6.out, (HB.out.cell (World.block_lt_of_cell? w _ HQ7.out)).trans HQ7.out, (HB.out.cell (World.block_lt_of_cell? w _ HQ8.out)).trans HQ8.out, (HB.out.cell (World.block_lt_of_cell? w _ HQ9.out)).trans HQ9.out⟩ (fun hHeld => ?_)
                generalize World.drew wr = wd at HB hHeld ⊢; refine pure_ (i := 0) (N := some 46) (v := ?_) (a' := ?_) #[true, false, false, false, false, false, false, false, false, false] rfl rfl (by kernel_rfl) (fun _ _ _ h => h) (Or.inl ⟨by rfl, ?_⟩) ?_ ?_; rotate_left
                · intro w'
                  go_simp
                  with_reducible rfl
                rotate_left
                · simp only [Act.put, List.setIfInBounds_toArray, List.set_cons_zero, List.set_cons_succ, i64_w, i32_w]
                  rfl
                refine pure_ (i := 1) (N := some 47) (v := ?_) (a' := ?_) #[true, true, false, false, false, false, false, false, false, false] rfl rfl (by kernel_rfl) (fun _ _ _ h => h) (Or.inl ⟨by rfl, ?_⟩) ?_ ?_; rotate_left
                · intro w'
                  go_simp
                  with_reducible rfl
                rotate_left
                · simp only [Act.put, List.setIfInBounds_toArray, List.set_cons_zero, List.set_cons_succ, i64_w, i32_w]
                  rfl
                refine pure_ (i := 2) (N := some 48) (v := ?_) (a' := ?_) #[true, true, true, false, false, false, false, false, false, false] rfl rfl (by kernel_rfl) (fun _ _ _ h => h) (Or.inl ⟨by rfl, ?_⟩) ?_ ?_; rotate_left
                · intro w'
                  go_simp
                  with_reducible rfl
                rotate_left
                · simp only [Act.put, List.setIfInBounds_toArray, List.set_cons_zero, List.set_cons_succ, i64_w, i32_w]
                  rfl
                refine pure_ (i := 4) (N := some 50) (v := ?_) (a' := ?_) #[true, true, true, false, true, false, false, false, false, false] rfl rfl (by kernel_rfl) (fun _ _ _ h => h) (Or.inl ⟨by rfl, ?_⟩) ?_ ?_; rotate_left
                · intro w'
                  go_simp
                  with_reducible rfl
                rotate_left
                · simp only [Act.put, List.setIfInBounds_toArray, List.set_cons_zero, List.set_cons_succ, i64_w, i32_w]
                  rfl
                refine pure_ (i := 5) (N := some 51) (v := ?_) (a' := ?_) #[true, true, true, false, true, true, false, false, false, false] rfl rfl (by kernel_rfl) (fun _ _ _ h => h) (Or.inl ⟨by rfl, ?_⟩) ?_ ?_; rotate_left
                · intro w'
                  go_simp
                  with_reducible rfl
                rotate_left
                · simp only [Act.put, List.setIfInBounds_toArray, List.set_cons_zero, List.set_cons_succ, i64_w, i32_w]
                  rfl
                refine pure_ (i := 6) (N := some 52) (v := ?_) (a' := ?_) #[true, true, true, false, true, true, true, false, false, false] rfl rfl (by kernel_rfl) (fun _ _ _ h => h) (Or.inl ⟨by rfl, ?_⟩) ?_ ?_; rotate_left
                · intro w'
                  go_simp
                  with_reducible rfl
                rotate_left
                · simp only [Act.put, List.setIfInBounds_toArray, List.set_cons_zero, List.set_cons_succ, i64_w, i32_w]
                  rfl
                refine take_ (i := 3) (N := some 49) (v := ?_) (a' := ?_) #[true, true, true, true, true, true, true, false, false, false] rfl rfl (by kernel_rfl) (fun _ _ _ h => h) (Or.inl ⟨by rfl, ?_⟩) hHeld ?_ ?_; rotate_left
                · rintro w' ⟨s0, s1, s2, s3, s4, s5, s6, s7, s8, s9, s10, s11, s12, s13, s14, s15, s16, s17, s18, s19⟩
                  go_simp
                  with_reducible rfl
                rotate_left
                · simp only [Act.put, List.setIfInBounds_toArray, List.set_cons_zero, List.set_cons_succ, i64_w, i32_w]
                  rfl
                refine take_ (i := 7) (N := some 53) (v := ?_) (a' := ?_) #[true, true, true, true, true, true, true, true, false, false] rfl rfl (by kernel_rfl) (fun _ _ _ h => h) (Or.inl ⟨by rfl, ?_⟩) hHeld ?_ ?_; rotate_left
                · rintro w' ⟨s0, s1, s2, s3, s4, s5, s6, s7, s8, s9, s10, s11, s12, s13, s14, s15, s16, s17, s18, s19⟩
                  go_simp
                  with_reducible rfl
                rotate_left
                · simp only [Act.put, List.setIfInBounds_toArray, List.set_cons_zero, List.set_cons_succ, i64_w, i32_w]
                  rfl
                refine one_ (i := 8) (N := some 54) #[true, true, true, true, true, true, true, true, true, false] rfl rfl (by kernel_rfl) (by decide) (fun K hK => ?_); refine goes_ Try.func75 (by kernel_rfl) rfl #[.agg #[.int .u64 p.f0, .int .u64 p.f1, .string p.f2, .int .i64 p.f3, .string p.f4, .string p.f5, .int .u64 p.f6, .int .i64 p.f7, .slice P8 p.f8.length c8, .slice P9 p.f9.length c9], .agg #[.int .u64 q.f0, .int .u64 q.f1, .string q.f2, .int .i64 q.f3, .string q.f4, .string q.f5, .int .u64 q.f6, .int .i64 q.f7, .slice Q8 q.f8.length d8, .slice Q9 q.f9.length d9]] (by rfl) rfl rfl (by first | (simp only [List.map_toArray, List.map_cons, List.map_nil]; done) | (simp only [List.map_toArray, List.map_cons, List.map_nil]; rfl)) ?_
                with_reducible refine (NS.out _ (PR.out.below HB.out) (QR.out.below HB.out)).mono ?_
                rintro e wh ⟨rfl, hb⟩; refine ⟨_, rfl, ?_⟩; have nb_ := Aside0.mk (below_step HB.out hb); clear HB hb; have HB := nb_; clear nb_; refine hK.out _ _ ⟨(HB.out.cell (World.block_lt_of_cell? w _ HP0.out)).trans HP0.out, (HB.out.cell (World.block_lt_of_cell? w _ HP1.out)).trans HP1.out, (HB.out.cell (World.block_lt_of_cell? w _ HP2.out)).trans HP2.out, (HB.out.cell (World.block_lt_of_cell? w _ HP3.out)).trans HP3.out, (HB.out.cell (World.block_lt_of_cell? w _ HP4.out)).trans HP4.out, (HB.out.cell (World.block_lt_of_cell? w _ HP5.out)).trans HP5.out, (HB.out.cell (World.block_lt_of_cell? w _ HP6.out)).trans HP6.out, (HB.out.cell (World.block_lt_of_cell? w _ HP7.out)).trans HP7.out, (HB.out.cell (World.block_lt_of_cell? w _ HP8.out)).trans HP8.out, (HB.out.cell (World.block_lt_of_cell? w _ HP9.out)).trans HP9.out, (HB.out.cell (World.block_lt_of_cell? w _ HQ0.out)).trans HQ0.out, (HB.out.cell (World.block_lt_of_cell? w _ HQ1.out)).trans HQ1.out, (HB.out.cell (World.block_lt_of_cell? w _ HQ2.out)).trans HQ2.out, (HB.out.cell (World.block_lt_of_cell? w _ HQ3.out)).trans HQ3.out, (HB.out.cell (World.block_lt_of_cell? w _ HQ4.out)).trans HQ4.out, (HB.out.cell (World.block_lt_of_cell? w _ HQ5.out)).trans HQ5.out, (HB.out.cell (World.block_lt_of_cell? w _ HQ6.out)).trans HQ6.out, (HB.out.cell (World.block_lt_of_cell? w _ HQ7.out)).trans HQ7.out, (HB.out.cell (World.block_lt_of_cell? w _ HQ8.out)).trans HQ8.out, (HB.out.cell (World.block_lt_of_cell? w _ HQ9.out)).trans HQ9.out⟩ (fun hHeld => ?_); clear hK K; refine norm_ (a' := ?_) ?_ ?_; rotate_left
                · show Act.put _ (some 54) _ = _
                  simp only [Act.put, List.setIfInBounds_toArray, List.set_cons_zero, List.set_cons_succ, i64_w, i32_w]
                  rfl
                refine pure_ (i := 9) (N := some 7) (v := ?_) (a' := ?_) #[true, true, true, true, true, true, true, true, true, true] rfl rfl (by kernel_rfl) (fun _ _ _ h => h) (Or.inl ⟨by rfl, ?_⟩) ?_ ?_; rotate_left
                · intro w'
                  go_simp
                  with_reducible rfl
                rotate_left
                · simp only [Act.put, List.setIfInBounds_toArray, List.set_cons_zero, List.set_cons_succ, i64_w, i32_w]
                  rfl
                refine done_ (by kernel_rfl) ?_; go_wp2
                go_roundw
                case measure => exact stepM3 i a.length p1 N1.out
                case rel => exact ⟨r, i + 1, rfl, stepI3 i a.length p1 N1.out, Int.ofNat_lt.1 p1, HMN, HB⟩
              | false =>
                obtain ⟨p, q, hpq, hdd, okp, okq, hsh⟩ := forged_plain O1.out O2.out V1.out V2.out (HM.out.f rfl); have HF := Aside0.mk (And.intro hpq hdd); have S1 := Aside0.mk (fun A c A1 c1 W h1 h2 h3 h4 => bsame_ff (showP p) (showP q) hsh (show_le p okp) A c A1 c1 W h1 h2 h3 h4); have HP1 := Aside0.mk (fun A c W h1 h2 => shaC (showP p) (by rw [showP_len]; have := okp.bulk; omega) (showP_bd p okp) A c W h1 h2); have HQ1 := Aside0.mk (fun A c W h1 h2 => shaC (showP q) (by rw [showP_len]; have := okq.bulk; omega) (showP_bd q okq) A c W h1 h2); have S2 := Aside0.mk (fun A c A1 c1 W h1 h2 h3 h4 => bsame_32 (sha256 (showP p)) (sha256 (showP q)) hdd rfl rfl A c A1 c1 W h1 h2 h3 h4); clear hpq hdd okp okq hsh
                go_wp2_with (first
                  | (go_at_call 87; (with_reducible refine (CA.out _ (Kd.C_below HC.out HB.out) (Kd.C_below HD.out HB.out)).mono ?_); rintro e w5 hp; obtain ⟨Ua, uc, Ub, ud, rfl, c1, c2, c3, c4, hb⟩ := coll_t HF.out.1 HF.out.2 hp; have U1 := Aside0.mk c1; have U2 := Aside0.mk c2; have U3 := Aside0.mk c3; have U4 := Aside0.mk c4; clear hp c1 c2 c3 c4 CA; have nb_ := Aside0.mk (below_step HB.out hb); clear HB hb; have HB := nb_; clear nb_)
                  | (go_at_call 29; (with_reducible refine (S1.out _ _ _ _ _ U1.out U2.out U3.out U4.out).mono ?_); rintro e w6 ⟨rfl, hb⟩; have mU1_ := Aside0.mk (Kd.C_below U1.out hb); clear U1; have U1 := mU1_; clear mU1_; have mU3_ := Aside0.mk (Kd.C_below U3.out hb); clear U3; have U3 := mU3_; clear mU3_; clear S1; have nb_ := Aside0.mk (below_step HB.out hb); clear HB hb; have HB := nb_; clear nb_)
                  | (go_at_call 33; (with_reducible refine (HP1.out _ _ _ U1.out U2.out).mono ?_); rintro e w7 ⟨Ga, ga, rfl, hC1, hd1, hb⟩; have G1 := Aside0.mk hC1; have G2 := Aside0.mk hd1; clear hC1 hd1 HP1; have mU3_ := Aside0.mk (Kd.C_below U3.out hb); clear U3; have U3 := mU3_; clear mU3_; have nb_ := Aside0.mk (below_step HB.out hb); clear HB hb; have HB := nb_; clear nb_)
                  | (go_at_call 33; (with_reducible refine (HQ1.out _ _ _ U3.out U4.out).mono ?_); rintro e w8 ⟨Gb, gb, rfl, hC1, hd1, hb⟩; have G3 := Aside0.mk hC1; have G4 := Aside0.mk hd1; clear hC1 hd1 HQ1; have mG1_ := Aside0.mk (Kd.C_below G1.out hb); clear G1; have G1 := mG1_; clear mG1_; have nb_ := Aside0.mk (below_step HB.out hb); clear HB hb; have HB := nb_; clear nb_)
                  | (go_at_call 29; (with_reducible refine (S2.out _ _ _ _ _ G1.out G2.out G3.out G4.out).mono ?_); rintro e w9 ⟨rfl, hb⟩; clear S2; have nb_ := Aside0.mk (below_step HB.out hb); clear HB hb; have HB := nb_; clear nb_)
                  | (go_at_call 74; (with_reducible refine (alive14 _).mono ?_); rintro e wz ⟨rfl, hb⟩; have nb_ := Aside0.mk (below_step HB.out hb); clear HB hb; have HB := nb_; clear nb_))
                go_ret
                exact ⟨rfl, HB.out⟩
            · have d0 : decide ((i : Int) < (a.length : Int)) = false := decide_eq_false (by omega)
              have d1 : decide (i < a.length) = false := decide_eq_false hlt
              cases s with
              | true =>
                have HF := Aside0.mk (show foundP a b = false from (by rw [HM.out.eq (Nat.not_lt.1 hlt)]; exact forged_none b))
                go_wp2_with (first
                  | (go_at_call 87; (with_reducible refine (CA.out _ (Kd.C_below HC.out HB.out) (Kd.C_below HD.out HB.out)).mono ?_); rintro e w5 hp; obtain ⟨rfl, hb⟩ := coll_f HF.out hp; clear hp CA; have nb_ := Aside0.mk (below_step HB.out hb); clear HB hb; have HB := nb_; clear nb_)
                  | (go_at_call 74; (with_reducible refine (alive14 _).mono ?_); rintro e wz ⟨rfl, hb⟩; have nb_ := Aside0.mk (below_step HB.out hb); clear HB hb; have HB := nb_; clear nb_))
                go_ret
                exact ⟨rfl, HB.out⟩
              | false =>
                obtain ⟨p, q, hpq, hdd, okp, okq, hsh⟩ := forged_plain O1.out O2.out V1.out V2.out (HM.out.f rfl); have HF := Aside0.mk (And.intro hpq hdd); have S1 := Aside0.mk (fun A c A1 c1 W h1 h2 h3 h4 => bsame_ff (showP p) (showP q) hsh (show_le p okp) A c A1 c1 W h1 h2 h3 h4); have HP1 := Aside0.mk (fun A c W h1 h2 => shaC (showP p) (by rw [showP_len]; have := okp.bulk; omega) (showP_bd p okp) A c W h1 h2); have HQ1 := Aside0.mk (fun A c W h1 h2 => shaC (showP q) (by rw [showP_len]; have := okq.bulk; omega) (showP_bd q okq) A c W h1 h2); have S2 := Aside0.mk (fun A c A1 c1 W h1 h2 h3 h4 => bsame_32 (sha256 (showP p)) (sha256 (showP q)) hdd rfl rfl A c A1 c1 W h1 h2 h3 h4); clear hpq hdd okp okq hsh
                go_wp2_with (first
                  | (go_at_call 87; (with_reducible refine (CA.out _ (Kd.C_below HC.out HB.out) (Kd.C_below HD.out HB.out)).mono ?_); rintro e w5 hp; obtain ⟨Ua, uc, Ub, ud, rfl, c1, c2, c3, c4, hb⟩ := coll_t HF.out.1 HF.out.2 hp; have U1 := Aside0.mk c1; have U2 := Aside0.mk c2; have U3 := Aside0.mk c3; have U4 := Aside0.mk c4; clear hp c1 c2 c3 c4 CA; have nb_ := Aside0.mk (below_step HB.out hb); clear HB hb; have HB := nb_; clear nb_)
                  | (go_at_call 29; (with_reducible refine (S1.out _ _ _ _ _ U1.out U2.out U3.out U4.out).mono ?_); rintro e w6 ⟨rfl, hb⟩; have mU1_ := Aside0.mk (Kd.C_below U1.out hb); clear U1; have U1 := mU1_; clear mU1_; have mU3_ := Aside0.mk (Kd.C_below U3.out hb); clear U3; have U3 := mU3_; clear mU3_; clear S1; have nb_ := Aside0.mk (below_step HB.out hb); clear HB hb; have HB := nb_; clear nb_)
                  | (go_at_call 33; (with_reducible refine (HP1.out _ _ _ U1.out U2.out).mono ?_); rintro e w7 ⟨Ga, ga, rfl, hC1, hd1, hb⟩; have G1 := Aside0.mk hC1; have G2 := Aside0.mk hd1; clear hC1 hd1 HP1; have mU3_ := Aside0.mk (Kd.C_below U3.out hb); clear U3; have U3 := mU3_; clear mU3_; have nb_ := Aside0.mk (below_step HB.out hb); clear HB hb; have HB := nb_; clear nb_)
                  | (go_at_call 33; (with_reducible refine (HQ1.out _ _ _ U3.out U4.out).mono ?_); rintro e w8 ⟨Gb, gb, rfl, hC1, hd1, hb⟩; have G3 := Aside0.mk hC1; have G4 := Aside0.mk hd1; clear hC1 hd1 HQ1; have mG1_ := Aside0.mk (Kd.C_below G1.out hb); clear G1; have G1 := mG1_; clear mG1_; have nb_ := Aside0.mk (below_step HB.out hb); clear HB hb; have HB := nb_; clear nb_)
                  | (go_at_call 29; (with_reducible refine (S2.out _ _ _ _ _ G1.out G2.out G3.out G4.out).mono ?_); rintro e w9 ⟨rfl, hb⟩; clear S2; have nb_ := Aside0.mk (below_step HB.out hb); clear HB hb; have HB := nb_; clear nb_)
                  | (go_at_call 74; (with_reducible refine (alive14 _).mono ?_); rintro e wz ⟨rfl, hb⟩; have nb_ := Aside0.mk (below_step HB.out hb); clear HB hb; have HB := nb_; clear nb_))
                go_ret
                exact ⟨rfl, HB.out⟩
        · have h2 : (vb == 0) = false := by rw [beq_eq_false_iff_ne]; exact h1
          have h3 : (vb != 0) = true := by rw [bne_iff_ne]; exact h1
          clear hC hc hD hd hE he hl hl' hs hs' hk hk' hh hsl htl n1 n2 o1 o2 hva hvb CA
          go_enter Try.func21, Try.ntmps21
          go_wp2_with (first
            | (go_at_call 73; (with_reducible refine (LAc.out _ (Kd.C_below HC.out HB.out)).mono ?_); rintro e w1 ⟨rfl, hb⟩; clear LAc; have nb_ := Aside0.mk (below_step HB.out hb); clear HB hb; have HB := nb_; clear nb_)
            | (go_at_call 73; (with_reducible refine (LBc.out _ (Kd.C_below HD.out HB.out)).mono ?_); rintro e w2 ⟨rfl, hb⟩; clear LBc; have nb_ := Aside0.mk (below_step HB.out hb); clear HB hb; have HB := nb_; clear nb_)
            | (go_at_call 78; (with_reducible refine (VAc.out _ (Kd.C_below HC.out HB.out) (Kd.C_below HE.out HB.out)).mono ?_); rintro e w3 ⟨rfl, hb⟩; clear VAc; have nb_ := Aside0.mk (below_step HB.out hb); clear HB hb; have HB := nb_; clear nb_)
            | (go_at_call 78; (with_reducible refine (VBc.out _ (Kd.C_below HD.out HB.out) (Kd.C_below HE.out HB.out)).mono ?_); rintro e w4 ⟨rfl, hb⟩; clear VBc; have nb_ := Aside0.mk (below_step HB.out hb); clear HB hb; have HB := nb_; clear nb_)
            | (go_at_call 74; (with_reducible refine (alive14 _).mono ?_); rintro e wz ⟨rfl, hb⟩; have nb_ := Aside0.mk (below_step HB.out hb); clear HB hb; have HB := nb_; clear nb_))
          go_ret
          exact ⟨rfl, HB.out⟩
      · have h2 : (va == 0) = false := by rw [beq_eq_false_iff_ne]; exact h0
        have h3 : (va != 0) = true := by rw [bne_iff_ne]; exact h0
        clear hC hc hD hd hE he hl hl' hs hs' hk hk' hh hsl htl n1 n2 o1 o2 hva hvb CA
        go_enter Try.func21, Try.ntmps21
        go_wp2_with (first
          | (go_at_call 73; (with_reducible refine (LAc.out _ (Kd.C_below HC.out HB.out)).mono ?_); rintro e w1 ⟨rfl, hb⟩; clear LAc; have nb_ := Aside0.mk (below_step HB.out hb); clear HB hb; have HB := nb_; clear nb_)
          | (go_at_call 73; (with_reducible refine (LBc.out _ (Kd.C_below HD.out HB.out)).mono ?_); rintro e w2 ⟨rfl, hb⟩; clear LBc; have nb_ := Aside0.mk (below_step HB.out hb); clear HB hb; have HB := nb_; clear nb_)
          | (go_at_call 78; (with_reducible refine (VAc.out _ (Kd.C_below HC.out HB.out) (Kd.C_below HE.out HB.out)).mono ?_); rintro e w3 ⟨rfl, hb⟩; clear VAc; have nb_ := Aside0.mk (below_step HB.out hb); clear HB hb; have HB := nb_; clear nb_)
          | (go_at_call 74; (with_reducible refine (alive14 _).mono ?_); rintro e wz ⟨rfl, hb⟩; have nb_ := Aside0.mk (below_step HB.out hb); clear HB hb; have HB := nb_; clear nb_))
        go_ret
        exact ⟨rfl, HB.out⟩
end Go.Proofs.Ytlnpmodhejakiaa.AV
namespace Go.Proofs.Ytlnpmodhejakiaa.PV
open Go.RowKit Go.Proofs.YtlnpmodhejakiaaW.PrintWords Go.Proofs.YtlnpmodhejakiaaW.PrintLast Go.Proofs.YtlnpmodhejakiaaW.PrintMore Go.Proofs.Ytlnpmodhejakiaa.D Go.Proofs.Ytlnpmodhejakiaa.AV
open Classical in
noncomputable def stelelaw14_AuditForged.f (l0 : List S69) (l1 : List S69) (l2 : List Int) : Option Bool := if l0.length ≤ 140737488355328 ∧ (∀ y ∈ l0, rawX y) ∧ l1.length ≤ 140737488355328 ∧ (∀ y ∈ l1, rawX y) ∧ B255 l2 then some true else none
theorem stelelaw14_AuditForged.calls (A0 : Option Addr) (c0 : Nat) (l0 : List S69) (A1 : Option Addr) (c1 : Nat) (l1 : List S69) (A2 : Option Addr) (c2 : Nat) (l2 : List Int) (r : Bool) (w : World) (hr0 : Kd.C k69 w A0 l0.length l0) (hc0 : l0.length ≤ c0) (hr1 : Kd.C k69 w A1 l1.length l1) (hc1 : l1.length ≤ c1) (hr2 : Kd.C (Kd.int .u8) w A2 l2.length l2) (hc2 : l2.length ≤ c2) (h : stelelaw14_AuditForged.f l0 l1 l2 = some r) :
    Calls Try.prog 21 #[.slice A0 l0.length c0, .slice A1 l1.length c1, .slice A2 l2.length c2] w fun e w' => e = .returned (.bool r) ∧ Below w.heap.size w w' := by
  unfold stelelaw14_AuditForged.f at h
  split at h
  · rename_i hh
    obtain rfl := Option.some.inj h
    exact forged_any A0 c0 l0 A1 c1 l1 A2 c2 l2 w hr0 hc0 hr1 hc1 hr2 hc2 hh.1 hh.2.2.1 (fun y hy => (hh.2.1 y hy).small) (fun y hy => (hh.2.2.2.1 y hy).small) (fun hL => ⟨by have := (light_m hL).1; omega, fun y hy => (hh.2.1 y hy).ok ((light_m hL).2 y hy)⟩) (fun hL => ⟨by have := (light_m hL).1; omega, fun y hy => (hh.2.2.2.1 y hy).ok ((light_m hL).2 y hy)⟩) hh.2.2.2.2
  · cases h
end Go.Proofs.Ytlnpmodhejakiaa.PV
