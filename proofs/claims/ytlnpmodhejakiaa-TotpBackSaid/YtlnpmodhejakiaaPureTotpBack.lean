/- The plain law of TotpBack. -/
import Derived.Test.YtlnpmodhejakiaaDefTotpBack
import Derived.Test.YtlnpmodhejakiaaTotM
namespace Go.Proofs.Ytlnpmodhejakiaa.Pure
open Go.RowKit Go.Proofs.YtlnpmodhejakiaaW.PrintWords Go.Proofs.YtlnpmodhejakiaaW.PrintLast Go.Proofs.YtlnpmodhejakiaaW.PrintMore Go.Proofs.Ytlnpmodhejakiaa.PU Go.Proofs.Ytlnpmodhejakiaa.T
set_option linter.unusedVariables false
theorem sameT0 (l : List Int) (hl : l.length ≤ 140737488355328) : ∀ (d i k : Nat), l.length - i = d → i ≤ l.length → d < k → steleref01_Same.l0 k l l i = some true := by
  intro d
  induction d with
  | zero =>
    intro i k hd hi hk
    obtain ⟨k, rfl⟩ : ∃ k', k = k' + 1 := ⟨k - 1, by omega⟩
    rw [steleref01_Same.l0, if_neg (by omega)]
  | succ d ih =>
    intro i k hd hi hk
    obtain ⟨k, rfl⟩ : ∃ k', k = k' + 1 := ⟨k - 1, by omega⟩
    rw [steleref01_Same.l0, if_pos (by omega), if_pos (by omega), if_pos (by omega), if_pos rfl]
    rw [show wrap64 ((i : Int) + 1) = ((i + 1 : Nat) : Int) by unfold wrap64; omega]
    exact ih (i + 1) k (by omega) (by omega) (by omega)
theorem sameT (l : List Int) (hl : l.length ≤ 140737488355328) (k : Nat) (hk : l.length < k) : steleref01_Same.f k l l = some true := by
  unfold steleref01_Same.f
  rw [if_pos rfl]
  exact sameT0 l hl l.length 0 _ (by omega) (by omega) hk
theorem b32_len (l : List Int) : (b32 l).length ≤ 13 * l.length + 1 := by
  have := (run_bd l).2.2.2
  unfold b32
  rw [List.length_append]
  split
  · rw [List.length_singleton]; omega
  · rw [List.length_nil]; omega
theorem b32_255 : b32 [255] = [55, 52] := by
  have e1 : em 255 8 = ([sg 31], 3) := by rw [em_ge _ _ (by decide), em_lt _ _ (by decide)]; rfl
  have e2 : run [255] = ([sg 31], 255, 3) := by
    show next ([], 0, 0) 255 = _
    unfold next
    rw [show ((([] : List UInt8), (0 : Int), 0).2.1 * 256 + 255) % 4294967296 = (255 : Int) from rfl, show ((([] : List UInt8), (0 : Int), 0).2.2 + 8) = 8 from rfl, e1]
    rfl
  unfold b32
  rw [e2]
  decide +kernel
theorem unrun_bd (l : List Int) : ∀ (s : Option (List Int × Int × Nat)) (r : List Int × Int × Nat) (n : Nat), (∀ t, s = some t → t.1.length ≤ n ∧ ∀ x ∈ t.1, 0 ≤ x ∧ x ≤ 255) → l.foldl ustep s = some r → r.1.length ≤ n + l.length ∧ ∀ x ∈ r.1, 0 ≤ x ∧ x ≤ 255 := by
  induction l with
  | nil => intro s r n h hr; exact h r hr
  | cons c l ih =>
    intro s r n h hr
    rw [List.foldl_cons] at hr
    have := ih (ustep s c) r (n + 1) ?_ hr
    · rw [List.length_cons]; exact ⟨by omega, this.2⟩
    · intro t ht
      unfold ustep at ht
      cases s with
      | none => cases ht
      | some s =>
        obtain ⟨h1, h2⟩ := h s rfl
        rw [Option.bind_some] at ht
        split at ht
        · cases ht
        · have ht' := Option.some.inj ht
          subst ht'
          unfold unext
          split
          · refine ⟨by simp only [List.length_append, List.length_singleton]; omega, ?_⟩
            intro x hx
            rcases List.mem_append.1 hx with hx | hx
            · exact h2 x hx
            · rw [List.mem_singleton] at hx
              subst hx
              have a := Int.emod_nonneg ((s.2.1 * 32 + idx c) % 4294967296 / 2 ^ (s.2.2 - 3)) (show (256 : Int) ≠ 0 by decide)
              have b := Int.emod_lt_of_pos ((s.2.1 * 32 + idx c) % 4294967296 / 2 ^ (s.2.2 - 3)) (show (0 : Int) < 256 by decide)
              exact ⟨a, Int.le_of_lt_add_one b⟩
          · exact ⟨Nat.le_succ_of_le h1, h2⟩
theorem unb_ok (s : ByteArray) (h : (unb s).2 = 0) : (unb s).1.length ≤ s.size ∧ (∀ x ∈ (unb s).1, 0 ≤ x ∧ x ≤ 255) ∧ (⟨(b32 (unb s).1).toArray⟩ : ByteArray) = s := by
  unfold unb at h ⊢
  cases hr : unrun (bytesOf s) with
  | none => rw [hr] at h; cases h
  | some r =>
    rw [hr] at h
    simp only at h ⊢
    by_cases e : (⟨(b32 r.1).toArray⟩ : ByteArray) = s
    · rw [if_pos e]
      have := unrun_bd (bytesOf s) (some ([], 0, 0)) r 0 (by intro t ht; have := Option.some.inj ht; subst this; exact ⟨Nat.le_refl _, by simp⟩) hr
      rw [bytesOf_length] at this
      exact ⟨by have := this.1; simp only; omega, this.2, e⟩
    · rw [if_neg e] at h; cases h
theorem wf8T {y : Int} (h : (Lit.int .u8 y).wf = true) : 0 ≤ y ∧ y ≤ 255 := by
  have h' : IntKind.u8.min ≤ y ∧ y ≤ IntKind.u8.max := by simpa [Lit.wf] using h
  exact h'
theorem TotpBack : stelelaw07_TotpBack.Pure := by
  intro x0 x1 h0 h1
  refine ⟨20002, ?_⟩
  unfold stelelaw07_TotpBack.f
  by_cases hc : wrap64 ((x0.length : Int) + (x1.size : Int)) > 20000
  · rw [if_pos hc]
  · rw [if_neg hc]
    have hs : x0.length + x1.size ≤ 20000 := by unfold wrap64 at hc; omega
    clear hc
    have hb : ∀ x ∈ x0, 0 ≤ x ∧ x ≤ 255 := fun x hx => wf8T (h0.2 x hx)
    have e1 : totp_Base32.f x0 = some ⟨(b32 x0).toArray⟩ := by unfold totp_Base32.f; rw [if_pos ⟨by omega, hb⟩]
    have e2 : totp_Unbase32.f (⟨(b32 x0).toArray⟩ : ByteArray) = some (x0, 0) := by
      unfold totp_Unbase32.f
      rw [if_pos (by show (b32 x0).toArray.size ≤ _; rw [List.size_toArray]; have := b32_len x0; omega), unb_b32 x0 hb]
    have e3 : totp_Base32.f [255] = some ⟨#[55, 52]⟩ := by
      unfold totp_Base32.f
      rw [if_pos ⟨by decide, by intro x hx; rw [List.mem_singleton] at hx; subst hx; omega⟩, b32_255]
    have e4 : (ByteArray.toList (⟨#[55, 52]⟩ : ByteArray) != ([55, 52] : List UInt8)) = false := by rw [ByteArray.toList_eq]; rfl
    rw [e1, Option.bind_some, e2, Option.bind_some, if_pos rfl, sameT x0 (by omega) 20002 (by omega), Option.bind_some, if_pos rfl, e3, Option.bind_some, e4]
    rw [stelelaw07_TotpBack.j0, if_neg (by decide)]
    have e5 : totp_Unbase32.f x1 = some (unb x1) := by unfold totp_Unbase32.f; rw [if_pos (by omega)]
    rw [e5, Option.bind_some]
    by_cases hz : (unb x1).2 = 0
    · rw [if_pos hz]
      obtain ⟨k1, k2, k3⟩ := unb_ok x1 hz
      have e6 : totp_Base32.f (unb x1).1 = some x1 := by unfold totp_Base32.f; rw [if_pos ⟨by omega, k2⟩, k3]
      rw [e6, Option.bind_some, beq_self_eq_true]
    · rw [if_neg hz]
end Go.Proofs.Ytlnpmodhejakiaa.Pure
