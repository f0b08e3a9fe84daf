/- The plain law of TotpSigns. -/
import Derived.Test.YtlnpmodhejakiaaDefTotpSigns
import Derived.Test.YtlnpmodhejakiaaTotO
namespace Go.Proofs.Ytlnpmodhejakiaa.Pure
open Go.RowKit Go.Proofs.YtlnpmodhejakiaaW.PrintWords Go.Proofs.YtlnpmodhejakiaaW.PrintLast Go.Proofs.YtlnpmodhejakiaaW.PrintMore Go.Proofs.Ytlnpmodhejakiaa.PT Go.Proofs.Ytlnpmodhejakiaa.T
set_option linter.unusedVariables false
theorem sameS0 (l : List Int) (hl : l.length ≤ 140737488355328) : ∀ (d i k : Nat), l.length - i = d → i ≤ l.length → d < k → steleref01_Same.l0 k l l i = some true := by
  intro d
  induction d with
  | zero =>
    intro i k hd hi hk
    obtain ⟨k, rfl⟩ : ∃ k', k = k' + 1 := ⟨k - 1, by omega⟩
    rw [steleref01_Same.l0, if_neg (by omega)]
  | succ d ih =>
    intro i k hd hi hk
    obtain ⟨k, rfl⟩ : ∃ k', k = k' + 1 := ⟨k - 1, by omega⟩
    rw [steleref01_Same.l0, if_pos (by omega), if_pos (by omega), if_pos (by omega), if_pos rfl]
    rw [show wrap64 ((i : Int) + 1) = ((i + 1 : Nat) : Int) by unfold wrap64; omega]
    exact ih (i + 1) k (by omega) (by omega) (by omega)
theorem sameS (l : List Int) (hl : l.length ≤ 140737488355328) (k : Nat) (hk : l.length < k) : steleref01_Same.f k l l = some true := by
  unfold steleref01_Same.f
  rw [if_pos rfl]
  exact sameS0 l hl l.length 0 _ (by omega) (by omega) hk
theorem b32_0 : b32 [0] = [65, 65] := by
  have e1 : em 0 8 = ([sg 0], 3) := by rw [em_ge _ _ (by decide), em_lt _ _ (by decide)]; rfl
  have e2 : run [0] = ([sg 0], 0, 3) := by
    show next ([], 0, 0) 0 = _
    unfold next
    rw [show ((([] : List UInt8), (0 : Int), 0).2.1 * 256 + 0) % 4294967296 = (0 : Int) from rfl, show ((([] : List UInt8), (0 : Int), 0).2.2 + 8) = 8 from rfl, e1]
    rfl
  unfold b32
  rw [e2]
  decide +kernel
theorem unrun_len (l : List Int) : ∀ (s : Option (List Int × Int × Nat)) (r : List Int × Int × Nat) (n : Nat), (∀ t, s = some t → t.1.length ≤ n) → l.foldl ustep s = some r → r.1.length ≤ n + l.length := by
  induction l with
  | nil => intro s r n h hr; exact h r hr
  | cons c l ih =>
    intro s r n h hr
    rw [List.foldl_cons] at hr
    have := ih (ustep s c) r (n + 1) ?_ hr
    · rw [List.length_cons]; omega
    · intro t ht
      unfold ustep at ht
      cases s with
      | none => cases ht
      | some s =>
        have h1 := h s rfl
        rw [Option.bind_some] at ht
        split at ht
        · cases ht
        · have ht' := Option.some.inj ht
          subst ht'
          unfold unext
          split
          · simp only [List.length_append, List.length_singleton]; omega
          · exact Nat.le_succ_of_le h1
theorem unb_len (s : ByteArray) : (unb s).1.length ≤ s.size := by
  unfold unb
  cases hr : unrun (bytesOf s) with
  | none => simp
  | some r =>
    have := unrun_len (bytesOf s) (some ([], 0, 0)) r 0 (by intro t ht; have := Option.some.inj ht; subst this; exact Nat.le_refl _) hr
    rw [bytesOf_length] at this
    simp only
    split
    · simp only; omega
    · simp
theorem wf8S {y : Int} (h : (Lit.int .u8 y).wf = true) : 0 ≤ y ∧ y ≤ 255 := by
  have h' : IntKind.u8.min ≤ y ∧ y ≤ IntKind.u8.max := by simpa [Lit.wf] using h
  exact h'
theorem TotpSigns : stelelaw07_TotpSigns.Pure := by
  intro x0 x1 h0 h1
  refine ⟨5000000, ?_⟩
  unfold stelelaw07_TotpSigns.f
  by_cases hc : wrap64 ((x0.length : Int) + (x1.size : Int)) > 20000
  · rw [if_pos hc]
  · rw [if_neg hc]
    have hs : x0.length + x1.size ≤ 20000 := by unfold wrap64 at hc; omega
    clear hc
    have hb : ∀ x ∈ x0, 0 ≤ x ∧ x ≤ 255 := fun x hx => wf8S (h0.2 x hx)
    have e1 : totp_Base32.f x0 = some ⟨(b32 x0).toArray⟩ := by unfold totp_Base32.f; rw [if_pos ⟨by omega, hb⟩]
    have e3 : totp_Base32.f [0] = some ⟨#[65, 65]⟩ := by
      unfold totp_Base32.f
      rw [if_pos ⟨by decide, by intro x hx; rw [List.mem_singleton] at hx; subst hx; omega⟩, b32_0]
    have e4 : (ByteArray.toList (⟨#[65, 65]⟩ : ByteArray) == ([65, 65] : List UInt8)) = true := by rw [ByteArray.toList_eq]; rfl
    have e5 : totp_Unbase32.f x1 = some (unb x1) := by unfold totp_Unbase32.f; rw [if_pos (by omega)]
    have hl := unb_len x1
    rw [e5, Option.bind_some, r_unb x1 (by omega) 5000000 (Nat.le_refl _), Option.bind_some, e1, Option.bind_some, r_b32 x0 (by omega) hb 5000000 (by decide), Option.bind_some, if_pos rfl, sameS (unb x1).1 (by omega) 5000000 (by omega), Option.bind_some, if_pos rfl, if_pos rfl, e3, Option.bind_some, e4]
end Go.Proofs.Ytlnpmodhejakiaa.Pure
