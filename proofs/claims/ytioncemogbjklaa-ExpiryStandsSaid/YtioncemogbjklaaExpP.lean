/- The reference's Latest, MayDelete, Later and Due are what the program's contracts say. -/
import Derived.Test.YtioncemogbjklaaDefExpiryDue
import Derived.Test.YtioncemogbjklaaDefExpiryLatest
namespace Go.Proofs.Ytioncemogbjklaa.Pure
open Go.RowKit Go.Proofs.YtioncemogbjklaaW.PrintWords Go.Proofs.YtioncemogbjklaaW.PrintLast Go.Proofs.YtioncemogbjklaaW.PrintMore Go.Proofs.Ytioncemogbjklaa.Opn Go.Proofs.Ytioncemogbjklaa.PE Go.Proofs.Ytioncemogbjklaa.PG
set_option linter.unusedVariables false
set_option linter.unusedSimpArgs false

theorem toL_iff (a b : ByteArray) : a.toList = b.toList ↔ a = b := by
  constructor
  · intro h
    rw [ByteArray.toList_eq, ByteArray.toList_eq] at h
    cases a; cases b; simp at h; rw [h]
  · intro h; rw [h]
theorem wrap_up {i : Int} {n : Nat} (h0 : 0 ≤ i) (h : i < (n : Int)) (hn : n ≤ 100) : wrap64 (i + 1) = i + 1 := by unfold wrap64; omega
theorem latest_l0 (l : List S37) (b key : ByteArray) (hl : l.length ≤ 100) : ∀ (d n k : Nat), l.length - n = d → n ≤ l.length → d < k → steleref17_Latest.l0 k l b key (lat l b key n) n = some (lat l b key l.length) := by
  intro d
  induction d with
  | zero =>
    intro n k hd hn hk
    obtain ⟨k, rfl⟩ : ∃ m, k = m + 1 := ⟨k - 1, by omega⟩
    obtain rfl : n = l.length := by omega
    simp only [steleref17_Latest.l0]; rw [if_neg (by omega)]
  | succ d ih =>
    intro n k hd hn hk
    obtain ⟨k, rfl⟩ : ∃ m, k = m + 1 := ⟨k - 1, by omega⟩
    have hb := lat_bd l b key n
    have e : wrap64 ((n : Int) + 1) = ((n + 1 : Nat) : Int) := by rw [wrap_up (n := l.length) (by omega) (by omega) hl]; omega
    have hs := ih (n + 1) k (by omega) (by omega) (by omega)
    have hd1 : lat l b key (n + 1) = if (l.getD n z37).f0 = b ∧ (l.getD n z37).f1 = key ∧ (lat l b key n < 0 ∨ (l.getD (lat l b key n).toNat z37).f3 < (l.getD n z37).f3) then (n : Int) else lat l b key n := rfl
    have r1 : rd_T37 l (n : Int) = l.getD n z37 := rfl
    simp only [steleref17_Latest.l0]
    rw [if_pos (by omega), if_pos (by omega), r1, e]
    simp only [toL_iff]
    by_cases c1 : (l.getD n z37).f0 = b
    · rw [if_pos c1]
      by_cases c2 : (l.getD n z37).f1 = key
      · rw [if_pos c2]
        by_cases c3 : lat l b key n < 0
        · rw [if_pos c3]
          rw [hd1, if_pos ⟨c1, c2, .inl c3⟩] at hs
          exact hs
        · rw [if_neg c3, if_pos (by omega), if_pos (by omega)]
          show (if (l.getD n z37).f3 > (l.getD (lat l b key n).toNat z37).f3 then _ else _) = _
          by_cases c4 : (l.getD (lat l b key n).toNat z37).f3 < (l.getD n z37).f3
          · rw [if_pos c4]
            rw [hd1, if_pos ⟨c1, c2, .inr c4⟩] at hs
            exact hs
          · rw [if_neg c4]
            rw [hd1, if_neg (fun h => h.2.2.elim c3 c4)] at hs
            exact hs
      · rw [if_neg c2]
        rw [hd1, if_neg (fun h => c2 h.2.1)] at hs
        exact hs
    · rw [if_neg c1]
      rw [hd1, if_neg (fun h => c1 h.1)] at hs
      exact hs
theorem latest_ref (l : List S37) (b key : ByteArray) (hl : l.length ≤ 100) (k : Nat) (hk : 101 ≤ k) : steleref17_Latest.f k l b key = some (lat l b key l.length) :=
  latest_l0 l b key hl (l.length - 0) 0 k rfl (by omega) (by omega)
theorem alive_true : stelelaw17_alive.f = some true := by decide +kernel
theorem fit_of (l : List S37) (hl : l.length ≤ 100) (h : ∀ y ∈ l, ok37 y) : Fit l := ⟨hl, fun v hv => ⟨(h v hv).1, (h v hv).2.1⟩⟩

theorem u64_wf {n : Int} (h : (Lit.int .u64 n).wf = true) : 0 ≤ n ∧ n ≤ 18446744073709551615 := bounds_u64 h
theorem i64_wf {n : Int} (h : (Lit.int .i64 n).wf = true) : -9223372036854775808 ≤ n ∧ n ≤ 9223372036854775807 := bounds_i64 h
theorem mn_le {a b : Int} (h : a ≤ b) : mn a b = a := by unfold mn; rw [if_neg (by omega)]
theorem mn_ge {a b : Int} (h : b ≤ a) : mn a b = b := by
  unfold mn
  by_cases g : b < a
  · rw [if_pos g]
  · rw [if_neg g]; omega
theorem later_eq (t n : Int) (ht : 0 ≤ t ∧ t ≤ 18446744073709551615) (hn : -9223372036854775808 ≤ n ∧ n ≤ 9223372036854775807) (k : Nat) :
    ∃ r, clock_Later.f t n = some r ∧ steleref03_Later.f (k + 1) t n = some r := by
  unfold clock_Later.f steleref03_Later.f
  simp only [steleref03_Later.j0, IntKind.wrap_u64]
  by_cases h : t ≥ 253402300799
  · rw [if_pos h]
    refine ⟨t, rfl, ?_⟩
    by_cases g : n ≤ 0
    · rw [if_pos g, if_pos trivial]
    · rw [if_neg g, if_pos (by simpa using h)]
  · rw [if_neg h]
    refine ⟨_, rfl, ?_⟩
    by_cases g : n ≤ 0
    · rw [if_pos g, if_pos trivial]
      have : mx n 0 = 0 := by unfold mx; split <;> omega
      rw [this]
      have e1 : mn (0 % 18446744073709551616) 2932897 = 0 := mn_le (by omega)
      rw [e1]
      have e2 : (t + 0 * 86400 % 18446744073709551616) % 18446744073709551616 = t := by omega
      rw [e2, mn_le (by omega)]
    · rw [if_neg g, if_neg (by simpa using h)]
      have : mx n 0 = n := by unfold mx; split <;> omega
      rw [this]
      have e1 : (253402300799 - t) % 18446744073709551616 = 253402300799 - t := by omega
      have e2 : n % 18446744073709551616 = n := by omega
      rw [e1, e2, Int.tdiv_eq_ediv_of_nonneg (by omega)]
      have e3 : (253402300799 - t) / 86400 % 18446744073709551616 = (253402300799 - t) / 86400 := by omega
      rw [e3]
      by_cases c : n > (253402300799 - t) / 86400
      · rw [if_pos c]
        by_cases c2 : n ≤ 2932897
        · rw [mn_le c2]
          have e4 : (t + n * 86400 % 18446744073709551616) % 18446744073709551616 = t + n * 86400 := by omega
          rw [e4, mn_ge (by omega)]
        · rw [mn_ge (a := n) (by omega)]
          have e4 : (t + 2932897 * 86400 % 18446744073709551616) % 18446744073709551616 = t + 2932897 * 86400 := by omega
          rw [e4, mn_ge (by omega)]
      · rw [if_neg c]
        rw [mn_le (a := n) (by omega)]
        have e4 : (t + n * 86400 % 18446744073709551616) % 18446744073709551616 = t + n * 86400 := by omega
        rw [e4, mn_le (by omega)]
theorem over_pos (t days now : Int) (h : 0 < days) : over t days now = decide ((clock_Later.f t days).getD 0 ≤ now) := by unfold over; rw [if_pos h]
theorem over_neg (t days now : Int) (h : ¬ 0 < days) : over t days now = false := by unfold over; rw [if_neg h]
theorem numbers_l0 (a : List Int) (ha : a.length ≤ 100) : ∀ (d n k : Nat), a.length - n = d → n ≤ a.length → d < k → stelelaw17_numbers.l0 k a a n = some true := by
  intro d
  induction d with
  | zero =>
    intro n k hd hn hk
    obtain ⟨k, rfl⟩ : ∃ m, k = m + 1 := ⟨k - 1, by omega⟩
    simp only [stelelaw17_numbers.l0]; rw [if_neg (by omega)]
  | succ d ih =>
    intro n k hd hn hk
    obtain ⟨k, rfl⟩ : ∃ m, k = m + 1 := ⟨k - 1, by omega⟩
    have e : wrap64 ((n : Int) + 1) = ((n + 1 : Nat) : Int) := by rw [wrap_up (n := a.length) (by omega) (by omega) ha]; omega
    simp only [stelelaw17_numbers.l0]
    rw [if_pos (by omega), if_pos (by omega), if_pos (by omega), if_pos trivial, e]
    exact ih (n + 1) k (by omega) (by omega) (by omega)
theorem numbers_same (a : List Int) (ha : a.length ≤ 100) (k : Nat) (hk : 101 ≤ k) : stelelaw17_numbers.f k a a = some true := by
  unfold stelelaw17_numbers.f
  rw [if_pos rfl]
  exact numbers_l0 a ha (a.length - 0) 0 k rfl (by omega) (by omega)
theorem may_ref (v : S37) (now : Int) : steleref15_MayDelete.f v.f0 v.f1 v.f2 v.f3 v.f4 v.f5 v.f6.f0 v.f6.f1 v.f7 v.f8 now false = some (may v now) := by
  have h0 := may_eq v now
  unfold lock_MayDelete.f at h0
  unfold steleref15_MayDelete.f
  by_cases c : v.f7 = true
  · rw [if_pos c] at h0 ⊢; exact h0
  · rw [if_neg c] at h0 ⊢
    have hm : steleref15_mode.f v.f6.f0 = lock_mode_locks.f v.f6.f0 := rfl
    unfold lock_stands.f lock_Active.f at h0
    unfold steleref15_Active.f
    rw [hm]
    obtain ⟨m, h1⟩ : ∃ m, lock_mode_locks.f v.f6.f0 = some m := by unfold lock_mode_locks.f; split <;> exact ⟨_, rfl⟩
    rw [h1] at h0 ⊢
    cases m
    · exact h0
    · simp only [Option.bind_some, if_true] at h0 ⊢
      by_cases c2 : now < v.f6.f1
      · rw [decide_eq_true c2] at h0 ⊢
        simp only [if_true] at h0 ⊢
        by_cases c3 : v.f6.f0 = 2
        · rw [if_pos c3] at h0 ⊢; exact h0
        · rw [if_neg c3] at h0 ⊢; exact h0
      · rw [decide_eq_false c2] at h0 ⊢; exact h0
/-- a round of the reference's Due -/
theorem due_l0 (name : ByteArray) (ver : Int) (b2 b3 : Bool) (b4 b5 : Int) (pol : ByteArray) (exp non : Int) (l : List S37) (now : Int) (hl : l.length ≤ 100) (hok : ∀ y ∈ l, ok37 y) (he : -9223372036854775808 ≤ exp ∧ exp ≤ 9223372036854775807) (hn : -9223372036854775808 ≤ non ∧ non ≤ 9223372036854775807) :
    ∀ (d n k : Nat), l.length - n = d → n ≤ l.length → 2 * d + 200 < k →  steleref17_Due.l0 k l now (dueL name ver exp non now l n) n name ver b2 b3 b4 b5 pol exp non = some (dueL name ver exp non now l l.length) := by
  intro d
  induction d with
  | zero =>
    intro n k hd hn' hk
    obtain ⟨k, rfl⟩ : ∃ m, k = m + 1 := ⟨k - 1, by omega⟩
    obtain rfl : n = l.length := by omega
    simp only [steleref17_Due.l0]; rw [if_neg (by omega)]
  | succ d ih =>
    intro n k hd hn' hk
    obtain ⟨k, rfl⟩ : ∃ m, k = m + 1 + 1 := ⟨k - 2, by omega⟩
    have e : wrap64 ((n : Int) + 1) = ((n + 1 : Nat) : Int) := by rw [wrap_up (n := l.length) (by omega) (by omega) hl]; omega
    have hs := ih (n + 1) k (by omega) (by omega) (by omega)
    have hlen := dueL_len name ver exp non now l n
    rw [dueL_succ] at hs
    simp only [steleref17_Due.l0]
    rw [if_pos (by omega), if_pos (by omega)]
    have r1 : rd_T37 l (n : Int) = l.getD n z37 := rfl
    rw [r1]
    have hv : l.getD n z37 ∈ l := by rw [List.getD_eq_getElem?_getD, List.getElem?_eq_getElem (by omega)]; exact List.getElem_mem _
    obtain ⟨v, hve⟩ : ∃ v, l.getD n z37 = v := ⟨_, rfl⟩
    have hlast : lastB l n = (lat l v.f0 v.f1 l.length == (n : Int)) := by unfold lastB; rw [hve]
    rw [hve, hlast] at hs
    rw [hve] at hv ⊢
    have hvt := u64_wf (hok v hv).2.2.2.2.2.2.2.2
    rw [may_ref v now, Option.bind_some]
    simp only [steleref17_Due.j1]
    unfold due1 gone at hs
    by_cases c1 : v.f0.toList = name.toList
    · rw [if_pos c1]
      rw [beq_iff_eq.2 c1] at hs
      by_cases c2 : may v now = 0
      · rw [beq_iff_eq.2 c2] at hs
        rw [bne_eq_false_iff_eq.2 c2, if_neg (by decide), latest_ref l v.f0 v.f1 hl k (by omega), Option.bind_some]
        by_cases c3 : lat l v.f0 v.f1 l.length = (n : Int)
        · rw [if_pos c3]
          rw [beq_iff_eq.2 c3] at hs
          simp only [if_true, Bool.and_true] at hs
          rcases c4 : v.f4 with _ | _
          · rw [c4] at hs
            rw [if_neg (by decide)]
            by_cases c5 : ver = 0
            · rw [if_pos c5]
              rw [beq_iff_eq.2 c5] at hs
              simp only [Bool.not_false, Bool.true_and] at hs
              by_cases c6 : 0 < exp
              · obtain ⟨k, rfl⟩ : ∃ m, k = m + 1 := ⟨k - 1, by omega⟩
                rw [if_pos c6]
                obtain ⟨r, h1, h2⟩ := later_eq v.f8 exp hvt he k
                rw [h2, Option.bind_some, e]
                rw [over_pos _ _ _ c6, h1] at hs
                simp only [Option.getD_some, decide_eq_true_eq] at hs
                by_cases c7 : r ≤ now
                · rw [if_pos c7] at hs ⊢; rw [if_pos (by omega)]; exact hs
                · rw [if_neg c7] at hs ⊢; exact hs
              · rw [if_neg c6, e]
                rw [over_neg _ _ _ c6] at hs
                exact hs
            · rw [if_neg c5, e]
              rw [beq_eq_false_iff_ne.2 c5] at hs
              exact hs
          · rw [c4] at hs
            rw [if_pos rfl, e]
            exact hs
        · rw [if_neg c3]
          rw [beq_eq_false_iff_ne.2 c3] at hs
          simp only [Bool.and_true, Bool.false_eq_true, if_false] at hs
          by_cases c6 : 0 < non
          · obtain ⟨k, rfl⟩ : ∃ m, k = m + 1 := ⟨k - 1, by omega⟩
            rw [if_pos c6]
            obtain ⟨r, h1, h2⟩ := later_eq v.f8 non hvt hn k
            rw [h2, Option.bind_some, e]
            rw [over_pos _ _ _ c6, h1] at hs
            simp only [Option.getD_some, decide_eq_true_eq] at hs
            by_cases c7 : r ≤ now
            · rw [if_pos c7] at hs ⊢; rw [if_pos (by omega)]; exact hs
            · rw [if_neg c7] at hs ⊢; exact hs
          · rw [if_neg c6, e]
            rw [over_neg _ _ _ c6] at hs
            exact hs
      · rw [beq_eq_false_iff_ne.2 c2, Bool.and_false] at hs
        rw [bne_iff_ne.2 c2, if_pos rfl, e]
        exact hs
    · rw [if_neg c1, if_pos trivial, e]
      rw [beq_eq_false_iff_ne.2 c1, Bool.and_false, Bool.false_and] at hs
      exact hs
end Go.Proofs.Ytioncemogbjklaa.Pure
