/- The plain law of ExpiryStands: the printed function of the law answers true, for every value of its parameters that the row lets in. -/
import Derived.Test.YtioncemogbjklaaDefExpiryStands
import Derived.Test.YtioncemogbjklaaExpP
namespace Go.Proofs.Ytioncemogbjklaa.Pure
open Go.RowKit Go.Proofs.YtioncemogbjklaaW.PrintWords Go.Proofs.YtioncemogbjklaaW.PrintLast Go.Proofs.YtioncemogbjklaaW.PrintMore Go.Proofs.Ytioncemogbjklaa.Opn Go.Proofs.Ytioncemogbjklaa.PE Go.Proofs.Ytioncemogbjklaa.PG
set_option linter.unusedVariables false

theorem in_l0 (a : List Int) (x : Int) (ha : a.length ≤ 100) : ∀ (d n k : Nat), a.length - n = d → n ≤ a.length → d < k → (∀ m, m < n → a.getD m 0 ≠ x) → stelelaw17_in.l0 k a x n = some (decide (x ∈ a)) := by
  intro d
  induction d with
  | zero =>
    intro n k hd hn hk hm
    obtain ⟨k, rfl⟩ : ∃ m, k = m + 1 := ⟨k - 1, by omega⟩
    simp only [stelelaw17_in.l0]; rw [if_neg (by omega)]
    have : x ∉ a := by
      intro hx
      obtain ⟨i, hi, he⟩ := List.mem_iff_getElem.1 hx
      refine hm i (by omega) ?_
      rw [List.getD_eq_getElem?_getD, List.getElem?_eq_getElem hi]; exact he
    rw [decide_eq_false this]
  | succ d ih =>
    intro n k hd hn hk hm
    obtain ⟨k, rfl⟩ : ∃ m, k = m + 1 := ⟨k - 1, by omega⟩
    have e : wrap64 ((n : Int) + 1) = ((n + 1 : Nat) : Int) := by rw [wrap_up (n := a.length) (by omega) (by omega) ha]; omega
    simp only [stelelaw17_in.l0]
    rw [if_pos (by omega), if_pos (by omega), e]
    have r : rd a (n : Int) = a.getD n 0 := rfl
    rw [r]
    by_cases c : a.getD n 0 = x
    · rw [if_pos c]
      have : x ∈ a := by
        rw [← c, List.getD_eq_getElem?_getD, List.getElem?_eq_getElem (by omega)]; exact List.getElem_mem _
      rw [decide_eq_true this]
    · rw [if_neg c]
      refine ih (n + 1) k (by omega) (by omega) (by omega) (fun m h => ?_)
      by_cases hmn : m = n
      · rw [hmn]; exact c
      · exact hm m (by omega)
theorem in_eq (a : List Int) (x : Int) (ha : a.length ≤ 100) (k : Nat) (hk : 101 ≤ k) : stelelaw17_in.f k a x = some (decide (x ∈ a)) :=
  in_l0 a x ha (a.length - 0) 0 k rfl (by omega) (by omega) (fun m h => by omega)
theorem due_mem (name : ByteArray) (ver exp non now : Int) (l : List S37) (x : Int) : ∀ n, x ∈ dueL name ver exp non now l n ↔ ∃ i, i < n ∧ due1 name ver exp non now (lastB l i) (l.getD i z37) = true ∧ x = (l.getD i z37).f3
  | 0 => by simp [dueL]
  | n + 1 => by
    have ih := due_mem name ver exp non now l x n
    rw [dueL_succ]
    by_cases c : due1 name ver exp non now (lastB l n) (l.getD n z37) = true
    · rw [if_pos c, List.mem_append, ih, List.mem_singleton]
      constructor
      · rintro (⟨i, hi, h⟩ | h)
        · exact ⟨i, by omega, h⟩
        · exact ⟨n, by omega, c, h⟩
      · rintro ⟨i, hi, h1, h2⟩
        by_cases e : i = n
        · subst e; exact .inr h2
        · exact .inl ⟨i, by omega, h1, h2⟩
    · rw [if_neg c, ih]
      constructor
      · rintro ⟨i, hi, h⟩; exact ⟨i, by omega, h⟩
      · rintro ⟨i, hi, h1, h2⟩
        by_cases e : i = n
        · subst e; exact absurd h1 c
        · exact ⟨i, by omega, h1, h2⟩
theorem may_zero (v : S37) (now : Int) (h : may v now = 0) : v.f7 = false ∧ ∃ m, lock_mode_locks.f v.f6.f0 = some m ∧ (m = true → ¬ now < v.f6.f1) := by
  have h0 := may_eq v now
  rw [h] at h0
  unfold lock_MayDelete.f at h0
  obtain ⟨m, h1⟩ : ∃ m, lock_mode_locks.f v.f6.f0 = some m := by unfold lock_mode_locks.f; split <;> exact ⟨_, rfl⟩
  by_cases c : v.f7 = true
  · rw [if_pos c] at h0; simp at h0
  · refine ⟨by simpa using c, m, h1, ?_⟩
    rintro rfl hlt
    rw [if_neg c] at h0
    unfold lock_stands.f lock_Active.f at h0
    rw [h1] at h0
    simp only [Option.bind_some, if_true, decide_eq_true hlt] at h0
    by_cases c3 : v.f6.f0 = 2
    · rw [if_pos c3] at h0; simp at h0
    · rw [if_neg c3] at h0; simp at h0
theorem may_zero' (v : S37) (now : Int) (h7 : v.f7 = false) (m : Bool) (h1 : lock_mode_locks.f v.f6.f0 = some m) (h2 : m = true → ¬ now < v.f6.f1) : may v now = 0 := by
  unfold may lock_MayDelete.f
  rw [h7, if_neg (by decide)]
  unfold lock_stands.f lock_Active.f
  rw [h1]
  cases m
  · rfl
  · simp only [Option.bind_some, if_true, decide_eq_false (h2 rfl)]; rfl
theorem over_mono (t days now later : Int) (h : now ≤ later) (ho : over t days now = true) : over t days later = true := by
  by_cases c : 0 < days
  · rw [over_pos _ _ _ c] at ho ⊢
    have := of_decide_eq_true ho
    exact decide_eq_true (by omega)
  · rw [over_neg _ _ _ c] at ho; cases ho
theorem due_mono (name : ByteArray) (ver exp non now later : Int) (last : Bool) (v : S37) (h : now ≤ later) (hd : due1 name ver exp non now last v = true) : due1 name ver exp non later last v = true := by
  unfold due1 at hd ⊢
  rw [Bool.and_eq_true, Bool.and_eq_true] at hd ⊢
  obtain ⟨⟨h1, h2⟩, h3⟩ := hd
  refine ⟨⟨?_, h2⟩, ?_⟩
  · unfold gone at h1 ⊢
    cases last
    · exact over_mono _ _ _ _ h h1
    · simp only [if_true, Bool.and_eq_true] at h1 ⊢
      exact ⟨h1.1, over_mono _ _ _ _ h h1.2⟩
  · obtain ⟨a, m, b, c⟩ := may_zero v now (by simpa using h3)
    rw [may_zero' v later a m b (fun hm => by have := c hm; omega)]; rfl
theorem due_none (name : ByteArray) (ver now : Int) (l : List S37) : ∀ n, dueL name ver 0 0 now l n = []
  | 0 => rfl
  | n + 1 => by
    rw [dueL_succ, due_none name ver now l n]
    have : due1 name ver 0 0 now (lastB l n) (l.getD n z37) = false := by
      unfold due1 gone
      rw [over_neg _ 0 _ (by omega)]
      cases lastB l n <;> simp
    rw [this]; rfl
section
variable (name : ByteArray) (ver : Int) (b2 b3 : Bool) (b4 b5 : Int) (pol : ByteArray) (exp non : Int) (l : List S37) (now later : Int)
theorem st_l2 (hl : l.length ≤ 100) (hok : ∀ y ∈ l, ok37 y) (hle : now ≤ later) (hu : ∀ i j, i < l.length → j < i → (l.getD j z37).f3 ≠ (l.getD i z37).f3) :
    ∀ (d n k : Nat), l.length - n = d → n ≤ l.length → 2 * d + 200 < k → stelelaw17_ExpiryStands.l2 k l now later (dueL name ver exp non now l l.length) (dueL name ver exp non later l l.length) n name ver b2 b3 b4 b5 pol exp non = some true := by
  intro d
  have hD := dueL_len name ver exp non now l l.length
  have hE := dueL_len name ver exp non later l l.length
  induction d with
  | zero =>
    intro n k hd hn hk
    obtain ⟨k, rfl⟩ : ∃ m, k = m + 1 := ⟨k - 1, by omega⟩
    simp only [stelelaw17_ExpiryStands.l2]
    rw [if_neg (by omega)]
    have h1 : expiry_Due.f name ver b2 b3 b4 b5 pol 0 0 l later = some [] := by unfold expiry_Due.f; rw [if_pos (fit_of l hl hok), due_none]
    rw [h1, alive_true]; rfl
  | succ d ih =>
    intro n k hd hn hk
    obtain ⟨k, rfl⟩ : ∃ m, k = m + 1 + 1 := ⟨k - 2, by omega⟩
    have e : wrap64 ((n : Int) + 1) = ((n + 1 : Nat) : Int) := by rw [wrap_up (n := l.length) (by omega) (by omega) hl]; omega
    have hs := ih (n + 1) k (by omega) (by omega) (by omega)
    simp only [stelelaw17_ExpiryStands.l2]
    rw [if_pos (by omega), if_pos (by omega), in_eq _ _ (by omega) _ (by omega)]
    simp only [Option.bind_some]
    have r1 : rd_T37 l (n : Int) = l.getD n z37 := rfl
    rw [r1]
    by_cases c : (l.getD n z37).f3 ∈ dueL name ver exp non now l l.length
    · obtain ⟨i, hi, hdue, he⟩ := (due_mem name ver exp non now l _ _).1 c
      have hin : i = n := by
        rcases Nat.lt_trichotomy i n with h | h | h
        · exact absurd he.symm (hu n i (by omega) h)
        · exact h
        · exact absurd he (hu i n hi h)
      subst hin
      have hE2 : (l.getD i z37).f3 ∈ dueL name ver exp non later l l.length := (due_mem name ver exp non later l _ _).2 ⟨i, hi, due_mono _ _ _ _ _ _ _ _ hle hdue, rfl⟩
      unfold due1 at hdue
      rw [Bool.and_eq_true, Bool.and_eq_true] at hdue
      obtain ⟨⟨_, hnm⟩, hmay⟩ := hdue
      obtain ⟨h7, m, hm, hact⟩ := may_zero (l.getD i z37) now (beq_iff_eq.1 hmay)
      rw [decide_eq_true c, if_pos rfl, h7, if_neg (by decide)]
      have hA : steleref15_Active.f (l.getD i z37).f6.f0 (l.getD i z37).f6.f1 now = some false := by
        unfold steleref15_Active.f
        rw [show steleref15_mode.f (l.getD i z37).f6.f0 = lock_mode_locks.f (l.getD i z37).f6.f0 from rfl, hm]
        cases m
        · rfl
        · simp only [Option.bind_some, if_true, decide_eq_false (hact rfl)]
      rw [hA]
      simp only [Option.bind_some, Bool.false_eq_true, if_false, stelelaw17_ExpiryStands.j4]
      rw [if_neg (by simpa using hnm), in_eq _ _ (by omega) _ (by omega), in_eq _ _ (by omega) _ (by omega), decide_eq_true c, decide_eq_true hE2]
      simp only [Option.bind_some, if_true]
      rw [e]; exact hs
    · rw [decide_eq_false c, if_neg (by decide)]
      simp only [stelelaw17_ExpiryStands.j4]
      rw [if_neg (by decide), in_eq _ _ (by omega) _ (by omega), decide_eq_false c]
      simp only [Option.bind_some, Bool.false_eq_true, if_false]
      rw [e]; exact hs
theorem st_l1 (hl : l.length ≤ 100) (i : Nat) (hi : i < l.length) (K : Nat) (hK : ∀ k, K < k → (∀ m, m < i → (l.getD m z37).f3 ≠ (l.getD i z37).f3) → stelelaw17_ExpiryStands.l0 k l now later ((i + 1 : Nat) : Int) name ver b2 b3 b4 b5 pol exp non = some true) :
    ∀ (d j k : Nat), i - j = d → j ≤ i → d + 1 + K < k → (∀ m, m < j → (l.getD m z37).f3 ≠ (l.getD i z37).f3) → stelelaw17_ExpiryStands.l1 k l now later i j name ver b2 b3 b4 b5 pol exp non = some true := by
  intro d
  have ei : wrap64 ((i : Int) + 1) = ((i + 1 : Nat) : Int) := by rw [wrap_up (n := l.length) (by omega) (by omega) hl]; omega
  induction d with
  | zero =>
    intro j k hd hj hk hm
    obtain ⟨k, rfl⟩ : ∃ m, k = m + 1 := ⟨k - 1, by omega⟩
    simp only [stelelaw17_ExpiryStands.l1]
    rw [if_neg (by omega), ei]
    obtain rfl : j = i := by omega
    exact hK k (by omega) hm
  | succ d ih =>
    intro j k hd hj hk hm
    obtain ⟨k, rfl⟩ : ∃ m, k = m + 1 := ⟨k - 1, by omega⟩
    have ej : wrap64 ((j : Int) + 1) = ((j + 1 : Nat) : Int) := by rw [wrap_up (n := l.length) (by omega) (by omega) hl]; omega
    simp only [stelelaw17_ExpiryStands.l1]
    rw [if_pos (by omega), if_pos (by omega), if_pos (by omega), if_pos (by omega), if_pos (by omega), ej]
    have r1 : rd_T37 l (j : Int) = l.getD j z37 := rfl
    have r2 : rd_T37 l (i : Int) = l.getD i z37 := rfl
    rw [r1, r2]
    by_cases c : (l.getD j z37).f3 = (l.getD i z37).f3
    · rw [if_pos c, alive_true]; rfl
    · rw [if_neg c]
      refine ih (j + 1) k (by omega) (by omega) (by omega) (fun m h => ?_)
      by_cases hmj : m = j
      · rw [hmj]; exact c
      · exact hm m (by omega)
set_option maxRecDepth 100000 in
theorem st_l0 (hl : l.length ≤ 100) (hok : ∀ y ∈ l, ok37 y) (hle : now ≤ later) :
    ∀ (d n k : Nat), l.length - n = d → n ≤ l.length → d * 200 + 1000 < k → (∀ i j, i < n → j < i → (l.getD j z37).f3 ≠ (l.getD i z37).f3) → stelelaw17_ExpiryStands.l0 k l now later n name ver b2 b3 b4 b5 pol exp non = some true := by
  intro d
  induction d with
  | zero =>
    intro n k hd hn hk hm
    obtain ⟨k, rfl⟩ : ∃ m, k = m + 1 := ⟨k - 1, by omega⟩
    obtain rfl : n = l.length := by omega
    simp only [stelelaw17_ExpiryStands.l0]
    rw [if_neg (by omega)]
    have h1 : expiry_Due.f name ver b2 b3 b4 b5 pol exp non l now = some (dueL name ver exp non now l l.length) := by unfold expiry_Due.f; rw [if_pos (fit_of l hl hok)]
    have h2 : expiry_Due.f name ver b2 b3 b4 b5 pol exp non l later = some (dueL name ver exp non later l l.length) := by unfold expiry_Due.f; rw [if_pos (fit_of l hl hok)]
    rw [h1, h2]
    simp only [Option.bind_some]
    exact st_l2 name ver b2 b3 b4 b5 pol exp non l now later hl hok hle hm (l.length - 0) 0 k rfl (by omega) (by omega)
  | succ d ih =>
    intro n k hd hn hk hm
    obtain ⟨k, rfl⟩ : ∃ m, k = m + 1 := ⟨k - 1, by omega⟩
    simp only [stelelaw17_ExpiryStands.l0]
    rw [if_pos (by omega)]
    refine st_l1 name ver b2 b3 b4 b5 pol exp non l now later hl n (by omega) (d * 200 + 1000) (fun k' hk' hall => ?_) (n - 0) 0 k rfl (by omega) (by omega) (fun m h => by omega)
    refine ih (n + 1) k' (by omega) (by omega) hk' (fun i j hi hj => ?_)
    by_cases e : i = n
    · subst e; exact hall j hj
    · exact hm i j (by omega) hj
end
theorem ExpiryStands : stelelaw17_ExpiryStands.Pure := by
  intro b l now later hb hl hn hla
  obtain ⟨k, hk⟩ : ∃ k, k = 29999 := ⟨_, rfl⟩
  refine ⟨k + 1, ?_⟩
  unfold stelelaw17_ExpiryStands.f
  have j0t : ∀ a b c d e f g h i j k' l, stelelaw17_ExpiryStands.j0 (k + 1) a b c true d e f g h i j k' l = some true := by
    intros; simp only [stelelaw17_ExpiryStands.j0]; rw [if_pos trivial, alive_true]; rfl
  by_cases c : (l.length : Int) > 100
  · rw [if_pos c]; exact j0t ..
  · rw [if_neg c]
    by_cases c2 : later < now
    · rw [decide_eq_true c2]; exact j0t ..
    · rw [decide_eq_false c2]
      simp only [stelelaw17_ExpiryStands.j0]
      rw [if_neg (by decide)]
      have hlen : l.length ≤ 100 := by omega
      have hle : now ≤ later := by omega
      have hk2 : (l.length - 0) * 200 + 1000 < k := by omega
      have h := st_l0 b.f0 b.f1 b.f2 b.f3 b.f4 b.f5 b.f6 b.f7 b.f8 l now later hlen hl.2 hle (l.length - 0) 0 k rfl (Nat.zero_le _) hk2 (fun i j h => absurd h (Nat.not_lt_zero _))
      exact h
end Go.Proofs.Ytioncemogbjklaa.Pure
