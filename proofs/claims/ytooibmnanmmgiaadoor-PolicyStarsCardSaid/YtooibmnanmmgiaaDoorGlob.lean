/- What a pattern matches, in plain words: '*' any bytes, '?' one, others themselves. -/
import Derived.Test.YtooibmnanmmgiaaDoorPAx0
namespace Go.Proofs.YtooibmnanmmgiaaDoor.GB
/-- a pattern matches a text -/
def G : List Int → List Int → Prop
  | [], s => s = []
  | c :: p, s => if c = 42 then ∃ t u, s = t ++ u ∧ G p u else ∃ x u, s = x :: u ∧ (c = 63 ∨ c = x) ∧ G p u
theorem G_nil (s : List Int) : G [] s ↔ s = [] := Iff.rfl
theorem G_star (p s : List Int) : G (42 :: p) s ↔ ∃ t u, s = t ++ u ∧ G p u := by simp [G]
theorem G_one {c : Int} (h : c ≠ 42) (p s : List Int) : G (c :: p) s ↔ ∃ x u, s = x :: u ∧ (c = 63 ∨ c = x) ∧ G p u := by simp [G, h]
theorem G_append (p q : List Int) : ∀ s, G (p ++ q) s ↔ ∃ t u, s = t ++ u ∧ G p t ∧ G q u := by
  induction p with
  | nil =>
    intro s
    constructor
    · intro h; exact ⟨[], s, rfl, rfl, h⟩
    · rintro ⟨t, u, rfl, h1, h2⟩; obtain rfl : t = [] := h1; exact h2
  | cons c p ih =>
    intro s
    by_cases h : c = 42
    · subst h
      rw [List.cons_append, G_star]
      constructor
      · rintro ⟨t, u, rfl, hu⟩
        obtain ⟨a, b, rfl, ha, hb⟩ := (ih u).1 hu
        exact ⟨t ++ a, b, (List.append_assoc _ _ _).symm, (G_star _ _).2 ⟨t, a, rfl, ha⟩, hb⟩
      · rintro ⟨t, u, rfl, ht, hu⟩
        obtain ⟨a, b, rfl, hb⟩ := (G_star _ _).1 ht
        exact ⟨a, b ++ u, List.append_assoc _ _ _, (ih _).2 ⟨b, u, rfl, hb, hu⟩⟩
    · rw [List.cons_append, G_one h]
      constructor
      · rintro ⟨x, u, rfl, hx, hu⟩
        obtain ⟨a, b, rfl, ha, hb⟩ := (ih u).1 hu
        exact ⟨x :: a, b, rfl, (G_one h _ _).2 ⟨x, a, rfl, hx, ha⟩, hb⟩
      · rintro ⟨t, u, rfl, ht, hu⟩
        obtain ⟨x, b, rfl, hx, hb⟩ := (G_one h _ _).1 ht
        exact ⟨x, b ++ u, rfl, hx, (ih _).2 ⟨b, u, rfl, hb, hu⟩⟩
theorem G_snoc_star (p s : List Int) : G (p ++ [42]) s ↔ ∃ t u, s = t ++ u ∧ G p t := by
  rw [G_append]
  constructor
  · rintro ⟨t, u, h, h1, _⟩; exact ⟨t, u, h, h1⟩
  · rintro ⟨t, u, h, h1⟩; exact ⟨t, u, h, h1, (G_star _ _).2 ⟨u, [], by simp, rfl⟩⟩
theorem G_snoc {c : Int} (hc : c ≠ 42) (p s : List Int) : G (p ++ [c]) s ↔ ∃ t x, s = t ++ [x] ∧ (c = 63 ∨ c = x) ∧ G p t := by
  rw [G_append]
  constructor
  · rintro ⟨t, u, h, h1, h2⟩
    obtain ⟨x, v, rfl, hx, hv⟩ := (G_one hc _ _).1 h2
    obtain rfl : v = [] := hv
    exact ⟨t, x, h, hx, h1⟩
  · rintro ⟨t, x, h, hx, h1⟩; exact ⟨t, [x], h, h1, (G_one hc _ _).2 ⟨x, [], rfl, hx, rfl⟩⟩
/-- the document's rows: the k-th of the row behind i signs: does the beginning match? -/
theorem G_step_star (p s : List Int) (x : Int) : G (p ++ [42]) (s ++ [x]) ↔ G p (s ++ [x]) ∨ G (p ++ [42]) s := by
  rw [G_snoc_star, G_snoc_star]
  constructor
  · rintro ⟨t, u, h, hp⟩
    rcases List.eq_nil_or_concat u with rfl | ⟨v, y, rfl⟩
    · left; rw [h, List.append_nil]; exact hp
    · right
      rw [List.concat_eq_append, ← List.append_assoc] at h
      have := List.append_inj_left' h rfl
      exact ⟨t, v, this, hp⟩
  · rintro (h | ⟨t, u, rfl, hp⟩)
    · exact ⟨s ++ [x], [], (List.append_nil _).symm, h⟩
    · exact ⟨t, u ++ [x], List.append_assoc _ _ _, hp⟩
theorem G_step_star0 (p : List Int) : G (p ++ [42]) [] ↔ G p [] := by
  rw [G_snoc_star]
  constructor
  · rintro ⟨t, u, h, hp⟩; obtain ⟨rfl, rfl⟩ := List.nil_eq_append_iff.1 h; exact hp
  · intro h; exact ⟨[], [], rfl, h⟩
theorem G_step {c : Int} (hc : c ≠ 42) (p s : List Int) (x : Int) : G (p ++ [c]) (s ++ [x]) ↔ G p s ∧ (c = 63 ∨ c = x) := by
  rw [G_snoc hc]
  constructor
  · rintro ⟨t, y, h, hy, hp⟩
    obtain ⟨rfl, h2⟩ := List.append_inj' h rfl
    obtain rfl : x = y := by simpa using h2
    exact ⟨hp, hy⟩
  · rintro ⟨hp, hx⟩; exact ⟨s, x, rfl, hx, hp⟩
theorem G_step0 {c : Int} (hc : c ≠ 42) (p : List Int) : ¬ G (p ++ [c]) [] := by
  rw [G_snoc hc]
  rintro ⟨t, x, h, _⟩
  simp at h
/-- what is left of the pattern matches nothing but nothing: stars alone -/
theorem G_empty (p : List Int) : G p [] ↔ ∀ c ∈ p, c = 42 := by
  induction p with
  | nil => simp [G]
  | cons c p ih =>
    by_cases h : c = 42
    · subst h
      rw [G_star]
      constructor
      · rintro ⟨t, u, h, hp⟩
        obtain ⟨rfl, rfl⟩ := List.nil_eq_append_iff.1 h
        intro c hc
        rcases List.mem_cons.1 hc with rfl | hc
        · rfl
        · exact ih.1 hp c hc
      · intro hp; exact ⟨[], [], rfl, ih.2 fun c hc => hp c (List.mem_cons_of_mem _ hc)⟩
    · rw [G_one h]
      constructor
      · rintro ⟨x, u, h', _⟩; cases h'
      · intro hp; exact absurd (hp c List.mem_cons_self) h
/-- a text without signs matches itself alone -/
theorem G_plain (p : List Int) (h : ∀ c ∈ p, c ≠ 42 ∧ c ≠ 63) : ∀ s, G p s ↔ p = s := by
  induction p with
  | nil => intro s; rw [G_nil]; exact eq_comm
  | cons c p ih =>
    intro s
    have hc := h c List.mem_cons_self
    rw [G_one hc.1]
    constructor
    · rintro ⟨x, u, rfl, hx, hu⟩
      rcases hx with hx | rfl
      · exact absurd hx hc.2
      · rw [(ih (fun c hc => h c (List.mem_cons_of_mem _ hc)) u).1 hu]
    · rintro rfl; exact ⟨c, p, rfl, Or.inr rfl, (ih (fun c hc => h c (List.mem_cons_of_mem _ hc)) p).2 rfl⟩
/-- m i k: what comes from sign i on matches what comes from byte k on -/
def m (p s : List Int) (i k : Nat) : Prop := G (p.drop i) (s.drop k)
theorem m_star {p s : List Int} {i k : Nat} (hi : p[i]? = some 42) : m p s i k ↔ ∃ j, k ≤ j ∧ j ≤ max k s.length ∧ m p s (i + 1) j := by
  obtain ⟨hi', e⟩ := List.getElem?_eq_some_iff.1 hi
  unfold m
  rw [List.drop_eq_getElem_cons hi', e, G_star]
  constructor
  · rintro ⟨t, u, h, hp⟩
    by_cases hk : k ≤ s.length
    · have hl : t.length ≤ s.length - k := by have := congrArg List.length h; simp at this; omega
      refine ⟨k + t.length, by omega, by omega, ?_⟩
      have : s.drop (k + t.length) = u := by rw [← List.drop_drop, h, List.drop_left]
      rw [this]; exact hp
    · rw [List.drop_eq_nil_of_le (by omega)] at h
      obtain ⟨rfl, rfl⟩ := List.nil_eq_append_iff.1 h
      exact ⟨k, Nat.le_refl _, by omega, by rw [List.drop_eq_nil_of_le (show s.length ≤ k by omega)]; exact hp⟩
  · rintro ⟨j, h1, h2, hp⟩
    refine ⟨(s.drop k).take (j - k), s.drop j, ?_, hp⟩
    have : s.drop j = (s.drop k).drop (j - k) := by rw [List.drop_drop, Nat.add_sub_cancel' h1]
    rw [this, List.take_append_drop]
theorem m_one {p s : List Int} {i k : Nat} {c x : Int} (hi : p[i]? = some c) (hc : c ≠ 42) (hk : s[k]? = some x) : m p s i k ↔ (c = 63 ∨ c = x) ∧ m p s (i + 1) (k + 1) := by
  obtain ⟨hi', e⟩ := List.getElem?_eq_some_iff.1 hi
  obtain ⟨hk', f⟩ := List.getElem?_eq_some_iff.1 hk
  unfold m
  rw [List.drop_eq_getElem_cons hi', e, G_one hc, List.drop_eq_getElem_cons hk', f]
  constructor
  · rintro ⟨y, u, h, hx, hp⟩; cases h; exact ⟨hx, hp⟩
  · rintro ⟨hx, hp⟩; exact ⟨x, _, rfl, hx, hp⟩
theorem m_end {p s : List Int} {i k : Nat} (hi : p.length ≤ i) (hk : k < s.length) : ¬ m p s i k := by
  unfold m
  rw [List.drop_eq_nil_of_le hi, G_nil]
  intro h
  have := congrArg List.length h
  simp at this
  omega
theorem m_short {p s : List Int} {i k : Nat} {c : Int} (hi : p[i]? = some c) (hc : c ≠ 42) (hk : s.length ≤ k) : ¬ m p s i k := by
  obtain ⟨hi', e⟩ := List.getElem?_eq_some_iff.1 hi
  unfold m
  rw [List.drop_eq_getElem_cons hi', e, G_one hc, List.drop_eq_nil_of_le hk]
  rintro ⟨x, u, h, _⟩
  cases h
/-- between star and i no star, and they match from 'from' to k -/
def Seg (p : List Int) (st i : Nat) : Prop := ∀ j c, st < j → j < i → p[j]? = some c → c ≠ 42
/-- a match from behind the star at j runs on to sign i at j + (i - star - 1) -/
theorem m_run {p s : List Int} {i : Nat} (hi : i ≤ p.length) : ∀ (d st j : Nat), Seg p st i → d = i - (st + 1) → st + 1 ≤ i → j ≤ s.length → m p s (st + 1) j → m p s i (j + d) ∧ j + d ≤ s.length := by
  intro d
  induction d with
  | zero => intro st j _ hd hle hj h; have e : st + 1 = i := by omega
            rw [e] at h; exact ⟨h, hj⟩
  | succ d ih =>
    intro st j hS hd hle hj h
    have hlt : st + 1 < p.length := by omega
    have hc := hS (st + 1) p[st + 1] (by omega) (by omega) (List.getElem?_eq_getElem hlt)
    by_cases hjl : j < s.length
    · have h1 := ((m_one (List.getElem?_eq_getElem hlt) hc (List.getElem?_eq_getElem hjl)).1 h).2
      have := ih (st + 1) (j + 1) (fun j' c h1 h2 h3 => hS j' c (by omega) h2 h3) (by omega) (by omega) (by omega) h1
      rw [show j + (d + 1) = j + 1 + d by omega]
      exact this
    · exact absurd h (m_short (List.getElem?_eq_getElem hlt) hc (by omega))
/-- what holds at each round of the program's loop -/
def Inv (p s : List Int) (i k : Nat) (st : Int) (fr : Nat) : Prop :=
  i ≤ p.length ∧ k ≤ s.length ∧ ((st = -1 ∧ (G p s ↔ m p s i k)) ∨ ∃ t : Nat, st = (t : Int) ∧ t + 1 ≤ i ∧ fr + (i - (t + 1)) = k ∧ Seg p t i ∧ (G p s ↔ m p s i k ∨ ∃ j, fr < j ∧ j ≤ s.length ∧ m p s (t + 1) j))
theorem Inv.start (p s : List Int) : Inv p s 0 0 (-1) 0 := ⟨Nat.zero_le _, Nat.zero_le _, Or.inl ⟨rfl, by unfold m; rw [List.drop_zero, List.drop_zero]⟩⟩
theorem Inv.star {p s : List Int} {i k : Nat} {st : Int} {fr : Nat} (h : Inv p s i k st fr) (hi : p[i]? = some 42) : Inv p s (i + 1) k (i : Int) k := by
  obtain ⟨h1, h2, h3⟩ := h
  obtain ⟨hi', _⟩ := List.getElem?_eq_some_iff.1 hi
  have key : m p s i k ↔ m p s (i + 1) k ∨ ∃ j, k < j ∧ j ≤ s.length ∧ m p s (i + 1) j := by
    rw [m_star hi]
    constructor
    · rintro ⟨j, a, b, c⟩
      by_cases hj : j = k
      · left; rw [← hj]; exact c
      · right; exact ⟨j, by omega, by omega, c⟩
    · rintro (c | ⟨j, a, b, c⟩)
      · exact ⟨k, Nat.le_refl _, by omega, c⟩
      · exact ⟨j, by omega, by omega, c⟩
  refine ⟨by omega, h2, Or.inr ⟨i, rfl, Nat.le_refl _, by omega, fun j c a b => by omega, ?_⟩⟩
  rw [← key]
  rcases h3 with ⟨_, h3⟩ | ⟨t, rfl, ht, hk, hS, h3⟩
  · exact h3
  · rw [h3]
    constructor
    · rintro (h | ⟨j, a, b, c⟩)
      · exact h
      · obtain ⟨r1, r2⟩ := m_run h1 (i - (t + 1)) t j hS rfl ht b c
        obtain ⟨j', a', b', c'⟩ := (m_star hi).1 r1
        exact (m_star hi).2 ⟨j', by omega, by omega, c'⟩
    · exact Or.inl
theorem Inv.one {p s : List Int} {i k : Nat} {st : Int} {fr : Nat} {c x : Int} (h : Inv p s i k st fr) (hi : p[i]? = some c) (hc : c ≠ 42) (hk : s[k]? = some x) (hx : c = 63 ∨ c = x) : Inv p s (i + 1) (k + 1) st fr := by
  obtain ⟨h1, h2, h3⟩ := h
  obtain ⟨hi', _⟩ := List.getElem?_eq_some_iff.1 hi
  obtain ⟨hk', _⟩ := List.getElem?_eq_some_iff.1 hk
  have key : m p s i k ↔ m p s (i + 1) (k + 1) := by rw [m_one hi hc hk]; exact ⟨fun h => h.2, fun h => ⟨hx, h⟩⟩
  refine ⟨by omega, by omega, ?_⟩
  rw [← key]
  rcases h3 with ⟨a, h3⟩ | ⟨t, rfl, ht, hkk, hS, h3⟩
  · exact Or.inl ⟨a, h3⟩
  · refine Or.inr ⟨t, rfl, by omega, by omega, fun j c' a b e => ?_, h3⟩
    by_cases hj : j = i
    · subst hj; rw [hi] at e; cases e; exact hc
    · exact hS j c' a (by omega) e
/-- neither a star nor a sign that matches -/
theorem no_match {p s : List Int} {i k : Nat} (hk : k < s.length) (h42 : p[i]? ≠ some 42) (hno : ∀ c x, p[i]? = some c → s[k]? = some x → ¬ (c = 63 ∨ c = x)) : ¬ m p s i k := by
  by_cases hi : i < p.length
  · have hc : p[i] ≠ 42 := fun e => h42 (by rw [List.getElem?_eq_getElem hi, e])
    rw [m_one (List.getElem?_eq_getElem hi) hc (List.getElem?_eq_getElem hk)]
    exact fun h => hno _ _ (List.getElem?_eq_getElem hi) (List.getElem?_eq_getElem hk) h.1
  · exact m_end (by omega) hk
theorem Inv.back {p s : List Int} {i k : Nat} {t fr : Nat} (h : Inv p s i k (t : Int) fr) (hk : k < s.length) (hno : ¬ m p s i k) : Inv p s (t + 1) (fr + 1) (t : Int) (fr + 1) := by
  obtain ⟨h1, h2, h3⟩ := h
  rcases h3 with ⟨a, _⟩ | ⟨t', e, ht, hkk, hS, h3⟩
  · omega
  · obtain rfl : t = t' := by omega
    refine ⟨by omega, by omega, Or.inr ⟨t, rfl, Nat.le_refl _, by omega, fun j c a b => by omega, ?_⟩⟩
    rw [h3]
    constructor
    · rintro (h | ⟨j, a, b, c⟩)
      · exact absurd h hno
      · by_cases hj : j = fr + 1
        · left; rw [← hj]; exact c
        · right; exact ⟨j, by omega, b, c⟩
    · rintro (c | ⟨j, a, b, c⟩)
      · exact Or.inr ⟨fr + 1, by omega, by omega, c⟩
      · exact Or.inr ⟨j, by omega, b, c⟩
theorem Inv.none {p s : List Int} {i k : Nat} {fr : Nat} (h : Inv p s i k (-1) fr) (hno : ¬ m p s i k) : ¬ G p s := by
  rcases h.2.2 with ⟨_, h3⟩ | ⟨t, e, _⟩
  · rw [h3]; exact hno
  · omega
theorem Inv.done {p s : List Int} {i k : Nat} {st : Int} {fr : Nat} (h : Inv p s i k st fr) (hk : k = s.length) : G p s ↔ ∀ c ∈ p.drop i, c = 42 := by
  obtain ⟨h1, h2, h3⟩ := h
  have e : m p s i k ↔ ∀ c ∈ p.drop i, c = 42 := by
    unfold m
    rw [hk, List.drop_length, G_empty]
  rw [← e]
  rcases h3 with ⟨_, h3⟩ | ⟨t, rfl, ht, hkk, hS, h3⟩
  · exact h3
  · rw [h3]
    constructor
    · rintro (h | ⟨j, a, b, c⟩)
      · exact h
      · have := (m_run h1 (i - (t + 1)) t j hS rfl ht b c).2
        omega
    · exact Or.inl

/-! the document's rows -/
theorem take_next {p : List Int} {i : Nat} {c : Int} (hi : p[i]? = some c) : p.take (i + 1) = p.take i ++ [c] := by
  rw [List.take_add_one, hi]; rfl
theorem dp_start (s : List Int) (k : Nat) (hk : k ≤ s.length) : G [] (s.take k) ↔ k = 0 := by
  rw [G_nil]
  constructor
  · intro h
    have := congrArg List.length h
    rw [List.length_take, List.length_nil] at this
    omega
  · rintro rfl; rfl
theorem dp_star0 {p s : List Int} {i : Nat} (hi : p[i]? = some 42) : G (p.take (i + 1)) (s.take 0) ↔ G (p.take i) (s.take 0) := by
  rw [take_next hi, List.take_zero, G_step_star0]
theorem dp_star {p s : List Int} {i k : Nat} {x : Int} (hi : p[i]? = some 42) (hx : s[k]? = some x) : G (p.take (i + 1)) (s.take (k + 1)) ↔ G (p.take i) (s.take (k + 1)) ∨ G (p.take (i + 1)) (s.take k) := by
  rw [take_next hi, take_next hx, G_step_star]
theorem dp_one0 {p s : List Int} {i : Nat} {c : Int} (hi : p[i]? = some c) (hc : c ≠ 42) : ¬ G (p.take (i + 1)) (s.take 0) := by
  rw [take_next hi, List.take_zero]
  exact G_step0 hc _
theorem dp_one {p s : List Int} {i k : Nat} {c x : Int} (hi : p[i]? = some c) (hc : c ≠ 42) (hx : s[k]? = some x) : G (p.take (i + 1)) (s.take (k + 1)) ↔ G (p.take i) (s.take k) ∧ (c = 63 ∨ c = x) := by
  rw [take_next hi, take_next hx, G_step hc]
end Go.Proofs.YtooibmnanmmgiaaDoor.GB
