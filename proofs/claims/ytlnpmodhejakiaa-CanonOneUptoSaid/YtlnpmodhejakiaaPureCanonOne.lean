/- The plain law of CanonOne: a record's bytes tell its parts. -/
import Derived.Test.YtlnpmodhejakiaaDefCanonOne
import Derived.Test.YtlnpmodhejakiaaEncL
namespace Go.Proofs.Ytlnpmodhejakiaa.Pure
open Go.RowKit Go.Proofs.YtlnpmodhejakiaaW.PrintWords Go.Proofs.YtlnpmodhejakiaaW.PrintLast Go.Proofs.YtlnpmodhejakiaaW.PrintMore Go.Proofs.Ytlnpmodhejakiaa.PO Go.Proofs.Ytlnpmodhejakiaa.D Go.Proofs.Ytlnpmodhejakiaa.CP
open Go.Proofs.Ytlnpmodhejakiaa.PK (stelelaw02_kind.f stelelaw02_put.f stelelaw02_same.f steleref01_Same.f steleref01_Same.l0 kindI)
set_option linter.unusedVariables false
theorem sameO0 (l m : List Int) (hl : l.length ≤ 140737488355328) (hm : l.length = m.length) : ∀ (d i k : Nat), l.length - i = d → i ≤ l.length → d < k → l.take i = m.take i → steleref01_Same.l0 k l m i = some (decide (l = m)) := by
  intro d
  induction d with
  | zero =>
    intro i k hd hi hk ht
    obtain ⟨k, rfl⟩ : ∃ k', k = k' + 1 := ⟨k - 1, by omega⟩
    rw [steleref01_Same.l0, if_neg (by omega)]
    rw [List.take_of_length_le (by omega), List.take_of_length_le (by omega)] at ht
    rw [decide_eq_true ht]
  | succ d ih =>
    intro i k hd hi hk ht
    obtain ⟨k, rfl⟩ : ∃ k', k = k' + 1 := ⟨k - 1, by omega⟩
    have i1 : i < l.length := by omega
    have i2 : i < m.length := by omega
    have r1 : rd l (i : Int) = l[i] := by show l.getD i 0 = _; rw [List.getD_eq_getElem?_getD, List.getElem?_eq_getElem i1]; rfl
    have r2 : rd m (i : Int) = m[i] := by show m.getD i 0 = _; rw [List.getD_eq_getElem?_getD, List.getElem?_eq_getElem i2]; rfl
    rw [steleref01_Same.l0, if_pos (by omega), if_pos (by omega), if_pos (by omega), r1, r2]
    by_cases e : l[i] = m[i]
    · rw [if_pos e]
      rw [show wrap64 ((i : Int) + 1) = ((i + 1 : Nat) : Int) by unfold wrap64; omega]
      exact ih (i + 1) k (by omega) (by omega) (by omega) (by rw [List.take_succ_eq_append_getElem i1, List.take_succ_eq_append_getElem i2, ht, e])
    · rw [if_neg e]
      have : ¬ (l = m) := by
        intro h
        subst h
        exact e rfl
      rw [decide_eq_false this]
theorem sameO (l m : List Int) (hl : l.length ≤ 140737488355328) (k : Nat) (hk : l.length < k) : steleref01_Same.f k l m = some (decide (l = m)) := by
  unfold steleref01_Same.f
  by_cases h : l.length = m.length
  · rw [if_pos (by omega)]
    exact sameO0 l m hl h l.length 0 k (by omega) (by omega) hk rfl
  · rw [if_neg (by omega), decide_eq_false (by intro e; subst e; exact h rfl)]
def E (x : S46) : List Int := encP (kindI x.f0) x.f1 x.f2
def okS (x : S46) : Prop := okP (kindI x.f0) x.f1 x.f2 ∧ x.f2.length ≤ 1048576 ∧ ∀ y ∈ x.f2, 0 ≤ y ∧ y ≤ 255
theorem kind_eq (a b : Int) (l : List Int) : stelelaw02_kind.f a b l = some (kindI a, b, l) := by
  unfold stelelaw02_kind.f kindI
  split
  · rfl
  · split <;> rfl
theorem kindI_bd (a : Int) : 0 ≤ kindI a ∧ kindI a ≤ 4 := by
  unfold kindI
  split
  · omega
  · split <;> omega
def S (x y : S46) : Prop := sameP (kindI x.f0) x.f1 x.f2 (kindI y.f0) y.f1 y.f2
instance (x y : S46) : Decidable (S x y) := by unfold S; exact inferInstance
theorem E_len (x : S46) (h : okS x) : (E x).length ≤ x.f2.length + 9 := by
  unfold E encP
  split
  · rw [List.length_cons, longL_len]; omega
  · split
    · rw [List.length_cons, List.length_append, longL_len]; omega
    · split
      · rw [List.length_cons, List.length_append, longL_len]; omega
      · split
        · rw [List.length_singleton]; omega
        · rw [List.length_cons, longL_len]; omega
def Es (l : List S46) : List Int := l.flatMap E
theorem rd_eq (l : List S46) (i : Nat) (h : i < l.length) : rd_T46 l (i : Int) = l[i] := by
  show l.getD i z46 = _
  rw [List.getD_eq_getElem?_getD, List.getElem?_eq_getElem h]; rfl
theorem drop_E (l : List S46) (i : Nat) (h : i < l.length) : Es (l.drop i) = E l[i] ++ Es (l.drop (i + 1)) := by
  unfold Es
  rw [List.drop_eq_getElem_cons h, List.flatMap_cons]
theorem Es_len (l : List S46) (h : ∀ y ∈ l, okS y) : (Es l).length ≤ l.length * 1048585 := by
  unfold Es
  induction l with
  | nil => simp
  | cons a l ih =>
    rw [List.flatMap_cons, List.length_append, List.length_cons]
    have := E_len a (h a (by simp))
    have := (h a (by simp)).2.1
    have := ih (fun y hy => h y (by simp [hy]))
    omega
/-- lists of parts: the bytes tell them -/
theorem Es_inj : ∀ (l m : List S46), (∀ y ∈ l, okS y) → (∀ y ∈ m, okS y) → Es l = Es m → l.length = m.length ∧ ∀ i (h : i < l.length) (h' : i < m.length), S l[i] m[i]
  | [], [], _, _, _ => ⟨rfl, fun i h => absurd h (by simp)⟩
  | [], b :: m, _, _, h => by
    unfold Es at h
    rw [List.flatMap_cons, List.flatMap_nil] at h
    exact absurd (List.append_eq_nil_iff.1 h.symm).1 (encP_ne _ _ _)
  | a :: l, [], _, _, h => by
    unfold Es at h
    rw [List.flatMap_cons, List.flatMap_nil] at h
    exact absurd (List.append_eq_nil_iff.1 h).1 (encP_ne _ _ _)
  | a :: l, b :: m, hl, hm, h => by
    unfold Es at h
    rw [List.flatMap_cons, List.flatMap_cons] at h
    obtain ⟨h1, h2⟩ := encP_inj (hl a (by simp)).1 (hm b (by simp)).1 h
    obtain ⟨h3, h4⟩ := Es_inj l m (fun y hy => hl y (by simp [hy])) (fun y hy => hm y (by simp [hy])) h2
    refine ⟨by rw [List.length_cons, List.length_cons, h3], ?_⟩
    intro i h h'
    cases i with
    | zero => exact h1
    | succ i => exact h4 i (by simpa using h) (by simpa using h')
theorem Es_same : ∀ (l m : List S46), l.length = m.length → (∀ i (h : i < l.length) (h' : i < m.length), S l[i] m[i]) → Es l = Es m
  | [], [], _, _ => rfl
  | [], b :: m, h, _ => by simp at h
  | a :: l, [], h, _ => by simp at h
  | a :: l, b :: m, h, hs => by
    unfold Es
    rw [List.flatMap_cons, List.flatMap_cons]
    have h0 : S a b := hs 0 (by simp) (by simp)
    have := Es_same l m (by simpa using h) (fun i h1 h2 => hs (i + 1) (by simpa using h1) (by simpa using h2))
    unfold Es at this
    rw [this]
    unfold E
    rw [encP_same (kindI_bd _) h0]
theorem put_eq (k : Nat) (hk : 9 ≤ k) (out : List Int) (x : S46) (hx : okS x) (h : out.length ≤ 1000000000) : stelelaw02_put.f k out (kindI x.f0) x.f1 x.f2 = some (out ++ E x) :=
  c_put k hk out _ _ _ (kindI_bd _) hx.1.2.1 hx.2.2 (by have := hx.2.1; omega)
theorem l0_eq (x0 x1 : List S46) (h0 : ∀ y ∈ x0, okS y) (hl : x0.length ≤ 200) : ∀ (d i k : Nat) (out : List Int), x0.length - i = d → i ≤ x0.length → 9 ≤ k → out.length ≤ i * 1048585 → stelelaw02_CanonOne.l0 (k + d + 1) x0 x1 out i = stelelaw02_CanonOne.l1 k x0 x1 (out ++ Es (x0.drop i)) [] 0 := by
  intro d
  induction d with
  | zero =>
    intro i k out hd hi hk ho
    rw [stelelaw02_CanonOne.l0, if_neg (by omega), List.drop_of_length_le (by omega)]
    unfold Es
    rw [List.flatMap_nil, List.append_nil]
  | succ d ih =>
    intro i k out hd hi hk ho
    have i1 : i < x0.length := by omega
    have hx := h0 _ (List.getElem_mem i1)
    have := E_len _ hx
    have := hx.2.1
    rw [show k + (d + 1) + 1 = (k + d + 1) + 1 by omega, stelelaw02_CanonOne.l0, if_pos (by omega), if_pos (by omega), rd_eq _ _ i1, kind_eq, Option.bind_some]
    rw [put_eq _ (by omega) out _ hx (by omega), Option.bind_some]
    rw [show wrap64 ((i : Int) + 1) = ((i + 1 : Nat) : Int) by unfold wrap64; omega]
    rw [ih (i + 1) k _ (by omega) (by omega) hk (by rw [List.length_append]; omega), drop_E _ _ i1, List.append_assoc]
theorem l1_eq (x0 x1 : List S46) (a : List Int) (h0 : ∀ y ∈ x1, okS y) (hl : x1.length ≤ 200) : ∀ (d i k : Nat) (out : List Int), x1.length - i = d → i ≤ x1.length → 9 ≤ k → out.length ≤ i * 1048585 → stelelaw02_CanonOne.l1 (k + d + 1) x0 x1 a out i = stelelaw02_CanonOne.l2 k x0 x1 a (out ++ Es (x1.drop i)) ((x0.length : Int) == (x1.length : Int)) 0 := by
  intro d
  induction d with
  | zero =>
    intro i k out hd hi hk ho
    rw [stelelaw02_CanonOne.l1, if_neg (by omega), List.drop_of_length_le (by omega)]
    unfold Es
    rw [List.flatMap_nil, List.append_nil]
  | succ d ih =>
    intro i k out hd hi hk ho
    have i1 : i < x1.length := by omega
    have hx := h0 _ (List.getElem_mem i1)
    have := E_len _ hx
    have := hx.2.1
    rw [show k + (d + 1) + 1 = (k + d + 1) + 1 by omega, stelelaw02_CanonOne.l1, if_pos (by omega), if_pos (by omega), rd_eq _ _ i1, kind_eq, Option.bind_some]
    rw [put_eq _ (by omega) out _ hx (by omega), Option.bind_some]
    rw [show wrap64 ((i : Int) + 1) = ((i + 1 : Nat) : Int) by unfold wrap64; omega]
    rw [ih (i + 1) k _ (by omega) (by omega) hk (by rw [List.length_append]; omega), drop_E _ _ i1, List.append_assoc]
theorem same_eq (k : Nat) (x y : S46) (hx : okS x) (hk : x.f2.length < k) : stelelaw02_same.f k (kindI x.f0) x.f1 x.f2 (kindI y.f0) y.f1 y.f2 = some (decide (S x y)) := by
  unfold stelelaw02_same.f
  by_cases e : kindI x.f0 = kindI y.f0
  · rw [if_pos e]
    by_cases k0 : kindI x.f0 = 0
    · rw [if_pos k0]
      have : S x y ↔ x.f1 = y.f1 := by unfold S sameP; rw [if_pos k0]; exact ⟨fun h => h.2, fun h => ⟨e, h⟩⟩
      rw [decide_eq_decide.2 this]; rfl
    · rw [if_neg k0]
      by_cases k3 : kindI x.f0 = 3
      · rw [if_pos k3]
        have : S x y ↔ Int.tmod x.f1 2 = Int.tmod y.f1 2 := by unfold S sameP; rw [if_neg k0, if_pos k3]; exact ⟨fun h => h.2, fun h => ⟨e, h⟩⟩
        rw [decide_eq_decide.2 this]; rfl
      · rw [if_neg k3]
        by_cases k4 : kindI x.f0 = 4
        · rw [if_pos k4]
          have : S x y ↔ Int.tmod x.f1 100 = Int.tmod y.f1 100 := by unfold S sameP; rw [if_neg k0, if_neg k3, if_pos k4]; exact ⟨fun h => h.2, fun h => ⟨e, h⟩⟩
          rw [decide_eq_decide.2 this]; rfl
        · rw [if_neg k4, sameO _ _ (by have := hx.2.1; omega) k hk, Option.bind_some]
          have : S x y ↔ x.f2 = y.f2 := by unfold S sameP; rw [if_neg k0, if_neg k3, if_neg k4]; exact ⟨fun h => h.2, fun h => ⟨e, h⟩⟩
          rw [decide_eq_decide.2 this]
  · rw [if_neg e]
    have : ¬ S x y := fun h => e h.1
    rw [decide_eq_false this]
def R (x0 x1 : List S46) : Prop := x0.length = x1.length ∧ ∀ i (h : i < x0.length) (h' : i < x1.length), S x0[i] x1[i]
theorem R_iff (x0 x1 : List S46) (h0 : ∀ y ∈ x0, okS y) (h1 : ∀ y ∈ x1, okS y) : (Es x0 = Es x1) ↔ R x0 x1 := ⟨Es_inj x0 x1 h0 h1, fun h => Es_same x0 x1 h.1 h.2⟩
/-- the end -/
theorem j4_end (k : Nat) (x0 x1 : List S46) (h0 : ∀ y ∈ x0, okS y) (h1 : ∀ y ∈ x1, okS y) (hl : x0.length ≤ 200) (b : Bool) (i : Int) (hk : 300000000 < k) (hb : b = true ↔ R x0 x1) : stelelaw02_CanonOne.j4 (k + 1) x0 x1 (Es x0) (Es x1) b i false = some true := by
  have hlen := Es_len x0 h0
  rw [stelelaw02_CanonOne.j4, if_neg (by decide), sameO _ _ (by omega) k (by omega), Option.bind_some]
  have : (decide (Es x0 = Es x1) == b) = true := by
    have := R_iff x0 x1 h0 h1
    cases b with
    | true => rw [decide_eq_true (this.2 (hb.1 rfl))]; rfl
    | false => rw [decide_eq_false (fun e => absurd (hb.2 (this.1 e)) (by decide))]; rfl
  rw [if_pos this]
  rfl
theorem l2_eq (x0 x1 : List S46) (h0 : ∀ y ∈ x0, okS y) (h1 : ∀ y ∈ x1, okS y) (hl : x0.length ≤ 200) : ∀ (d i k : Nat) (b : Bool), x0.length - i = d → i ≤ x0.length → 300000000 < k → (b = false → ¬ R x0 x1) → (b = true → x0.length = x1.length ∧ ∀ j (h : j < x0.length) (h' : j < x1.length), j < i → S x0[j] x1[j]) → stelelaw02_CanonOne.l2 (k + 2 * d + 2) x0 x1 (Es x0) (Es x1) b i = some true := by
  intro d
  induction d with
  | zero =>
    intro i k b hd hi hk hf ht
    rw [stelelaw02_CanonOne.l2, if_neg (by omega)]
    refine j4_end k x0 x1 h0 h1 hl b i hk ⟨fun e => ⟨(ht e).1, fun j a a' => (ht e).2 j a a' (by omega)⟩, fun r => ?_⟩
    cases b with
    | true => rfl
    | false => exact absurd r (hf rfl)
  | succ d ih =>
    intro i k b hd hi hk hf ht
    have i1 : i < x0.length := by omega
    rw [show k + 2 * (d + 1) + 2 = (k + 2 * d + 2) + 1 + 1 by omega, stelelaw02_CanonOne.l2, if_pos (by omega)]
    cases b with
    | false =>
      refine j4_end _ x0 x1 h0 h1 hl false i (by omega) ⟨fun e => absurd e (by decide), fun r => absurd r (hf rfl)⟩
    | true =>
      obtain ⟨e1, e2⟩ := ht rfl
      have i2 : i < x1.length := by omega
      rw [stelelaw02_CanonOne.j4, if_pos rfl, if_pos (by omega), if_pos (by omega), rd_eq _ _ i1, kind_eq, Option.bind_some, if_pos (by omega), rd_eq _ _ i2, kind_eq, Option.bind_some]
      rw [same_eq _ _ _ (h0 _ (List.getElem_mem i1)) (by have := (h0 _ (List.getElem_mem i1)).2.1; omega), Option.bind_some]
      rw [show wrap64 ((i : Int) + 1) = ((i + 1 : Nat) : Int) by unfold wrap64; omega]
      refine ih (i + 1) k _ (by omega) (by omega) hk ?_ ?_
      · intro e r
        exact of_decide_eq_false e (r.2 i i1 i2)
      · intro e
        refine ⟨e1, fun j a a' hj => ?_⟩
        by_cases hji : j = i
        · subst hji; exact of_decide_eq_true e
        · exact e2 j a a' (by omega)
theorem sum_le (l : List S46) : ∀ y ∈ l, y.f2.length ≤ (l.map (fun y => sz46 y)).sum := by
  intro y hy
  have h1 : y.f2.length ≤ sz46 y := by
    unfold sz46
    have : (y.f2.map (fun _ => 1)).sum = y.f2.length := by rw [List.map_const', List.sum_replicate_nat]; omega
    omega
  have h2 : ∀ (l : List S46), y ∈ l → sz46 y ≤ (l.map (fun y => sz46 y)).sum := by
    intro l
    induction l with
    | nil => intro h; cases h
    | cons a l ih =>
      intro h
      rw [List.map_cons, List.sum_cons]
      rcases List.mem_cons.1 h with rfl | h
      · omega
      · have := ih h; omega
  exact Nat.le_trans h1 (h2 l hy)
theorem wfI {k : IntKind} {y : Int} (h : (Lit.int k y).wf = true) : k.min ≤ y ∧ y ≤ k.max := by simpa [Lit.wf] using h
theorem okS_of (l : List S46) (hs : (l.map (fun y => sz46 y)).sum ≤ 1048576) (h : ∀ y ∈ l, ok46 y) : ∀ y ∈ l, okS y := by
  intro y hy
  obtain ⟨a, b, c, d⟩ := h y hy
  have hb : (0 : Int) ≤ y.f1 ∧ y.f1 ≤ 18446744073709551615 := wfI b
  have hlen := sum_le l y hy
  exact ⟨⟨kindI_bd _, hb, by omega⟩, by omega, fun z hz => wfI (d z hz)⟩
theorem CanonOne : stelelaw02_CanonOne.Pure := by
  intro x0 x1 h0 h1 hb
  refine ⟨300000000 + 2000, ?_⟩
  unfold stelelaw02_CanonOne.f
  by_cases c0 : (x0.length : Int) > 200
  · rw [if_pos c0, show (300000000 + 2000 : Nat) = 300001999 + 1 from rfl, stelelaw02_CanonOne.j0, if_pos rfl]; rfl
  · rw [if_neg c0]
    by_cases c1 : (x1.length : Int) > 200
    · rw [decide_eq_true c1, show (300000000 + 2000 : Nat) = 300001999 + 1 from rfl, stelelaw02_CanonOne.j0, if_pos rfl]; rfl
    · rw [decide_eq_false c1, show (300000000 + 2000 : Nat) = 300001999 + 1 from rfl, stelelaw02_CanonOne.j0, if_neg (by decide)]
      have k0 := okS_of x0 (by omega) h0.2
      have k1 := okS_of x1 (by omega) h1.2
      obtain ⟨F, hF⟩ : ∃ F : Nat, 300001999 = F + x0.length + 1 := ⟨300001999 - x0.length - 1, by omega⟩
      rw [hF]
      have a0 := l0_eq x0 x1 k0 (by omega) x0.length 0 F [] (by omega) (by omega) (by omega) (by simp)
      rw [show (((0 : Nat)) : Int) = 0 from rfl] at a0
      rw [a0, List.nil_append, List.drop_zero]
      obtain ⟨G, hG⟩ : ∃ G : Nat, F = G + x1.length + 1 := ⟨F - x1.length - 1, by omega⟩
      rw [hG]
      have a1 := l1_eq x0 x1 (Es x0) k1 (by omega) x1.length 0 G [] (by omega) (by omega) (by omega) (by simp)
      rw [show (((0 : Nat)) : Int) = 0 from rfl] at a1
      rw [a1, List.nil_append, List.drop_zero]
      obtain ⟨H, hH⟩ : ∃ H : Nat, G = H + 2 * x0.length + 2 := ⟨G - 2 * x0.length - 2, by omega⟩
      rw [hH]
      refine l2_eq x0 x1 k0 k1 (by omega) x0.length 0 H _ (by omega) (by omega) (by omega) ?_ ?_
      · intro e r
        have := r.1
        rw [beq_eq_false_iff_ne] at e
        omega
      · intro e
        rw [beq_iff_eq] at e
        exact ⟨by omega, fun j _ _ hj => absurd hj (by omega)⟩
end Go.Proofs.Ytlnpmodhejakiaa.Pure
