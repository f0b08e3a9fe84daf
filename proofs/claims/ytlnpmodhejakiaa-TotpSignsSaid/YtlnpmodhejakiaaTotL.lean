/- Base 32 in plain words: bits. -/
import Derived.Test.YtlnpmodhejakiaaTotB
namespace Go.Proofs.Ytlnpmodhejakiaa.T
open Go.RowKit Go.Proofs.YtlnpmodhejakiaaW.PrintWords Go.Proofs.YtlnpmodhejakiaaW.PrintLast Go.Proofs.YtlnpmodhejakiaaW.PrintMore
set_option linter.unusedVariables false
def isB (l : List Nat) : Prop := ∀ x ∈ l, x < 2
def num (l : List Nat) : Nat := l.foldl (fun a x => 2 * a + x) 0
theorem num_go (l : List Nat) : ∀ a, l.foldl (fun a x => 2 * a + x) a = a * 2 ^ l.length + num l := by
  induction l with
  | nil => intro a; simp [num]
  | cons x l ih =>
    intro a
    unfold num
    rw [List.foldl_cons, List.foldl_cons, ih, ih (2 * 0 + x), List.length_cons, Nat.pow_succ, Nat.add_mul, Nat.mul_zero, Nat.zero_add, Nat.add_assoc]
    rw [show 2 * a * 2 ^ l.length = a * (2 ^ l.length * 2) by rw [Nat.mul_comm 2 a, Nat.mul_assoc, Nat.mul_comm 2]]
theorem num_app (a b : List Nat) : num (a ++ b) = num a * 2 ^ b.length + num b := by
  unfold num
  rw [List.foldl_append, num_go]
  rfl
theorem num_cons (x : Nat) (l : List Nat) : num (x :: l) = x * 2 ^ l.length + num l := by
  have := num_app [x] l
  rw [List.singleton_append] at this
  rw [this]
  simp [num]
theorem num_lt (l : List Nat) (h : isB l) : num l < 2 ^ l.length := by
  induction l with
  | nil => decide
  | cons x l ih =>
    rw [num_cons, List.length_cons, Nat.pow_succ]
    have h1 := ih (fun y hy => h y (List.mem_cons_of_mem _ hy))
    have h2 := h x (List.mem_cons_self ..)
    have : x * 2 ^ l.length ≤ 1 * 2 ^ l.length := Nat.mul_le_mul_right _ (by omega)
    omega
theorem num_inj : ∀ (a b : List Nat), isB a → isB b → a.length = b.length → num a = num b → a = b
  | [], [], _, _, _, _ => rfl
  | [], y :: b, _, _, h, _ => by simp at h
  | x :: a, [], _, _, h, _ => by simp at h
  | x :: a, y :: b, ha, hb, hl, hn => by
    have hl' : a.length = b.length := by simpa using hl
    have h1 := num_lt a (fun z hz => ha z (List.mem_cons_of_mem _ hz))
    have h2 := num_lt b (fun z hz => hb z (List.mem_cons_of_mem _ hz))
    rw [num_cons, num_cons, hl'] at hn
    rw [hl'] at h1
    have e1 : (x * 2 ^ b.length + num a) / 2 ^ b.length = x := by rw [Nat.mul_comm, Nat.mul_add_div (Nat.two_pow_pos _), Nat.div_eq_of_lt h1]; rfl
    have e2 : (y * 2 ^ b.length + num b) / 2 ^ b.length = y := by rw [Nat.mul_comm, Nat.mul_add_div (Nat.two_pow_pos _), Nat.div_eq_of_lt h2]; rfl
    have exy : x = y := by rw [← e1, ← e2, hn]
    subst exy
    rw [num_inj a b (fun z hz => ha z (List.mem_cons_of_mem _ hz)) (fun z hz => hb z (List.mem_cons_of_mem _ hz)) hl' (by omega)]
def bits : Nat → Nat → List Nat
  | 0, _ => []
  | w + 1, n => n / 2 ^ w % 2 :: bits w n
theorem bits_len (n : Nat) : ∀ w, (bits w n).length = w
  | 0 => rfl
  | w + 1 => by rw [bits, List.length_cons, bits_len n w]
theorem bits_isB (n : Nat) : ∀ w, isB (bits w n)
  | 0 => by intro x hx; cases hx
  | w + 1 => by
    intro x hx
    rcases List.mem_cons.1 hx with rfl | hx
    · exact Nat.mod_lt _ (by decide)
    · exact bits_isB n w x hx
theorem num_bits (n : Nat) : ∀ w, num (bits w n) = n % 2 ^ w
  | 0 => by simp [bits, num, Nat.mod_one]
  | w + 1 => by rw [bits, num_cons, bits_len, num_bits n w, Nat.pow_succ, Nat.mod_mul, Nat.mul_comm, Nat.add_comm]
theorem bits_num (l : List Nat) (h : isB l) : bits l.length (num l) = l :=
  num_inj _ _ (bits_isB _ _) h (bits_len _ _) (by rw [num_bits, Nat.mod_eq_of_lt (num_lt l h)])
/-- the groups of g + 1 bits, and what is left -/
def vals (g : Nat) (l : List Nat) : List Nat × List Nat :=
  if h : l.length < g + 1 then ([], l) else (num (l.take (g + 1)) :: (vals g (l.drop (g + 1))).1, (vals g (l.drop (g + 1))).2)
termination_by l.length
decreasing_by all_goals (rw [List.length_drop]; omega)
theorem vals_lt {g : Nat} {l : List Nat} (h : l.length < g + 1) : vals g l = ([], l) := by rw [vals, dif_pos h]
theorem vals_ge {g : Nat} {l : List Nat} (h : ¬ l.length < g + 1) : vals g l = (num (l.take (g + 1)) :: (vals g (l.drop (g + 1))).1, (vals g (l.drop (g + 1))).2) := by rw [vals, dif_neg h]
theorem vals_head (g : Nat) (a b : List Nat) (h : a.length = g + 1) : vals g (a ++ b) = (num a :: (vals g b).1, (vals g b).2) := by
  rw [vals_ge (by rw [List.length_append]; omega), List.take_left' h, List.drop_left' h]
theorem vals_app (g : Nat) : ∀ (n : Nat) (a b : List Nat), a.length = n → vals g (a ++ b) = ((vals g a).1 ++ (vals g ((vals g a).2 ++ b)).1, (vals g ((vals g a).2 ++ b)).2) := by
  intro n
  induction n using Nat.strongRecOn with
  | _ n ih =>
    intro a b hn
    by_cases h : a.length < g + 1
    · rw [vals_lt h]; rfl
    · have e : a = a.take (g + 1) ++ a.drop (g + 1) := (List.take_append_drop _ _).symm
      have hl : (a.take (g + 1)).length = g + 1 := by rw [List.length_take]; omega
      rw [vals_ge h]
      conv => lhs; rw [e, List.append_assoc, vals_head g _ _ hl, ih (a.drop (g + 1)).length (by rw [List.length_drop]; omega) _ _ rfl]
      rfl
theorem vals_rest (g : Nat) : ∀ (n : Nat) (a : List Nat), a.length = n → (vals g a).2.length < g + 1 := by
  intro n
  induction n using Nat.strongRecOn with
  | _ n ih =>
    intro a hn
    by_cases h : a.length < g + 1
    · rw [vals_lt h]; exact h
    · rw [vals_ge h]; exact ih (a.drop (g + 1)).length (by rw [List.length_drop]; omega) _ rfl
theorem vals_isB (g : Nat) : ∀ (n : Nat) (a : List Nat), a.length = n → isB a → isB (vals g a).2 := by
  intro n
  induction n using Nat.strongRecOn with
  | _ n ih =>
    intro a hn hb
    by_cases h : a.length < g + 1
    · rw [vals_lt h]; exact hb
    · rw [vals_ge h]; exact ih (a.drop (g + 1)).length (by rw [List.length_drop]; omega) _ rfl (fun x hx => hb x (List.mem_of_mem_drop hx))
theorem vals_back (g : Nat) : ∀ (n : Nat) (a : List Nat), a.length = n → isB a → (vals g a).1.flatMap (bits (g + 1)) ++ (vals g a).2 = a ∧ ∀ v ∈ (vals g a).1, v < 2 ^ (g + 1) := by
  intro n
  induction n using Nat.strongRecOn with
  | _ n ih =>
    intro a hn hb
    by_cases h : a.length < g + 1
    · rw [vals_lt h]; exact ⟨rfl, by simp⟩
    · have hl : (a.take (g + 1)).length = g + 1 := by rw [List.length_take]; omega
      have hbt : isB (a.take (g + 1)) := fun x hx => hb x (List.mem_of_mem_take hx)
      obtain ⟨i1, i2⟩ := ih (a.drop (g + 1)).length (by rw [List.length_drop]; omega) (a.drop (g + 1)) rfl (fun x hx => hb x (List.mem_of_mem_drop hx))
      rw [vals_ge h]
      refine ⟨?_, ?_⟩
      · simp only
        rw [List.flatMap_cons, List.append_assoc, i1]
        have := bits_num _ hbt
        rw [hl] at this
        rw [this, List.take_append_drop]
      · intro v hv
        rcases List.mem_cons.1 hv with rfl | hv
        · have := num_lt _ hbt; rw [hl] at this; exact this
        · exact i2 v hv
theorem vals_flat (g : Nat) (l : List Nat) (h : ∀ x ∈ l, x < 2 ^ (g + 1)) (b : List Nat) (hb : b.length < g + 1) : vals g (l.flatMap (bits (g + 1)) ++ b) = (l, b) := by
  induction l with
  | nil => rw [List.flatMap_nil, List.nil_append, vals_lt hb]
  | cons x l ih =>
    rw [List.flatMap_cons, List.append_assoc, vals_head g _ _ (bits_len _ _), ih (fun y hy => h y (List.mem_cons_of_mem _ hy)), num_bits, Nat.mod_eq_of_lt (h x (List.mem_cons_self ..))]
/-- what goes out are the groups of five bits -/
theorem em_vals (b : Nat) : ∀ (n : Nat) (p : List Nat), p.length = n → isB p → b % 2 ^ p.length = num p → em (b : Int) p.length = ((vals 4 p).1.map (fun v : Nat => sg (v : Int)), (vals 4 p).2.length) ∧ b % 2 ^ (vals 4 p).2.length = num (vals 4 p).2 := by
  intro n
  induction n using Nat.strongRecOn with
  | _ n ih =>
    intro p hn hB hb
    by_cases h : p.length < 5
    · rw [em_lt _ _ h, vals_lt (g := 4) h]; exact ⟨rfl, hb⟩
    · have hl : (p.take 5).length = 5 := by rw [List.length_take]; omega
      have hd : (p.drop 5).length = p.length - 5 := List.length_drop
      have hBt : isB (p.take 5) := fun x hx => hB x (List.mem_of_mem_take hx)
      have hBd : isB (p.drop 5) := fun x hx => hB x (List.mem_of_mem_drop hx)
      have hnp : num p = num (p.take 5) * 2 ^ (p.drop 5).length + num (p.drop 5) := by rw [← num_app, List.take_append_drop]
      have hlt := num_lt _ hBd
      have hpow : 2 ^ p.length = 2 ^ (p.drop 5).length * 32 := by
        rw [hd, show (32 : Nat) = 2 ^ 5 from rfl, ← Nat.pow_add]
        congr 1
        omega
      obtain ⟨q, hq⟩ : ∃ q, 2 ^ (p.drop 5).length = q := ⟨_, rfl⟩
      have hq0 : 0 < q := by rw [← hq]; exact Nat.two_pow_pos _
      rw [hpow, hnp, hq, Nat.mod_mul] at hb
      rw [hq] at hlt
      have hm := Nat.mod_lt b hq0
      have e1 : (b % q + q * (b / q % 32)) % q = b % q := by rw [Nat.add_mul_mod_self_left, Nat.mod_mod]
      have e2 : (num (p.take 5) * q + num (p.drop 5)) % q = num (p.drop 5) := by rw [Nat.mul_comm, Nat.mul_add_mod, Nat.mod_eq_of_lt hlt]
      have e3 : b % q = num (p.drop 5) := by rw [← e1, hb, e2]
      have e4 : (b % q + q * (b / q % 32)) / q = b / q % 32 := by rw [Nat.add_mul_div_left _ _ hq0, Nat.div_eq_of_lt hm, Nat.zero_add]
      have e5 : (num (p.take 5) * q + num (p.drop 5)) / q = num (p.take 5) := by rw [Nat.mul_comm, Nat.mul_add_div hq0, Nat.div_eq_of_lt hlt]; rfl
      have e6 : b / q % 32 = num (p.take 5) := by rw [← e4, hb, e5]
      obtain ⟨i1, i2⟩ := ih (p.drop 5).length (by omega) (p.drop 5) rfl hBd (by rw [hq]; exact e3)
      rw [em_ge _ _ h, vals_ge (g := 4) (by omega)]
      rw [hd] at i1
      refine ⟨?_, i2⟩
      rw [i1]
      simp only [List.map_cons]
      have : ((b : Int) / 2 ^ (p.length - 5) % 32) = ((num (p.take 5) : Nat) : Int) := by
        rw [← e6, ← hq, hd]
        rw [show (2 : Int) ^ (p.length - 5) = ((2 ^ (p.length - 5) : Nat) : Int) by rw [Int.natCast_pow]; rfl]
        rfl
      rw [this]
end Go.Proofs.Ytlnpmodhejakiaa.T
