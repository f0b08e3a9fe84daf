/- Base 32 in plain words: what is written is read as it was. -/
import Derived.Test.YtlnpmodhejakiaaTotL
namespace Go.Proofs.Ytlnpmodhejakiaa.T
open Go.RowKit Go.Proofs.YtlnpmodhejakiaaW.PrintWords Go.Proofs.YtlnpmodhejakiaaW.PrintLast Go.Proofs.YtlnpmodhejakiaaW.PrintMore
set_option linter.unusedVariables false
theorem flatMap_cg {α β : Type} (l : List α) (f g : α → List β) (h : ∀ a ∈ l, f a = g a) : l.flatMap f = l.flatMap g := by
  induction l with
  | nil => rfl
  | cons a l ih => rw [List.flatMap_cons, List.flatMap_cons, h a (List.mem_cons_self ..), ih (fun b hb => h b (List.mem_cons_of_mem _ hb))]
def B8 (l : List Int) : List Nat := l.flatMap (fun x => bits 8 x.toNat)
def B5 (l : List Int) : List Nat := l.flatMap (fun c => bits 5 (idx c).toNat)
theorem isB_app {a b : List Nat} (ha : isB a) (hb : isB b) : isB (a ++ b) := fun x hx => (List.mem_append.1 hx).elim (ha x) (hb x)
theorem B8_isB (l : List Int) : isB (B8 l) := by
  intro x hx
  obtain ⟨y, _, hy⟩ := List.mem_flatMap.1 hx
  exact bits_isB _ _ x hy
theorem B5_isB (l : List Int) : isB (B5 l) := by
  intro x hx
  obtain ⟨y, _, hy⟩ := List.mem_flatMap.1 hx
  exact bits_isB _ _ x hy
/-- the pending number behind so many bits more -/
theorem pend (b m w x : Nat) (p : List Nat) (hp : p.length = m) (hb : b % 2 ^ m = num p) (hx : x < 2 ^ w) (hm : m + w ≤ 32) : (b * 2 ^ w + x) % 4294967296 % 2 ^ (p ++ bits w x).length = num (p ++ bits w x) := by
  rw [List.length_append, bits_len, hp, num_app, num_bits, bits_len, Nat.mod_eq_of_lt hx]
  rw [Nat.mod_mod_of_dvd _ (by rw [show (4294967296 : Nat) = 2 ^ 32 from rfl]; exact Nat.pow_dvd_pow 2 hm)]
  rw [Nat.add_comm m w, Nat.pow_add, Nat.mod_mul]
  have hw : 0 < 2 ^ w := Nat.two_pow_pos _
  have e1 : (b * 2 ^ w + x) % 2 ^ w = x := by rw [Nat.mul_comm, Nat.mul_add_mod, Nat.mod_eq_of_lt hx]
  have e2 : (b * 2 ^ w + x) / 2 ^ w = b := by rw [Nat.mul_comm, Nat.mul_add_div hw, Nat.div_eq_of_lt hx]; rfl
  rw [e1, e2, hb, Nat.mul_comm, Nat.add_comm]
def sgN (v : Nat) : UInt8 := sg (v : Int)
theorem run_vals (l : List Int) (hl : ∀ x ∈ l, 0 ≤ x ∧ x ≤ 255) : ∀ k, k ≤ l.length → ∃ b : Nat, run (l.take k) = ((vals 4 (B8 (l.take k))).1.map (fun v : Nat => sg (v : Int)), (b : Int), (vals 4 (B8 (l.take k))).2.length) ∧ b % 2 ^ (vals 4 (B8 (l.take k))).2.length = num (vals 4 (B8 (l.take k))).2 := by
  intro k
  induction k with
  | zero => intro _; exact ⟨0, by rw [List.take_zero, show B8 [] = [] from rfl, vals_lt (by decide)]; rfl, by rw [List.take_zero, show B8 [] = [] from rfl, vals_lt (by decide)]; rfl⟩
  | succ k ih =>
    intro hk
    obtain ⟨b, h1, h2⟩ := ih (by omega)
    have hx := hl l[k] (List.getElem_mem _)
    obtain ⟨x, hxe⟩ := Int.eq_ofNat_of_zero_le hx.1
    have hB : B8 (l.take (k + 1)) = B8 (l.take k) ++ bits 8 x := by
      unfold B8
      rw [List.take_succ_eq_append_getElem (by omega), List.flatMap_append, List.flatMap_cons, List.flatMap_nil, List.append_nil, hxe]
      rfl
    rw [hB, vals_app 4 _ _ _ rfl]
    have hr := vals_rest 4 _ (B8 (l.take k)) rfl
    have hp := pend b _ 8 x (vals 4 (B8 (l.take k))).2 rfl h2 (by omega) (by omega)
    obtain ⟨j1, j2⟩ := em_vals ((b * 2 ^ 8 + x) % 4294967296) _ ((vals 4 (B8 (l.take k))).2 ++ bits 8 x) rfl (isB_app (vals_isB 4 _ _ rfl (B8_isB _)) (bits_isB _ _)) hp
    refine ⟨(b * 2 ^ 8 + x) % 4294967296, ?_, j2⟩
    rw [List.take_succ_eq_append_getElem (by omega), run_snoc, h1, hxe]
    unfold next
    simp only
    rw [show ((b : Int) * 256 + (x : Int)) % 4294967296 = (((b * 2 ^ 8 + x) % 4294967296 : Nat) : Int) by omega]
    rw [List.length_append, bits_len] at j1
    rw [j1, List.map_append]
def Z (l : List Int) : List Nat := if (vals 4 (B8 l)).2.length = 0 then [] else List.replicate (5 - (vals 4 (B8 l)).2.length) 0
theorem num_zeros (n : Nat) : num (List.replicate n 0) = 0 := by
  induction n with
  | zero => rfl
  | succ n ih => rw [List.replicate_succ, num_cons, ih]; simp
theorem Z_isB (l : List Int) : isB (Z l) := by
  unfold Z
  intro x hx
  split at hx
  · cases hx
  · rw [(List.mem_replicate.1 hx).2]; decide
theorem Z_len (l : List Int) : (Z l).length < 5 := by
  unfold Z
  split
  · decide
  · rw [List.length_replicate]; omega
theorem b32_vals (l : List Int) (hl : ∀ x ∈ l, 0 ≤ x ∧ x ≤ 255) : b32 l = (vals 4 (B8 l ++ Z l)).1.map (fun v : Nat => sg (v : Int)) ∧ (vals 4 (B8 l ++ Z l)).2 = [] := by
  obtain ⟨b, h1, h2⟩ := run_vals l hl l.length (Nat.le_refl _)
  rw [List.take_length] at h1 h2
  have hr := vals_rest 4 _ (B8 l) rfl
  unfold b32
  rw [h1, vals_app 4 _ _ _ rfl]
  simp only
  by_cases hz : (vals 4 (B8 l)).2.length = 0
  · have e : (vals 4 (B8 l)).2 = [] := List.eq_nil_of_length_eq_zero hz
    have eZ : Z l = [] := by unfold Z; rw [if_pos hz]
    rw [if_neg (by omega), eZ, e, List.append_nil, List.append_nil, show vals 4 [] = ([], []) from vals_lt (by decide), List.append_nil]
    exact ⟨rfl, rfl⟩
  · have eZ : Z l = List.replicate (5 - (vals 4 (B8 l)).2.length) 0 := by unfold Z; rw [if_neg hz]
    rw [if_pos (by omega), eZ]
    obtain ⟨p, hp⟩ : ∃ p, (vals 4 (B8 l)).2 = p := ⟨_, rfl⟩
    rw [hp] at hz hr h2 ⊢
    have hv := vals_head 4 (p ++ List.replicate (5 - p.length) 0) [] (by rw [List.length_append, List.length_replicate]; omega)
    rw [List.append_nil, show vals 4 [] = ([], []) from vals_lt (by decide)] at hv
    rw [hv]
    refine ⟨?_, rfl⟩
    rw [List.map_append, List.map_cons, List.map_nil]
    congr 2
    rw [num_app, num_zeros, List.length_replicate, ← h2]
    have e : b * 2 ^ (5 - p.length) % 32 = b % 2 ^ p.length * 2 ^ (5 - p.length) := by
      rw [← Nat.mul_mod_mul_right, ← Nat.pow_add, show p.length + (5 - p.length) = 5 by omega]
    rw [Nat.add_zero, ← e]
    first | done | (congr 1; done) | (congr 1; rw [show (2 : Int) ^ (5 - p.length) = ((2 ^ (5 - p.length) : Nat) : Int) by rw [Int.natCast_pow]; rfl]; done) | (rw [show (2 : Int) ^ (5 - p.length) = ((2 ^ (5 - p.length) : Nat) : Int) by rw [Int.natCast_pow]; rfl]; rfl)
theorem idx_sg (v : Nat) (h : v < 32) : idx ((sg (v : Int)).toNat : Int) = (v : Int) := by
  have key : ∀ v : Nat, v < 32 → idx ((sg (v : Int)).toNat : Int) = (v : Int) := by decide +kernel
  exact key v h
theorem unrun_vals (l : List Int) (hl : ∀ c ∈ l, 0 ≤ idx c) : ∀ k, k ≤ l.length → ∃ b : Nat, unrun (l.take k) = some ((vals 7 (B5 (l.take k))).1.map (fun v : Nat => (v : Int)), (b : Int), (vals 7 (B5 (l.take k))).2.length) ∧ b % 2 ^ (vals 7 (B5 (l.take k))).2.length = num (vals 7 (B5 (l.take k))).2 := by
  intro k
  induction k with
  | zero => intro _; exact ⟨0, by rw [List.take_zero, show B5 [] = [] from rfl, vals_lt (by decide)]; rfl, by rw [List.take_zero, show B5 [] = [] from rfl, vals_lt (by decide)]; rfl⟩
  | succ k ih =>
    intro hk
    obtain ⟨b, h1, h2⟩ := ih (by omega)
    have hx := hl l[k] (List.getElem_mem _)
    have hx1 := (idx_bd l[k]).2
    obtain ⟨x, hxe⟩ := Int.eq_ofNat_of_zero_le hx
    have hB : B5 (l.take (k + 1)) = B5 (l.take k) ++ bits 5 x := by
      unfold B5
      rw [List.take_succ_eq_append_getElem (by omega), List.flatMap_append, List.flatMap_cons, List.flatMap_nil, List.append_nil, hxe]
      rfl
    have hx32 : x < 2 ^ 5 := by rw [hxe] at hx1; show x < 32; omega
    have hrun : unrun (l.take (k + 1)) = some (unext ((vals 7 (B5 (l.take k))).1.map (fun v : Nat => (v : Int)), (b : Int), (vals 7 (B5 (l.take k))).2.length) (x : Int)) := by
      rw [List.take_succ_eq_append_getElem (by omega), unrun_snoc, h1]
      unfold ustep
      rw [Option.bind_some, if_neg (by omega), hxe]
    rw [hB, vals_app 7 _ _ _ rfl, hrun]
    have hr := vals_rest 7 _ (B5 (l.take k)) rfl
    have hp := pend b _ 5 x (vals 7 (B5 (l.take k))).2 rfl h2 hx32 (by omega)
    have hpb : isB (vals 7 (B5 (l.take k))).2 := vals_isB 7 _ _ rfl (B5_isB _)
    obtain ⟨o, ho⟩ : ∃ o, (vals 7 (B5 (l.take k))).1 = o := ⟨_, rfl⟩
    obtain ⟨p, hpe⟩ : ∃ p, (vals 7 (B5 (l.take k))).2 = p := ⟨_, rfl⟩
    rw [ho, hpe]
    rw [hpe] at hr hp hpb
    have hc : ((b : Int) * 32 + (x : Int)) % 4294967296 = (((b * 2 ^ 5 + x) % 4294967296 : Nat) : Int) := by omega
    obtain ⟨q, hq⟩ : ∃ q, p ++ bits 5 x = q := ⟨_, rfl⟩
    have hql : q.length = p.length + 5 := by rw [← hq, List.length_append, bits_len]
    have hqb : isB q := by rw [← hq]; exact isB_app hpb (bits_isB _ _)
    rw [hq] at hp ⊢
    refine ⟨(b * 2 ^ 5 + x) % 4294967296, ?_⟩
    obtain ⟨b', hb'⟩ : ∃ b', (b * 2 ^ 5 + x) % 4294967296 = b' := ⟨_, rfl⟩
    rw [hb'] at hc hp ⊢
    unfold unext
    simp only
    rw [hc]
    by_cases h3 : 3 ≤ p.length
    · rw [if_pos h3]
      have hl8 : (q.take 8).length = 8 := by rw [List.length_take]; omega
      have hd : (q.drop 8).length = p.length - 3 := by rw [List.length_drop]; omega
      have hv : vals 7 q = ([num (q.take 8)], q.drop 8) := by
        rw [vals_ge (g := 7) (by omega), vals_lt (g := 7) (by rw [hd]; omega)]
      rw [hv]
      have hnq : num q = num (q.take 8) * 2 ^ (q.drop 8).length + num (q.drop 8) := by rw [← num_app, List.take_append_drop]
      have hlt := num_lt (q.drop 8) (fun x hx => hqb x (List.mem_of_mem_drop hx))
      have hpow : 2 ^ q.length = 2 ^ (q.drop 8).length * 256 := by
        rw [hd, show (256 : Nat) = 2 ^ 8 from rfl, ← Nat.pow_add, hql]
        congr 1
        omega
      obtain ⟨r, hre⟩ : ∃ r, 2 ^ (q.drop 8).length = r := ⟨_, rfl⟩
      have hr0 : 0 < r := by rw [← hre]; exact Nat.two_pow_pos _
      rw [hpow, hnq, hre, Nat.mod_mul] at hp
      rw [hre] at hlt
      have hm := Nat.mod_lt b' hr0
      have e1 : (b' % r + r * (b' / r % 256)) % r = b' % r := by rw [Nat.add_mul_mod_self_left, Nat.mod_mod]
      have e2 : (num (q.take 8) * r + num (q.drop 8)) % r = num (q.drop 8) := by rw [Nat.mul_comm, Nat.mul_add_mod, Nat.mod_eq_of_lt hlt]
      have e3 : b' % r = num (q.drop 8) := by rw [← e1, hp, e2]
      have e4 : (b' % r + r * (b' / r % 256)) / r = b' / r % 256 := by rw [Nat.add_mul_div_left _ _ hr0, Nat.div_eq_of_lt hm, Nat.zero_add]
      have e5 : (num (q.take 8) * r + num (q.drop 8)) / r = num (q.take 8) := by rw [Nat.mul_comm, Nat.mul_add_div hr0, Nat.div_eq_of_lt hlt]; rfl
      have e6 : b' / r % 256 = num (q.take 8) := by rw [← e4, hp, e5]
      refine ⟨?_, by simp only; rw [hre]; exact e3⟩
      simp only [List.map_append, List.map_cons, List.map_nil, hd]
      have : ((b' : Int) / 2 ^ (p.length - 3) % 256) = ((num (q.take 8) : Nat) : Int) := by
        rw [← e6, ← hre, hd]
        rw [show (2 : Int) ^ (p.length - 3) = ((2 ^ (p.length - 3) : Nat) : Int) by rw [Int.natCast_pow]; rfl]
        rfl
      rw [this]
    · rw [if_neg h3, vals_lt (g := 7) (by omega)]
      refine ⟨?_, hp⟩
      simp only [List.append_nil, hql]
theorem str_bytes (l : List UInt8) : bytesOf (⟨l.toArray⟩ : ByteArray) = l.map (fun b => (b.toNat : Int)) := rfl
/-- what was written is read as it was -/
theorem unb_b32 (l : List Int) (hl : ∀ x ∈ l, 0 ≤ x ∧ x ≤ 255) : unb (⟨(b32 l).toArray⟩ : ByteArray) = (l, 0) := by
  obtain ⟨h1, h2⟩ := b32_vals l hl
  have hD : isB (B8 l ++ Z l) := isB_app (B8_isB l) (Z_isB l)
  obtain ⟨v1, v2⟩ := vals_back 4 _ (B8 l ++ Z l) rfl hD
  rw [h2, List.append_nil] at v1
  unfold unb
  rw [str_bytes, h1, List.map_map]
  obtain ⟨V, hV⟩ : ∃ V, (vals 4 (B8 l ++ Z l)).1 = V := ⟨_, rfl⟩
  rw [hV] at v1 v2 ⊢
  obtain ⟨cs, hcs⟩ : ∃ cs, V.map ((fun b : UInt8 => (b.toNat : Int)) ∘ fun v : Nat => sg (v : Int)) = cs := ⟨_, rfl⟩
  have hB5 : B5 cs = B8 l ++ Z l := by
    rw [← v1, ← hcs]
    unfold B5
    rw [List.flatMap_map]
    apply flatMap_cg
    intro v hv
    show bits 5 (idx ((sg (v : Int)).toNat : Int)).toNat = bits (4 + 1) v
    rw [idx_sg v (v2 v hv)]
    rfl
  have hidx : ∀ c ∈ cs, 0 ≤ idx c := by
    intro c hc
    rw [← hcs] at hc
    obtain ⟨v, hv, rfl⟩ := List.mem_map.1 hc
    show 0 ≤ idx ((sg (v : Int)).toNat : Int)
    rw [idx_sg v (v2 v hv)]
    omega
  obtain ⟨b, r1, r2⟩ := unrun_vals cs hidx cs.length (Nat.le_refl _)
  rw [List.take_length, hB5] at r1
  have hfl : vals 7 (B8 l ++ Z l) = (l.map Int.toNat, Z l) := by
    have := vals_flat 7 (l.map Int.toNat) (by intro x hx; obtain ⟨y, hy, rfl⟩ := List.mem_map.1 hx; have := hl y hy; show y.toNat < 256; omega) (Z l) (by have := Z_len l; omega)
    rw [List.flatMap_map] at this
    exact this
  rw [hfl] at r1
  have hmap : (l.map Int.toNat).map (fun v : Nat => (v : Int)) = l := by
    rw [List.map_map]
    conv => rhs; rw [← List.map_id l]
    apply List.map_congr_left
    intro y hy
    have := hl y hy
    show ((y.toNat : Nat) : Int) = y
    omega
  rw [hmap] at r1
  rw [hcs, r1]
  simp only
  rw [if_pos (by rw [h1, hV])]
end Go.Proofs.Ytlnpmodhejakiaa.T
