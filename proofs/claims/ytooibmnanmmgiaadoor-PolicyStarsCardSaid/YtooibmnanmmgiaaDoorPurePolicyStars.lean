import Derived.Test.YtooibmnanmmgiaaDoorDefPolicyStars
import Derived.Test.YtooibmnanmmgiaaDoorMatE
namespace Go.Proofs.YtooibmnanmmgiaaDoor.Pure
open Go.RowKit Go.Proofs.YtooibmnanmmgiaaDoorW.PrintWords Go.Proofs.YtooibmnanmmgiaaDoorW.PrintLast Go.Proofs.YtooibmnanmmgiaaDoorW.PrintMore Go.Proofs.YtooibmnanmmgiaaDoor.Opn Go.Proofs.YtooibmnanmmgiaaDoor.PB Go.Proofs.YtooibmnanmmgiaaDoor.D Go.Proofs.YtooibmnanmmgiaaDoor.GB
set_option linter.unusedVariables false
set_option linter.unusedSimpArgs false
theorem Ls_append (a b : ByteArray) : Ls (a ++ b) = Ls a ++ Ls b := by
  unfold Ls
  rw [ByteArray.data_append, Array.toList_append, List.map_append]
theorem G_all (s : List Int) : G (Ls (⟨#[42]⟩ : ByteArray)) s := by
  rw [show Ls (⟨#[42]⟩ : ByteArray) = [42] from rfl, G_star]
  exact ⟨s, [], by simp, rfl⟩
theorem st_j2 (a b c d : ByteArray) (ha : a.size ≤ 140737488351232) (hb : b.size ≤ 140737488351232) (hc : c.size ≤ 140737488351232) (hd : d.size ≤ 140737488351232) : ∃ n, stelelaw08_PolicyStars.j2 n a b c d false = some true := by
  obtain ⟨n1, h1⟩ := pm_ok a c (by omega) (by omega)
  obtain ⟨n2, h2⟩ := pm_ok b d (by omega) (by omega)
  obtain ⟨n3, h3⟩ := pm_ok (a ++ b) (c ++ d) (by rw [ByteArray.size_append]; omega) (by rw [ByteArray.size_append]; omega)
  refine ⟨n1 + n2 + n3 + 1, ?_⟩
  unfold stelelaw08_PolicyStars.j2
  dsimp only
  rw [if_neg (by decide), pm_at _ (by omega) h1, pm_at _ (by omega) h2, pm_at _ (by omega) h3, if_pos (by omega), if_pos (by omega)]
  simp only [Option.bind_some, stelelaw08_alive.f]
  by_cases g1 : G (Ls a) (Ls c)
  · by_cases g2 : G (Ls b) (Ls d)
    · have g3 : G (Ls (a ++ b)) (Ls (c ++ d)) := by
        rw [Ls_append, Ls_append, G_append]; exact ⟨_, _, rfl, g1, g2⟩
      rw [(gb_iff _ _).2 g1, (gb_iff _ _).2 g2, (gb_iff _ _).2 g3]; simp
    · have e2 : gb (Ls b) (Ls d) = false := by have := gb_iff (Ls b) (Ls d); cases h : gb (Ls b) (Ls d) <;> simp_all
      rw [e2]; simp
  · have e1 : gb (Ls a) (Ls c) = false := by have := gb_iff (Ls a) (Ls c); cases h : gb (Ls a) (Ls c) <;> simp_all
    rw [e1]; simp
theorem j2_at {a b c d : ByteArray} {z r : Bool} {n : Nat} (k : Nat) (hk : n ≤ k) (h : stelelaw08_PolicyStars.j2 n a b c d z = some r) : stelelaw08_PolicyStars.j2 k a b c d z = some r := at_rounds (g := fun k => stelelaw08_PolicyStars.j2 k a b c d z) (fun k => (stelelaw08_PolicyStars.mono_l k).2.2 a b c d z) hk h
theorem st_l0 (a b c d : ByteArray) (ha : a.size ≤ 140737488351232) (hb : b.size ≤ 140737488351232) (hc : c.size ≤ 140737488351232) (hd : d.size ≤ 140737488351232) :
    ∀ e i z, e = a.size - i → i ≤ a.size → (z = true → ∀ x ∈ (Ls a).take i, x ≠ 42 ∧ x ≠ 63) → ∃ n, stelelaw08_PolicyStars.l0 n a b c d z (i : Int) = some true := by
  intro e
  induction e with
  | zero =>
    intro i z he hi hz
    obtain ⟨n1, h1⟩ := pm_ok a c (by omega) (by omega)
    obtain ⟨n2, h2⟩ := st_j2 a b c d ha hb hc hd
    refine ⟨n1 + n2 + 1, ?_⟩
    unfold stelelaw08_PolicyStars.l0
    rw [if_neg (by omega)]
    cases z with
    | false => rw [if_neg (by decide)]; exact j2_at _ (by omega) h2
    | true =>
      rw [if_pos rfl, pm_at _ (by omega) h1, Option.bind_some]
      have hp := G_plain (Ls a) (by
        have := hz rfl
        rw [List.take_of_length_le (by rw [Ls_len]; omega)] at this
        exact this) (Ls c)
      have e1 : gb (Ls a) (Ls c) = (a.toList == c.toList) := by
        have hg := gb_iff (Ls a) (Ls c)
        rw [hp] at hg
        by_cases hac : a = c
        · subst hac; rw [hg.2 rfl]; simp
        · have hf : gb (Ls a) (Ls c) = false := by
            cases hh : gb (Ls a) (Ls c) with
            | false => rfl
            | true => exact absurd (Ls_inj (hg.1 hh)) hac
          rw [hf]
          symm
          rw [beq_eq_false_iff_ne]
          intro hl
          rw [Lib.toList_data, Lib.toList_data] at hl
          exact hac (Go.WideShapes.bytes_inj hl)
      rw [e1]
      simp only [bne_self_eq_false]
      exact j2_at _ (by omega) h2
  | succ e ih =>
    intro i z he hi hz
    have hi' : i < a.size := by omega
    have gi := Ls_get a i hi'
    unfold stelelaw08_PolicyStars.l0
    have no : ∃ n, stelelaw08_PolicyStars.l0 n a b c d false ((i + 1 : Nat) : Int) = some true := ih (i + 1) false (by omega) (by omega) (fun h => by cases h)
    cases z with
    | false =>
      obtain ⟨n, hn⟩ := no
      refine ⟨n + 1, ?_⟩
      dsimp only
      rw [if_pos (by omega), if_neg (by decide), w1' i (by omega)]
      exact hn
    | true =>
      by_cases h42 : bt a (i : Int) = 42
      · obtain ⟨n, hn⟩ := no
        refine ⟨n + 1, ?_⟩
        dsimp only
        rw [if_pos (by omega), if_pos rfl, if_pos (by omega), if_pos h42, w1' i (by omega)]
        exact hn
      · obtain ⟨n, hn⟩ := ih (i + 1) (bt a (i : Int) != 63) (by omega) (by omega) (fun h x hx => by
          rw [take_next gi, List.mem_append] at hx
          rcases hx with hx | hx
          · exact hz rfl x hx
          · rw [List.mem_singleton] at hx
            subst hx
            exact ⟨h42, by simpa using h⟩)
        refine ⟨n + 1, ?_⟩
        dsimp only
        rw [if_pos (by omega), if_pos rfl, if_pos (by omega), if_neg h42, w1' i (by omega)]
        exact hn
theorem l0_at {a b c d : ByteArray} {z r : Bool} {i : Int} {n : Nat} (k : Nat) (hk : n ≤ k) (h : stelelaw08_PolicyStars.l0 n a b c d z i = some r) : stelelaw08_PolicyStars.l0 k a b c d z i = some r := at_rounds (g := fun k => stelelaw08_PolicyStars.l0 k a b c d z i) (fun k => (stelelaw08_PolicyStars.mono_l k).2.1 a b c d z i) hk h

theorem PolicyStars : stelelaw08_PolicyStars.Pure := by
  intro a b c d ha hb hc hd
  obtain ⟨n0, x, h0⟩ := light_any ([] : List S34) [a, b, c, d] (by simp) (by simp)
  obtain ⟨n1, h1⟩ := pm_ok (⟨#[42]⟩ : ByteArray) c (by decide) (by omega)
  obtain ⟨n2, h2⟩ := st_l0 a b c d ha hb hc hd a.size 0 true (by omega) (by omega) (fun _ x hx => by simp at hx)
  refine ⟨n0 + n1 + n2 + 1, ?_⟩
  unfold stelelaw08_PolicyStars.f
  rw [light_at _ (by omega) h0, pm_at _ (by omega) h1, (gb_iff _ _).2 (G_all (Ls c))]
  simp only [Option.bind_some]
  cases x with
  | true =>
    rw [if_pos rfl]
    unfold stelelaw08_PolicyStars.j0
    dsimp only
    rw [if_neg (by decide)]
    exact l0_at _ (by omega) h2
  | false =>
    rw [if_neg (by decide)]
    unfold stelelaw08_PolicyStars.j0
    dsimp only
    rw [if_pos rfl, light_at _ (by omega) h0]
    simp [stelelaw08_alive.f]

end Go.Proofs.YtooibmnanmmgiaaDoor.Pure
