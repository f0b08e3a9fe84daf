import Derived.Test.YtlnpmodhejakiaaDefCanonBack
namespace Go.Proofs.Ytlnpmodhejakiaa.Pure
open Go.RowKit Go.Proofs.Ytlnpmodhejakiaa.PM Go.Proofs.Ytlnpmodhejakiaa.D
theorem sum_leB (l : List S46) : ∀ y ∈ l, y.f2.length ≤ (l.map (fun y => sz46 y)).sum := by
  intro y hy
  have h1 : y.f2.length ≤ sz46 y := by
    unfold sz46
    have : (y.f2.map (fun _ => 1)).sum = y.f2.length := by rw [List.map_const', List.sum_replicate_nat]; omega
    omega
  have h2 : ∀ (l : List S46), y ∈ l → sz46 y ≤ (l.map (fun y => sz46 y)).sum := by
    intro l
    induction l with
    | nil => intro h; cases h
    | cons a l ih =>
      intro h
      rw [List.map_cons, List.sum_cons]
      rcases List.mem_cons.1 h with rfl | h
      · omega
      · have := ih h; omega
  exact Nat.le_trans h1 (h2 l hy)
theorem wfB {k : IntKind} {y : Int} (h : (Lit.int k y).wf = true) : k.min ≤ y ∧ y ≤ k.max := by simpa [Lit.wf] using h
theorem CanonBack : stelelaw02_CanonBack.Pure := by
  intro x0 h0 hb
  unfold stelelaw02_CanonBack.f
  refine if_pos ⟨by omega, fun y hy => ?_⟩
  obtain ⟨a, b, c, d⟩ := h0.2 y hy
  have hb' : (0 : Int) ≤ y.f1 ∧ y.f1 ≤ 18446744073709551615 := wfB b
  have hlen := sum_leB x0 y hy
  exact ⟨hb', by omega, fun z hz => wfB (d z hz)⟩
end Go.Proofs.Ytlnpmodhejakiaa.Pure
