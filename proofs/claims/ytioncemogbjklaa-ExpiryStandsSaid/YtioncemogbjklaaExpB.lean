/- The contract of expiry.Latest, by hand. -/
import Derived.Test.YtioncemogbjklaaExpA
namespace Go.Proofs.Ytioncemogbjklaa.PG
open Go.RowKit Go.Maps Go.Proofs.YtioncemogbjklaaW.PrintWords Go.Proofs.YtioncemogbjklaaW.PrintLast Go.Proofs.YtioncemogbjklaaW.PrintMore Go.Proofs.Ytioncemogbjklaa.PE
attribute [local go_sem] max2_int min2_int max_two min_two max_three min_three max_four min_four
set_option linter.unusedVariables false
set_option linter.unusedSimpArgs false

def Fit (l : List S37) : Prop := l.length ≤ 100 ∧ ∀ v ∈ l, v.f0.size ≤ 140737488351232 ∧ v.f1.size ≤ 140737488351232
instance (l : List S37) : Decidable (Fit l) := inferInstanceAs (Decidable (_ ∧ _))
def expiry_Latest.f (l : List S37) (b k : ByteArray) : Option Int := if Fit l ∧ b.size ≤ 140737488351232 ∧ k.size ≤ 140737488351232 then some (lat l b k l.length) else none
set_option maxHeartbeats 4000000 in
set_option maxRecDepth 100000 in
theorem expiry_Latest.calls (A0 : Option Addr) (c0 : Nat) (l0 : List S37) (a1 : ByteArray) (a2 : ByteArray) (r : Int) (w : World) (hr0 : Kd.C k37 w A0 l0.length l0) (hc0 : l0.length ≤ c0) (h : expiry_Latest.f l0 a1 a2 = some r) :
    Calls Try.prog 6 #[.slice A0 l0.length c0, .string a1, .string a2] w fun e w' => e = .returned (.int .i64 r) ∧ Below w.heap.size w w' := by
  unfold expiry_Latest.f at h
  by_cases hf : Fit l0 ∧ a1.size ≤ 140737488351232 ∧ a2.size ≤ 140737488351232
  rotate_left
  · rw [if_neg hf] at h; cases h
  rw [if_pos hf] at h
  obtain rfl := Option.some.inj h
  clear h
  obtain ⟨⟨hl, hs⟩, h1, h2⟩ := hf
  have HC := latest_any A0 c0 l0 w hr0 hc0 hl hs
  clear hr0 hs
  obtain ⟨p, hp⟩ : ∃ p, lat l0 a1 a2 l0.length = p := ⟨_, rfl⟩
  rw [hp]
  have HP := Aside0.mk hp
  clear hp
  go_enter Try.func6, Try.ntmps6
  go_wp2_with (go_at_call 14; refine HC.mono ?_)
  rintro e w1 ⟨D, rfl, hown, ht, hb⟩
  clear HC
  have HT := Aside0.mk (ht.2 a1 a2 h1 h2)
  have HI := Aside0.mk (hasI D l0 l0.length a1 a2 ht h1 h2)
  clear ht
  rw [HP.out] at HT HI
  by_cases q : 0 ≤ p
  · have hh : Maps.has D (kl a1 a2) = true := by have := HT.out.1; rw [decide_eq_true q] at this; exact this
    go_wp2_with (at_lookup; refine wpList_lookup_own_ok_int _ rfl _ _ 42 rfl 45 3 .i64 law Try.underlying42 Try.underlying3 (zeroE _) w.heap.size l0.length D rfl hown _ _ rfl (key_eq a1 a2 h1 h2) ?_)
    intro c hat hwc
    have hc := HI.out c hat
    rw [if_pos (by omega)] at hc
    replace hc := hc.symm
    subst hc
    clear hat hwc
    go_wp2
    go_ret
    exact ⟨rfl, hb⟩
  · have hh : Maps.has D (kl a1 a2) = false := by have := HT.out.1; rw [decide_eq_false q] at this; exact this
    go_wp2_with (at_lookup; refine wpList_lookup_own_ok_int _ rfl _ _ 42 rfl 45 3 .i64 law Try.underlying42 Try.underlying3 (zeroE _) w.heap.size l0.length D rfl hown _ _ rfl (key_eq a1 a2 h1 h2) ?_)
    intro c hat hwc
    clear hat hwc
    go_wp2
    have pbd := lat_bd l0 a1 a2 l0.length
    rw [HP.out] at pbd
    obtain rfl : p = -1 := by omega
    go_ret
    exact ⟨rfl, hb⟩
end Go.Proofs.Ytioncemogbjklaa.PG
