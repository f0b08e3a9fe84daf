/- strings.Split at one byte, of a text whose pieces are known. -/
import Derived.Test.YtooibmnanmmgiaaDoorSqA
namespace Go.Proofs.YtooibmnanmmgiaaDoor.SQ
open Go.RowKit Go.Shelf Go.Proofs.YtooibmnanmmgiaaDoorW.PrintWords Go.Proofs.YtooibmnanmmgiaaDoorW.PrintLast Go.Proofs.YtooibmnanmmgiaaDoorW.PrintMore
set_option linter.unusedVariables false
set_option linter.unusedSimpArgs false
theorem ixB (s : ByteArray) (c : UInt8) : Lib.indexB s ⟨#[c]⟩ = Lib.indexByte s.data.toList c := Lib.index_one s.data.toList c
theorem split_xs (c : UInt8) : ∀ (xs : List ByteArray) (s : ByteArray), Joins c s.data.toList (xs.map fun x => x.data.toList) → Lib.countB s ⟨#[c]⟩ + 1 = xs.length ∧ Lib.splitB ⟨#[c]⟩ 0 (Lib.countB s ⟨#[c]⟩) s = xs
  | [], _, h => h.elim
  | [x], s, h => by
    obtain ⟨h1, h2⟩ := (show s.data.toList = x.data.toList ∧ c ∉ x.data.toList from h)
    have e : s = x := ba_ext h1
    subst e
    have hi : Lib.indexB s ⟨#[c]⟩ = -1 := (ixB s c).trans (idx_none c _ h2)
    rw [Lib.countB_miss s _ hi]
    exact ⟨rfl, rfl⟩
  | x :: y :: ys, s, h => by
    obtain ⟨l', h1, h2, h3⟩ := (show ∃ l', s.data.toList = x.data.toList ++ c :: l' ∧ c ∉ x.data.toList ∧ Joins c l' ((y :: ys).map fun x => x.data.toList) from h)
    have hi : Lib.indexB s ⟨#[c]⟩ = (x.size : Int) := by
      rw [ixB, h1, idx_hit c _ l' h2, Lib.size_eq]
    obtain ⟨r, hr⟩ : ∃ r, s.extract (x.size + 1) s.size = r := ⟨_, rfl⟩
    have hd : r.data.toList = l' := by rw [← hr]; exact cut_rest s x c l' h1
    obtain ⟨i1, i2⟩ := split_xs c (y :: ys) r (by rw [hd]; exact h3)
    have hc := Lib.countB_hit s ⟨#[c]⟩ x.size (Nat.le_refl 1) hi
    have hs1 : (⟨#[c]⟩ : ByteArray).size = 1 := rfl
    rw [hs1, hr] at hc
    have hh := Lib.splitB_hit ⟨#[c]⟩ 0 (Lib.countB r ⟨#[c]⟩) s x.size hi
    rw [hs1, hr, show x.size + 0 = x.size from rfl, cut_front s x c l' h1, i2] at hh
    rw [hc]
    refine ⟨by rw [List.length_cons, ← i1]; omega, ?_⟩
    rw [Nat.add_comm 1]
    exact hh
theorem info9 : (Tryd.prog.info? 9).map (fun i => (i.zero, i.size, i.bytes)) = some (some (.string ByteArray.empty), 1, 16) := by kernel_rfl
set_option maxHeartbeats 1000000 in
theorem gsplit (s : ByteArray) (c : UInt8) (xs : List ByteArray) (hs : s.size < 4294967281) (hJ : Joins c s.data.toList (xs.map fun x => x.data.toList)) (w : World) :
    Calls Tryd.prog 40 #[.string s, .string ⟨#[c]⟩, .int .i64 0, .int .i64 (-1)] w fun e w' => e = .returned (.slice (some ⟨w.heap.size, 0, none⟩) xs.length xs.length) ∧ w' = w.alloc (.cells (xs.map Value.string).toArray 9) := by
  obtain ⟨h1, h2⟩ := split_xs c xs s hJ
  have h0 : 1 ≤ (⟨#[c]⟩ : ByteArray).size := Nat.le_refl 1
  have hle := Lib.countB_le ⟨#[c]⟩ h0 s.size s (Nat.le_refl _)
  have g := Any.strings_genSplit_core Sh.lays221 info9 s ⟨#[c]⟩ 0 (-1) (Lib.countB s ⟨#[c]⟩ + 1) w hs h0 (Nat.zero_le _)
    (fun x cc hx => (Sh.strings_Index_one x c _).mono fun e w' ⟨he, hw⟩ => ⟨by rw [he, ixB], hw⟩)
    ((Sh.strings_Count_one s c w).mono fun e w' ⟨he, hw⟩ => ⟨by
      rw [he]
      show _ = Ending.returned (Value.int .i64 ((Lib.count s.data.toList [c] : Nat) : Int))
      rw [Lib.count_one]
      rfl, hw⟩) (by decide) (by decide) (by rw [if_pos (by decide)]; omega)
  rw [Nat.add_sub_cancel, h2, h1] at g
  refine g.mono fun e w' ⟨he, hw⟩ => ⟨he, ?_⟩
  rw [hw, Lib.cellsOf_full]
  rfl
set_option maxHeartbeats 1000000 in
theorem split_one (s : ByteArray) (c : UInt8) (xs : List ByteArray) (hs : s.size < 4294967281) (hJ : Joins c s.data.toList (xs.map fun x => x.data.toList)) (w : World) :
    Calls Tryd.prog 26 #[.string s, .string ⟨#[c]⟩] w fun e w' => e = .returned (.slice (some ⟨w.heap.size, 0, none⟩) xs.length xs.length) ∧ w' = w.alloc (.cells (xs.map Value.string).toArray 9) := by
  have g := Aside0.mk (gsplit s c xs hs hJ w)
  go_enter Tryd.func26, Tryd.ntmps26
  go_wp2_with (go_at_call 40; (with_reducible refine (g.out).mono ?_); rintro e w' ⟨rfl, rfl⟩)
  go_ret
  exact ⟨rfl, rfl⟩
end Go.Proofs.YtooibmnanmmgiaaDoor.SQ
