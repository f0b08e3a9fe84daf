-- written by the workplace's driver round the kit's printer (wip/tools/myprint.py)
import Derived.Test.YtioncemogbjklaaPEx0
import Derived.Test.YtioncemogbjklaaPEx1
import Derived.Test.YtioncemogbjklaaPEx3
import Derived.Test.YtioncemogbjklaaExpG
namespace Go.Proofs.Ytioncemogbjklaa.PG
end Go.Proofs.Ytioncemogbjklaa.PG
namespace Go.Proofs.Ytioncemogbjklaa.PE
open Go.Proofs.Ytioncemogbjklaa.PG
open Go.RowKit Go.Proofs.YtioncemogbjklaaW.PrintWords Go.Proofs.YtioncemogbjklaaW.PrintLast Go.Proofs.YtioncemogbjklaaW.PrintMore
attribute [local go_sem] max2_int min2_int max_two min_two max_three min_three max_four min_four   -- for this text's walks alone
set_option linter.unusedVariables false
set_option linter.unusedSimpArgs false

/-! ### stelelaw17_ExpiryStands: function 5 -/
mutual
def stelelaw17_ExpiryStands.j0 : Nat → List (S37) → Int → Int → Bool → ByteArray → Int → Bool → Bool → Int → Int → ByteArray → Int → Int → Option (Bool)
  | 0, _, _, _, _, _, _, _, _, _, _, _, _, _ => none
  | k + 1, x1, x2, x3, x22, x147000, x147001, x147002, x147003, x147004, x147005, x147006, x147007, x147008 => if x22 = true then ((stelelaw17_alive.f).bind fun t147 => (some t147)) else (stelelaw17_ExpiryStands.l0 k x1 x2 x3 0 x147000 x147001 x147002 x147003 x147004 x147005 x147006 x147007 x147008)
def stelelaw17_ExpiryStands.l0 : Nat → List (S37) → Int → Int → Int → ByteArray → Int → Bool → Bool → Int → Int → ByteArray → Int → Int → Option (Bool)
  | 0, _, _, _, _, _, _, _, _, _, _, _, _, _ => none
  | k + 1, x1, x2, x3, x9, x147000, x147001, x147002, x147003, x147004, x147005, x147006, x147007, x147008 => if x9 < (x1.length : Int) then (stelelaw17_ExpiryStands.l1 k x1 x2 x3 x9 0 x147000 x147001 x147002 x147003 x147004 x147005 x147006 x147007 x147008) else ((expiry_Due.f x147000 x147001 x147002 x147003 x147004 x147005 x147006 x147007 x147008 x1 x2).bind fun t151 => ((expiry_Due.f x147000 x147001 x147002 x147003 x147004 x147005 x147006 x147007 x147008 x1 x3).bind fun t154 => (stelelaw17_ExpiryStands.l2 k x1 x2 x3 t151 t154 0 x147000 x147001 x147002 x147003 x147004 x147005 x147006 x147007 x147008)))
def stelelaw17_ExpiryStands.l1 : Nat → List (S37) → Int → Int → Int → Int → ByteArray → Int → Bool → Bool → Int → Int → ByteArray → Int → Int → Option (Bool)
  | 0, _, _, _, _, _, _, _, _, _, _, _, _, _, _ => none
  | k + 1, x1, x2, x3, x9, x10, x147000, x147001, x147002, x147003, x147004, x147005, x147006, x147007, x147008 => if x10 < x9 then (if 0 ≤ x10 then (if x10 < (x1.length : Int) then (if 0 ≤ x9 then (if x9 < (x1.length : Int) then (if ((rd_T37 x1 x10).f3) = ((rd_T37 x1 x9).f3) then ((stelelaw17_alive.f).bind fun t150 => (some t150)) else (stelelaw17_ExpiryStands.l1 k x1 x2 x3 x9 (wrap64 (x10 + 1)) x147000 x147001 x147002 x147003 x147004 x147005 x147006 x147007 x147008)) else (none)) else (none)) else (none)) else (none)) else (stelelaw17_ExpiryStands.l0 k x1 x2 x3 (wrap64 (x9 + 1)) x147000 x147001 x147002 x147003 x147004 x147005 x147006 x147007 x147008)
def stelelaw17_ExpiryStands.l2 : Nat → List (S37) → Int → Int → List Int → List Int → Int → ByteArray → Int → Bool → Bool → Int → Int → ByteArray → Int → Int → Option (Bool)
  | 0, _, _, _, _, _, _, _, _, _, _, _, _, _, _, _ => none
  | k + 1, x1, x2, x3, x11, x12, x13, x147000, x147001, x147002, x147003, x147004, x147005, x147006, x147007, x147008 => if x13 < (x1.length : Int) then (if 0 ≤ x13 then ((stelelaw17_in.f k x11 ((rd_T37 x1 x13).f3)).bind fun t163 => (if t163 = true then (if (rd_T37 x1 x13).f7 = true then (stelelaw17_ExpiryStands.j4 k x1 x2 x3 x11 x12 x13 true x147000 x147001 x147002 x147003 x147004 x147005 x147006 x147007 x147008 ((rd_T37 x1 x13).f0) ((rd_T37 x1 x13).f1) ((rd_T37 x1 x13).f2) ((rd_T37 x1 x13).f3) ((rd_T37 x1 x13).f4) ((rd_T37 x1 x13).f5) ((rd_T37 x1 x13).f6.f0) ((rd_T37 x1 x13).f6.f1) ((rd_T37 x1 x13).f7) ((rd_T37 x1 x13).f8)) else ((steleref15_Active.f ((rd_T37 x1 x13).f6.f0) ((rd_T37 x1 x13).f6.f1) x2).bind fun t164 => (if t164 = true then (stelelaw17_ExpiryStands.j4 k x1 x2 x3 x11 x12 x13 true x147000 x147001 x147002 x147003 x147004 x147005 x147006 x147007 x147008 ((rd_T37 x1 x13).f0) ((rd_T37 x1 x13).f1) ((rd_T37 x1 x13).f2) ((rd_T37 x1 x13).f3) ((rd_T37 x1 x13).f4) ((rd_T37 x1 x13).f5) ((rd_T37 x1 x13).f6.f0) ((rd_T37 x1 x13).f6.f1) ((rd_T37 x1 x13).f7) ((rd_T37 x1 x13).f8)) else (stelelaw17_ExpiryStands.j4 k x1 x2 x3 x11 x12 x13 (((rd_T37 x1 x13).f0).toList != x147000.toList) x147000 x147001 x147002 x147003 x147004 x147005 x147006 x147007 x147008 ((rd_T37 x1 x13).f0) ((rd_T37 x1 x13).f1) ((rd_T37 x1 x13).f2) ((rd_T37 x1 x13).f3) ((rd_T37 x1 x13).f4) ((rd_T37 x1 x13).f5) ((rd_T37 x1 x13).f6.f0) ((rd_T37 x1 x13).f6.f1) ((rd_T37 x1 x13).f7) ((rd_T37 x1 x13).f8))))) else (stelelaw17_ExpiryStands.j4 k x1 x2 x3 x11 x12 x13 false x147000 x147001 x147002 x147003 x147004 x147005 x147006 x147007 x147008 ((rd_T37 x1 x13).f0) ((rd_T37 x1 x13).f1) ((rd_T37 x1 x13).f2) ((rd_T37 x1 x13).f3) ((rd_T37 x1 x13).f4) ((rd_T37 x1 x13).f5) ((rd_T37 x1 x13).f6.f0) ((rd_T37 x1 x13).f6.f1) ((rd_T37 x1 x13).f7) ((rd_T37 x1 x13).f8)))) else (none)) else ((expiry_Due.f x147000 x147001 x147002 x147003 x147004 x147005 x147006 0 0 x1 x3).bind fun t157 => (if (t157.length : Int) = 0 then ((stelelaw17_alive.f).bind fun t160 => (some t160)) else (some false)))
def stelelaw17_ExpiryStands.j4 : Nat → List (S37) → Int → Int → List Int → List Int → Int → Bool → ByteArray → Int → Bool → Bool → Int → Int → ByteArray → Int → Int → ByteArray → ByteArray → Int → Int → Bool → List Int → Int → Int → Bool → Int → Option (Bool)
  | 0, _, _, _, _, _, _, _, _, _, _, _, _, _, _, _, _, _, _, _, _, _, _, _, _, _, _ => none
  | k + 1, x1, x2, x3, x11, x12, x13, x85, x147000, x147001, x147002, x147003, x147004, x147005, x147006, x147007, x147008, x163000, x163001, x163002, x163003, x163004, x163005, x163006, x163007, x163008, x163009 => if x85 = true then (some false) else ((stelelaw17_in.f k x11 x163003).bind fun t165 => (if t165 = true then ((stelelaw17_in.f k x12 x163003).bind fun t166 => (if t166 = true then (stelelaw17_ExpiryStands.l2 k x1 x2 x3 x11 x12 (wrap64 (x13 + 1)) x147000 x147001 x147002 x147003 x147004 x147005 x147006 x147007 x147008) else (some false))) else (stelelaw17_ExpiryStands.l2 k x1 x2 x3 x11 x12 (wrap64 (x13 + 1)) x147000 x147001 x147002 x147003 x147004 x147005 x147006 x147007 x147008)))
end
def stelelaw17_ExpiryStands.f (k : Nat) (a0_0 : ByteArray) (a0_1 : Int) (a0_2 : Bool) (a0_3 : Bool) (a0_4 : Int) (a0_5 : Int) (a0_6 : ByteArray) (a0_7 : Int) (a0_8 : Int) (l1 : List (S37)) (a2 : Int) (a3 : Int) : Option (Bool) := if (l1.length : Int) > 100 then (stelelaw17_ExpiryStands.j0 k l1 a2 a3 true a0_0 a0_1 a0_2 a0_3 a0_4 a0_5 a0_6 a0_7 a0_8) else (stelelaw17_ExpiryStands.j0 k l1 a2 a3 (decide (a3 < a2)) a0_0 a0_1 a0_2 a0_3 a0_4 a0_5 a0_6 a0_7 a0_8)
theorem stelelaw17_ExpiryStands.mono_l : ∀ k, (∀ y0 y1 y2 y3 y4 y5 y6 y7 y8 y9 y10 y11 y12, LeO (stelelaw17_ExpiryStands.j0 k y0 y1 y2 y3 y4 y5 y6 y7 y8 y9 y10 y11 y12) (stelelaw17_ExpiryStands.j0 (k + 1) y0 y1 y2 y3 y4 y5 y6 y7 y8 y9 y10 y11 y12)) ∧ (∀ y0 y1 y2 y3 y4 y5 y6 y7 y8 y9 y10 y11 y12, LeO (stelelaw17_ExpiryStands.l0 k y0 y1 y2 y3 y4 y5 y6 y7 y8 y9 y10 y11 y12) (stelelaw17_ExpiryStands.l0 (k + 1) y0 y1 y2 y3 y4 y5 y6 y7 y8 y9 y10 y11 y12)) ∧ (∀ y0 y1 y2 y3 y4 y5 y6 y7 y8 y9 y10 y11 y12 y13, LeO (stelelaw17_ExpiryStands.l1 k y0 y1 y2 y3 y4 y5 y6 y7 y8 y9 y10 y11 y12 y13) (stelelaw17_ExpiryStands.l1 (k + 1) y0 y1 y2 y3 y4 y5 y6 y7 y8 y9 y10 y11 y12 y13)) ∧ (∀ y0 y1 y2 y3 y4 y5 y6 y7 y8 y9 y10 y11 y12 y13 y14, LeO (stelelaw17_ExpiryStands.l2 k y0 y1 y2 y3 y4 y5 y6 y7 y8 y9 y10 y11 y12 y13 y14) (stelelaw17_ExpiryStands.l2 (k + 1) y0 y1 y2 y3 y4 y5 y6 y7 y8 y9 y10 y11 y12 y13 y14)) ∧ (∀ y0 y1 y2 y3 y4 y5 y6 y7 y8 y9 y10 y11 y12 y13 y14 y15 y16 y17 y18 y19 y20 y21 y22 y23 y24 y25, LeO (stelelaw17_ExpiryStands.j4 k y0 y1 y2 y3 y4 y5 y6 y7 y8 y9 y10 y11 y12 y13 y14 y15 y16 y17 y18 y19 y20 y21 y22 y23 y24 y25) (stelelaw17_ExpiryStands.j4 (k + 1) y0 y1 y2 y3 y4 y5 y6 y7 y8 y9 y10 y11 y12 y13 y14 y15 y16 y17 y18 y19 y20 y21 y22 y23 y24 y25))
  | 0 => ⟨fun _ _ _ _ _ _ _ _ _ _ _ _ _ r h => by simp [stelelaw17_ExpiryStands.j0] at h, fun _ _ _ _ _ _ _ _ _ _ _ _ _ r h => by simp [stelelaw17_ExpiryStands.l0] at h, fun _ _ _ _ _ _ _ _ _ _ _ _ _ _ r h => by simp [stelelaw17_ExpiryStands.l1] at h, fun _ _ _ _ _ _ _ _ _ _ _ _ _ _ _ r h => by simp [stelelaw17_ExpiryStands.l2] at h, fun _ _ _ _ _ _ _ _ _ _ _ _ _ _ _ _ _ _ _ _ _ _ _ _ _ _ r h => by simp [stelelaw17_ExpiryStands.j4] at h⟩
  | k + 1 => by
    obtain ⟨ih0, ih1, ih2, ih3, ih4⟩ := stelelaw17_ExpiryStands.mono_l k
    refine ⟨?_, ?_, ?_, ?_, ?_⟩
    · intro y0 y1 y2 y3 y4 y5 y6 y7 y8 y9 y10 y11 y12
      unfold stelelaw17_ExpiryStands.j0
      repeat' first
      | (with_reducible exact ih0 _ _ _ _ _ _ _ _ _ _ _ _ _)
      | (with_reducible exact ih1 _ _ _ _ _ _ _ _ _ _ _ _ _)
      | (with_reducible exact ih2 _ _ _ _ _ _ _ _ _ _ _ _ _ _)
      | (with_reducible exact ih3 _ _ _ _ _ _ _ _ _ _ _ _ _ _ _)
      | (with_reducible exact ih4 _ _ _ _ _ _ _ _ _ _ _ _ _ _ _ _ _ _ _ _ _ _ _ _ _ _)
      | (with_reducible exact stelelaw17_in.mono _ _ _)
      | (with_reducible exact LeO.refl _)
      | (with_reducible exact LeO.none _)
      | (with_reducible refine LeO.ite ?_ ?_)
      | (with_reducible refine LeO.bind ?_ (fun _ => ?_))
      | exact ih0 _ _ _ _ _ _ _ _ _ _ _ _ _
      | exact ih1 _ _ _ _ _ _ _ _ _ _ _ _ _
      | exact ih2 _ _ _ _ _ _ _ _ _ _ _ _ _ _
      | exact ih3 _ _ _ _ _ _ _ _ _ _ _ _ _ _ _
      | exact ih4 _ _ _ _ _ _ _ _ _ _ _ _ _ _ _ _ _ _ _ _ _ _ _ _ _ _
      | exact stelelaw17_in.mono _ _ _
      | exact LeO.none _
      | refine LeO.ite ?_ ?_
      | refine LeO.bind ?_ (fun _ => ?_)
    · intro y0 y1 y2 y3 y4 y5 y6 y7 y8 y9 y10 y11 y12
      unfold stelelaw17_ExpiryStands.l0
      repeat' first
      | (with_reducible exact ih0 _ _ _ _ _ _ _ _ _ _ _ _ _)
      | (with_reducible exact ih1 _ _ _ _ _ _ _ _ _ _ _ _ _)
      | (with_reducible exact ih2 _ _ _ _ _ _ _ _ _ _ _ _ _ _)
      | (with_reducible exact ih3 _ _ _ _ _ _ _ _ _ _ _ _ _ _ _)
      | (with_reducible exact ih4 _ _ _ _ _ _ _ _ _ _ _ _ _ _ _ _ _ _ _ _ _ _ _ _ _ _)
      | (with_reducible exact stelelaw17_in.mono _ _ _)
      | (with_reducible exact LeO.refl _)
      | (with_reducible exact LeO.none _)
      | (with_reducible refine LeO.ite ?_ ?_)
      | (with_reducible refine LeO.bind ?_ (fun _ => ?_))
      | exact ih0 _ _ _ _ _ _ _ _ _ _ _ _ _
      | exact ih1 _ _ _ _ _ _ _ _ _ _ _ _ _
      | exact ih2 _ _ _ _ _ _ _ _ _ _ _ _ _ _
      | exact ih3 _ _ _ _ _ _ _ _ _ _ _ _ _ _ _
      | exact ih4 _ _ _ _ _ _ _ _ _ _ _ _ _ _ _ _ _ _ _ _ _ _ _ _ _ _
      | exact stelelaw17_in.mono _ _ _
      | exact LeO.none _
      | refine LeO.ite ?_ ?_
      | refine LeO.bind ?_ (fun _ => ?_)
    · intro y0 y1 y2 y3 y4 y5 y6 y7 y8 y9 y10 y11 y12 y13
      unfold stelelaw17_ExpiryStands.l1
      repeat' first
      | (with_reducible exact ih0 _ _ _ _ _ _ _ _ _ _ _ _ _)
      | (with_reducible exact ih1 _ _ _ _ _ _ _ _ _ _ _ _ _)
      | (with_reducible exact ih2 _ _ _ _ _ _ _ _ _ _ _ _ _ _)
      | (with_reducible exact ih3 _ _ _ _ _ _ _ _ _ _ _ _ _ _ _)
      | (with_reducible exact ih4 _ _ _ _ _ _ _ _ _ _ _ _ _ _ _ _ _ _ _ _ _ _ _ _ _ _)
      | (with_reducible exact stelelaw17_in.mono _ _ _)
      | (with_reducible exact LeO.refl _)
      | (with_reducible exact LeO.none _)
      | (with_reducible refine LeO.ite ?_ ?_)
      | (with_reducible refine LeO.bind ?_ (fun _ => ?_))
      | exact ih0 _ _ _ _ _ _ _ _ _ _ _ _ _
      | exact ih1 _ _ _ _ _ _ _ _ _ _ _ _ _
      | exact ih2 _ _ _ _ _ _ _ _ _ _ _ _ _ _
      | exact ih3 _ _ _ _ _ _ _ _ _ _ _ _ _ _ _
      | exact ih4 _ _ _ _ _ _ _ _ _ _ _ _ _ _ _ _ _ _ _ _ _ _ _ _ _ _
      | exact stelelaw17_in.mono _ _ _
      | exact LeO.none _
      | refine LeO.ite ?_ ?_
      | refine LeO.bind ?_ (fun _ => ?_)
    · intro y0 y1 y2 y3 y4 y5 y6 y7 y8 y9 y10 y11 y12 y13 y14
      unfold stelelaw17_ExpiryStands.l2
      repeat' first
      | (with_reducible exact ih0 _ _ _ _ _ _ _ _ _ _ _ _ _)
      | (with_reducible exact ih1 _ _ _ _ _ _ _ _ _ _ _ _ _)
      | (with_reducible exact ih2 _ _ _ _ _ _ _ _ _ _ _ _ _ _)
      | (with_reducible exact ih3 _ _ _ _ _ _ _ _ _ _ _ _ _ _ _)
      | (with_reducible exact ih4 _ _ _ _ _ _ _ _ _ _ _ _ _ _ _ _ _ _ _ _ _ _ _ _ _ _)
      | (with_reducible exact stelelaw17_in.mono _ _ _)
      | (with_reducible exact LeO.refl _)
      | (with_reducible exact LeO.none _)
      | (with_reducible refine LeO.ite ?_ ?_)
      | (with_reducible refine LeO.bind ?_ (fun _ => ?_))
      | exact ih0 _ _ _ _ _ _ _ _ _ _ _ _ _
      | exact ih1 _ _ _ _ _ _ _ _ _ _ _ _ _
      | exact ih2 _ _ _ _ _ _ _ _ _ _ _ _ _ _
      | exact ih3 _ _ _ _ _ _ _ _ _ _ _ _ _ _ _
      | exact ih4 _ _ _ _ _ _ _ _ _ _ _ _ _ _ _ _ _ _ _ _ _ _ _ _ _ _
      | exact stelelaw17_in.mono _ _ _
      | exact LeO.none _
      | refine LeO.ite ?_ ?_
      | refine LeO.bind ?_ (fun _ => ?_)
    · intro y0 y1 y2 y3 y4 y5 y6 y7 y8 y9 y10 y11 y12 y13 y14 y15 y16 y17 y18 y19 y20 y21 y22 y23 y24 y25
      unfold stelelaw17_ExpiryStands.j4
      repeat' first
      | (with_reducible exact ih0 _ _ _ _ _ _ _ _ _ _ _ _ _)
      | (with_reducible exact ih1 _ _ _ _ _ _ _ _ _ _ _ _ _)
      | (with_reducible exact ih2 _ _ _ _ _ _ _ _ _ _ _ _ _ _)
      | (with_reducible exact ih3 _ _ _ _ _ _ _ _ _ _ _ _ _ _ _)
      | (with_reducible exact ih4 _ _ _ _ _ _ _ _ _ _ _ _ _ _ _ _ _ _ _ _ _ _ _ _ _ _)
      | (with_reducible exact stelelaw17_in.mono _ _ _)
      | (with_reducible exact LeO.refl _)
      | (with_reducible exact LeO.none _)
      | (with_reducible refine LeO.ite ?_ ?_)
      | (with_reducible refine LeO.bind ?_ (fun _ => ?_))
      | exact ih0 _ _ _ _ _ _ _ _ _ _ _ _ _
      | exact ih1 _ _ _ _ _ _ _ _ _ _ _ _ _
      | exact ih2 _ _ _ _ _ _ _ _ _ _ _ _ _ _
      | exact ih3 _ _ _ _ _ _ _ _ _ _ _ _ _ _ _
      | exact ih4 _ _ _ _ _ _ _ _ _ _ _ _ _ _ _ _ _ _ _ _ _ _ _ _ _ _
      | exact stelelaw17_in.mono _ _ _
      | exact LeO.none _
      | refine LeO.ite ?_ ?_
      | refine LeO.bind ?_ (fun _ => ?_)
theorem stelelaw17_ExpiryStands.mono : ∀ a0 a1 a2 a3 a4 a5 a6 a7 a8 a9 a10 a11 k, LeO (stelelaw17_ExpiryStands.f k a0 a1 a2 a3 a4 a5 a6 a7 a8 a9 a10 a11) (stelelaw17_ExpiryStands.f (k + 1) a0 a1 a2 a3 a4 a5 a6 a7 a8 a9 a10 a11) := by
  intro a0 a1 a2 a3 a4 a5 a6 a7 a8 a9 a10 a11 k
  obtain ⟨ih0, ih1, ih2, ih3, ih4⟩ := stelelaw17_ExpiryStands.mono_l k
  unfold stelelaw17_ExpiryStands.f
  repeat' first
      | (with_reducible exact ih0 _ _ _ _ _ _ _ _ _ _ _ _ _)
      | (with_reducible exact ih1 _ _ _ _ _ _ _ _ _ _ _ _ _)
      | (with_reducible exact ih2 _ _ _ _ _ _ _ _ _ _ _ _ _ _)
      | (with_reducible exact ih3 _ _ _ _ _ _ _ _ _ _ _ _ _ _ _)
      | (with_reducible exact ih4 _ _ _ _ _ _ _ _ _ _ _ _ _ _ _ _ _ _ _ _ _ _ _ _ _ _)
      | (with_reducible exact stelelaw17_in.mono _ _ _)
      | (with_reducible exact LeO.refl _)
      | (with_reducible exact LeO.none _)
      | (with_reducible refine LeO.ite ?_ ?_)
      | (with_reducible refine LeO.bind ?_ (fun _ => ?_))
      | exact ih0 _ _ _ _ _ _ _ _ _ _ _ _ _
      | exact ih1 _ _ _ _ _ _ _ _ _ _ _ _ _
      | exact ih2 _ _ _ _ _ _ _ _ _ _ _ _ _ _
      | exact ih3 _ _ _ _ _ _ _ _ _ _ _ _ _ _ _
      | exact ih4 _ _ _ _ _ _ _ _ _ _ _ _ _ _ _ _ _ _ _ _ _ _ _ _ _ _
      | exact stelelaw17_in.mono _ _ _
      | exact LeO.none _
      | refine LeO.ite ?_ ?_
      | refine LeO.bind ?_ (fun _ => ?_)
def stelelaw17_ExpiryStands.T9 : Bool × List (List Nat × List Nat) := (true, [([], []), ([], []), ([0, 1], [0, 1]), ([2], [2]), ([3], [3]), ([], []), ([], []), ([5, 6], [5, 6]), ([7], [7]), ([8], [8]), ([4, 9], [4, 9])])
def stelelaw17_ExpiryStands.B9 : List Nat := [0, 0, 3, 7, 15, 0, 0, 96, 224, 480, 1023]
theorem stelelaw17_ExpiryStands.tab9 : rtab .any (opsOf Try.f5 9) = stelelaw17_ExpiryStands.T9 := by kernel_rfl
theorem stelelaw17_ExpiryStands.bits9 : waitsOk stelelaw17_ExpiryStands.T9.2 stelelaw17_ExpiryStands.B9 = true := by kernel_rfl
def stelelaw17_ExpiryStands.T11 : Bool × List (List Nat × List Nat) := (true, [([], []), ([], []), ([], []), ([0, 1, 2], [0, 1, 2]), ([], []), ([], []), ([], []), ([4, 5, 6, 3], [4, 5, 6]), ([3, 7, 0, 1, 2, 3], [3]), ([7, 8, 0, 1, 2, 3, 4, 5, 6, 7, 8], [7])])
def stelelaw17_ExpiryStands.B11 : List Nat := [0, 0, 0, 7, 0, 0, 0, 127, 255, 511]
theorem stelelaw17_ExpiryStands.tab11 : rtab .any (opsOf Try.f5 11) = stelelaw17_ExpiryStands.T11 := by kernel_rfl
theorem stelelaw17_ExpiryStands.bits11 : waitsOk stelelaw17_ExpiryStands.T11.2 stelelaw17_ExpiryStands.B11 = true := by kernel_rfl
set_option maxHeartbeats 8000000 in
set_option maxRecDepth 100000 in
theorem stelelaw17_ExpiryStands.calls (k : Nat) (a0_0 : ByteArray) (a0_1 : Int) (a0_2 : Bool) (a0_3 : Bool) (a0_4 : Int) (a0_5 : Int) (a0_6 : ByteArray) (a0_7 : Int) (a0_8 : Int) (A1 : Option Addr) (c1 : Nat) (l1 : List (S37)) (a2 : Int) (a3 : Int) (r : Bool) (w : World) (hr1 : Kd.C k37 w A1 l1.length l1) (hc1 : l1.length ≤ c1) (h : stelelaw17_ExpiryStands.f k a0_0 a0_1 a0_2 a0_3 a0_4 a0_5 a0_6 a0_7 a0_8 l1 a2 a3 = some r) :
    Calls Try.prog 5 #[.agg #[.string a0_0, .int .i64 a0_1, .bool a0_2, .bool a0_3, .int .i64 a0_4, .int .i64 a0_5, .string a0_6, .int .i64 a0_7, .int .i64 a0_8], .slice A1 l1.length c1, .int .u64 a2, .int .u64 a3] w fun e w' => e = .returned (.bool r) ∧ Below w.heap.size w w' := by
  have hu27 := Try.underlying27
  have hu37 := Try.underlying37
  have hu35 := Try.underlying35
  have HR1 := Aside0.mk hr1
  have HC1 := Aside0.mk hc1
  clear hr1 hc1
  have HB := Aside0.mk (Below.refl w.heap.size w)
  have H : (if (l1.length : Int) > 100 then (stelelaw17_ExpiryStands.j0 k l1 a2 a3 true a0_0 a0_1 a0_2 a0_3 a0_4 a0_5 a0_6 a0_7 a0_8) else (stelelaw17_ExpiryStands.j0 k l1 a2 a3 (decide (a3 < a2)) a0_0 a0_1 a0_2 a0_3 a0_4 a0_5 a0_6 a0_7 a0_8)) = some r := h
  clear h
  have HC5 := Aside0.mk H
  clear H
  go_enter Try.func5, Try.ntmps5
  go_upto_region 1 with (first | ((with_reducible refine gate_dst (N := 4) rfl ?_); refine box_event ?hg (N := 4) ?hd (cs := #[.string a0_0, .int .i64 a0_1, .bool a0_2, .bool a0_3, .int .i64 a0_4, .int .i64 a0_5, .string a0_6, .int .i64 a0_7, .int .i64 a0_8]) (t := 27) ?hr ?_; (case hd => rfl); (case hg => rfl); (case hr => first | (go_simp; done) | (go_simp; rfl)); intro gb146 hg w6 hbox hb; have n0_ := Aside0.mk (below_step (by repeat (first | (with_reducible first | exact HB.out | apply below_alloc | apply pw_below_drewN | apply below_drew1) | exact HB.out)) hb); have n1_ := Aside0.mk (hbox); have n2_ := Aside0.mk ((by rw [hg]; exact (below_size (by repeat (first | (with_reducible first | exact HB.out | apply below_alloc | apply pw_below_drewN | apply below_drew1) | exact HB.out))) : w.heap.size ≤ gb146)); have n3_ := Aside0.mk ((by rw [hg]; exact (below_size (by repeat (first | (with_reducible first | exact HB.out | apply below_alloc | apply pw_below_drewN | apply below_drew1) | exact HB.out))) : w.heap.size ≤ gb146)); clear HB; have HB := n0_; have BK146 := n1_; have GW146 := n2_; have GE146 := n3_; clear n0_ n1_ n2_ n3_; clear hb hbox hg))
  (try simp only [Act.put, List.setIfInBounds_toArray, List.set_cons_zero, List.set_cons_succ])
  go_cut [22] (fun v22 wc => ∃ (kq : Nat) (x22_4 : Bool), v22 = .bool x22_4 ∧ Aside0 (stelelaw17_ExpiryStands.j0 kq l1 a2 a3 x22_4 a0_0 a0_1 a0_2 a0_3 a0_4 a0_5 a0_6 a0_7 a0_8 = some r) ∧ Aside0 (kq ≤ k) ∧ Aside0 (wc.heap[gb146]? = some (.cells #[.string a0_0, .int .i64 a0_1, .bool a0_2, .bool a0_3, .int .i64 a0_4, .int .i64 a0_5, .string a0_6, .int .i64 a0_7, .int .i64 a0_8] 27 (0, 0))) ∧ Aside0 (Below w.heap.size w wc))
  case first =>
    have H := HC5.out
    clear HC5
    by_cases c7 : (l1.length : Int) > 100
    · rw [if_pos c7] at H
      have c7b0 : decide (100 < (l1.length : Int)) = true := decide_eq_true c7
      have c7b1 : decide (100 < l1.length) = true := decide_eq_true (by omega)
      clear c7
      (first | rw [c7b0] | (simp only [i64_w, i32_w]; rw [c7b0]) | skip)
      have H' := Aside0.mk H
      clear H
      go_wp2
      go_meet
      case rel => (try rw [← Nbq35.out]); exact ⟨_, (true), (by first | rfl | (simp; done) | (simp [*]; done)), H', ⟨by first | omega | exact Nat.le_refl _⟩, ⟨by (with_reducible repeat (first | refine blk_drewN ?_ _ | refine blk_drew ?_ | refine blk_alloc ?_ _)); exact BK146.out⟩, ⟨by repeat (first | (with_reducible first | exact HB.out | apply below_alloc | apply pw_below_drewN | apply below_drew1 | refine below_set ?_ GE146.out) | exact HB.out)⟩⟩
    · rw [if_neg c7] at H
      have c7b0 : decide (100 < (l1.length : Int)) = false := decide_eq_false c7
      have c7b1 : decide (100 < l1.length) = false := decide_eq_false (by omega)
      clear c7
      (first | rw [c7b0] | (simp only [i64_w, i32_w]; rw [c7b0]) | skip)
      have H' := Aside0.mk H
      clear H
      go_wp2
      go_meet
      case rel => (try rw [← Nbq35.out]); exact ⟨_, (decide (a3 < a2)), (by first | rfl | (simp; done) | (simp [*]; done)), H', ⟨by first | omega | exact Nat.le_refl _⟩, ⟨by (with_reducible repeat (first | refine blk_drewN ?_ _ | refine blk_drew ?_ | refine blk_alloc ?_ _)); exact BK146.out⟩, ⟨by repeat (first | (with_reducible first | exact HB.out | apply below_alloc | apply pw_below_drewN | apply below_drew1 | refine below_set ?_ GE146.out) | exact HB.out)⟩⟩
  case rest =>
    clear HC5
    try clear c1
    try clear p2
    try clear c5
    try clear c7
    try clear c7b0
    try clear c7b1
    obtain ⟨kq, x22_4, rfl, HA, HJ4, BK146, HB⟩ := hcut
    cases kq with
    | zero => exact absurd HA.out (by simp [stelelaw17_ExpiryStands.j0])
    | succ kj4 =>
      have H := HA.out
      clear HA
      simp only [stelelaw17_ExpiryStands.j0] at H
      by_cases c8 : x22_4 = true
      · subst c8
        have H1 : ((stelelaw17_alive.f).bind fun t147 => (some t147)) = some r := by rw [if_pos rfl] at H; exact H
        clear H
        have H := H1
        clear H1
        replace H := Option.bind_eq_some_iff.mp H
        obtain ⟨t147, A90, H⟩ := H
        replace H : (some t147) = some r := H
        have A9 := Aside0.mk A90
        clear A90
        obtain rfl := Option.some.inj H
        go_wp2_with (first | ((with_reducible refine gate_callee (f := 8) rfl ?_); refine goesL_ (some 23) rfl rfl Try.func8 (by kernel_rfl) rfl #[] rfl (by (try simp only [List.map_toArray, List.map_cons, List.map_nil]); first | done | rfl | (simp only [List.length_drop, List.length_take]; rfl)) ?_; (with_reducible refine (stelelaw17_alive.calls  t147 _ A9.out).mono ?_); rintro e w10 ⟨rfl, hb⟩; refine ⟨_, rfl, ?_⟩; have n0_ := Aside0.mk (blk_below (g := gb146) (o := .cells #[.string a0_0, .int .i64 a0_1, .bool a0_2, .bool a0_3, .int .i64 a0_4, .int .i64 a0_5, .string a0_6, .int .i64 a0_7, .int .i64 a0_8] 27 (0, 0)) (by (with_reducible repeat (first | refine blk_drewN ?_ _ | refine blk_drew ?_ | refine blk_alloc ?_ _)); exact BK146.out) hb); have n1_ := Aside0.mk (below_step (by repeat (first | (with_reducible first | exact HB.out | apply below_alloc | apply pw_below_drewN | apply below_drew1 | refine below_set ?_ GE146.out) | exact HB.out)) hb); clear BK146; clear HB; have BK146 := n0_; have HB := n1_; clear n0_ n1_; (try clear hb); (try clear hb2); (try clear hk); (try clear hi)))
        go_ret
        exact ⟨by first | rfl | (simp [errW_none, errW_some] <;> rfl) | (simp [*, errW_none, errW_some] <;> rfl), by repeat (first | (with_reducible first | exact HB.out | apply below_alloc | apply pw_below_drewN | apply below_drew1 | refine below_set ?_ GE146.out) | exact HB.out)⟩
      · replace c8 := Bool.eq_false_iff.mpr c8
        subst c8
        have H1 : (stelelaw17_ExpiryStands.l0 kj4 l1 a2 a3 0 a0_0 a0_1 a0_2 a0_3 a0_4 a0_5 a0_6 a0_7 a0_8) = some r := by rw [if_neg (show ¬ (false = true) by decide)] at H; exact H
        clear H
        have H := H1
        clear H1
        have H' := Aside0.mk H
        clear H
        go_wp2
        go_loopg [9] kj4 (fun kq v9 w' => ∃ (x9_2 : Int), v9 = .int .i64 x9_2 ∧ Aside0 (stelelaw17_ExpiryStands.l0 kq l1 a2 a3 x9_2 a0_0 a0_1 a0_2 a0_3 a0_4 a0_5 a0_6 a0_7 a0_8 = some r) ∧ Aside0 (kq ≤ kj4) ∧ Aside0 (w'.heap[gb146]? = some (.cells #[.string a0_0, .int .i64 a0_1, .bool a0_2, .bool a0_3, .int .i64 a0_4, .int .i64 a0_5, .string a0_6, .int .i64 a0_7, .int .i64 a0_8] 27 (0, 0))) ∧ Aside0 (Below w.heap.size w w'))
        case atStart => exact ⟨(0), (by first | rfl | (simp; done) | (simp [*]; done)), H', ⟨Nat.le_refl _⟩, ⟨by (with_reducible repeat (first | refine blk_drewN ?_ _ | refine blk_drew ?_ | refine blk_alloc ?_ _)); exact BK146.out⟩, ⟨by repeat (first | (with_reducible first | exact HB.out | apply below_alloc | apply pw_below_drewN | apply below_drew1 | refine below_set ?_ GE146.out) | exact HB.out)⟩⟩
        case round =>
          clear H'
          try clear c1
          try clear p2
          try clear c5
          try clear c7
          try clear c7b0
          try clear c7b1
          try clear c8
          try clear p2
          obtain ⟨x9_2, rfl, HA, HK2, BK146, HB⟩ := hrel
          cases gk with
          | zero => exact absurd HA.out (by simp [stelelaw17_ExpiryStands.l0])
          | succ k2 =>
            have H := HA.out
            clear HA
            simp only [stelelaw17_ExpiryStands.l0] at H
            by_cases c11 : x9_2 < (l1.length : Int)
            · rw [if_pos c11] at H
              have c11b0 : decide (x9_2 < (l1.length : Int)) = true := decide_eq_true c11
              clear c11
              have H' := Aside0.mk H
              clear H
              go_wp2
              go_loopg [10] k2 (fun kq v10 w' => ∃ (x10_3 : Int), v10 = .int .i64 x10_3 ∧ Aside0 (stelelaw17_ExpiryStands.l1 kq l1 a2 a3 x9_2 x10_3 a0_0 a0_1 a0_2 a0_3 a0_4 a0_5 a0_6 a0_7 a0_8 = some r) ∧ Aside0 (kq ≤ k2) ∧ Aside0 (w'.heap[gb146]? = some (.cells #[.string a0_0, .int .i64 a0_1, .bool a0_2, .bool a0_3, .int .i64 a0_4, .int .i64 a0_5, .string a0_6, .int .i64 a0_7, .int .i64 a0_8] 27 (0, 0))) ∧ Aside0 (Below w.heap.size w w'))
              case atStart => exact ⟨(0), (by first | rfl | (simp; done) | (simp [*]; done)), H', ⟨Nat.le_refl _⟩, ⟨by (with_reducible repeat (first | refine blk_drewN ?_ _ | refine blk_drew ?_ | refine blk_alloc ?_ _)); exact BK146.out⟩, ⟨by repeat (first | (with_reducible first | exact HB.out | apply below_alloc | apply pw_below_drewN | apply below_drew1 | refine below_set ?_ GE146.out) | exact HB.out)⟩⟩
              case round =>
                clear H'
                try clear c1
                try clear p2
                try clear c5
                try clear c7
                try clear c7b0
                try clear c7b1
                try clear c8
                try clear c11
                try clear c11b0
                try clear p2
                obtain ⟨x10_3, rfl, HA, HK3, BK146, HB⟩ := hrel
                cases gk with
                | zero => exact absurd HA.out (by simp [stelelaw17_ExpiryStands.l1])
                | succ k3 =>
                  have H := HA.out
                  clear HA
                  simp only [stelelaw17_ExpiryStands.l1] at H
                  by_cases c12 : x10_3 < x9_2
                  · rw [if_pos c12] at H
                    have c12b0 : decide (x10_3 < x9_2) = true := decide_eq_true c12
                    clear c12
                    by_cases c13 : 0 ≤ x10_3
                    · rw [if_pos c13] at H
                      have c13b0 : decide (0 ≤ x10_3) = true := decide_eq_true c13
                      clear c13
                      by_cases c14 : x10_3 < (l1.length : Int)
                      · rw [if_pos c14] at H
                        have c14b0 : decide (x10_3 < (l1.length : Int)) = true := decide_eq_true c14
                        clear c14
                        by_cases c15 : 0 ≤ x9_2
                        · rw [if_pos c15] at H
                          have c15b0 : decide (0 ≤ x9_2) = true := decide_eq_true c15
                          clear c15
                          by_cases c16 : x9_2 < (l1.length : Int)
                          · rw [if_pos c16] at H
                            have c16b0 : decide (x9_2 < (l1.length : Int)) = true := decide_eq_true c16
                            clear c16
                            by_cases c17 : ((rd_T37 l1 x10_3).f3) = ((rd_T37 l1 x9_2).f3)
                            · rw [if_pos c17] at H
                              have c17b0 : (((rd_T37 l1 x10_3).f3) == ((rd_T37 l1 x9_2).f3)) = true := beq_iff_eq.mpr c17
                              have c17b1 : (((rd_T37 l1 x10_3).f3) != ((rd_T37 l1 x9_2).f3)) = false := bne_eq_false_iff_eq.mpr c17
                              clear c17
                              replace H := Option.bind_eq_some_iff.mp H
                              obtain ⟨t150, A180, H⟩ := H
                              replace H : (some t150) = some r := H
                              have A18 := Aside0.mk A180
                              clear A180
                              obtain rfl := Option.some.inj H
                              try go_wp2
                              have n0_ := Aside0.mk (blk_drew BK146.out)
                              have n1_ := Aside0.mk (below_drew1 HB.out)
                              clear BK146
                              clear HB
                              have BK146 := n0_
                              have HB := n1_
                              clear n0_ n1_
                              have p148 : 0 ≤ (x10_3 : Int) := of_decide_eq_true (by first | (with_reducible assumption) | assumption)
                              have q148 : x10_3 < (l1.length : Int) := of_decide_eq_true (by first | (with_reducible assumption) | assumption)
                              obtain ⟨ad148, A148_5, c148_5, e148, hx148_0, hx148_1, hx148_2, hx148_3, hx148_4, hx148_5, hx148_6, hx148_7, hx148_8, hx148_9, hl148_5, hi148_5⟩ := at_T37 HR1.out x10_3 p148 q148
                              have hw148_9 := hx148_9
                              have hw148_8 := hx148_8
                              have hw148_7 := hx148_7
                              have hw148_6 := hx148_6
                              have hw148_5 := hx148_5
                              have hw148_4 := hx148_4
                              have hw148_3 := hx148_3
                              have hw148_2 := hx148_2
                              have hw148_1 := hx148_1
                              have hw148_0 := hx148_0
                              cases e148
                              replace hx148_0 := (HB.out.cell (World.block_lt_of_cell? w _ hx148_0)).trans hx148_0
                              replace hx148_1 := (HB.out.cell (World.block_lt_of_cell? w _ hx148_1)).trans hx148_1
                              replace hx148_2 := (HB.out.cell (World.block_lt_of_cell? w _ hx148_2)).trans hx148_2
                              replace hx148_3 := (HB.out.cell (World.block_lt_of_cell? w _ hx148_3)).trans hx148_3
                              replace hx148_4 := (HB.out.cell (World.block_lt_of_cell? w _ hx148_4)).trans hx148_4
                              replace hx148_5 := (HB.out.cell (World.block_lt_of_cell? w _ hx148_5)).trans hx148_5
                              replace hx148_6 := (HB.out.cell (World.block_lt_of_cell? w _ hx148_6)).trans hx148_6
                              replace hx148_7 := (HB.out.cell (World.block_lt_of_cell? w _ hx148_7)).trans hx148_7
                              replace hx148_8 := (HB.out.cell (World.block_lt_of_cell? w _ hx148_8)).trans hx148_8
                              replace hx148_9 := (HB.out.cell (World.block_lt_of_cell? w _ hx148_9)).trans hx148_9
                              have HR148_5 := Aside0.mk hi148_5
                              have HC148_5 := Aside0.mk hl148_5
                              clear hi148_5 hl148_5
                              replace p148 := eq_true p148
                              replace q148 := eq_true q148
                              have p149 : 0 ≤ (x9_2 : Int) := of_decide_eq_true (by first | (with_reducible assumption) | assumption)
                              have q149 : x9_2 < (l1.length : Int) := of_decide_eq_true (by first | (with_reducible assumption) | assumption)
                              obtain ⟨ad149, A149_5, c149_5, e149, hx149_0, hx149_1, hx149_2, hx149_3, hx149_4, hx149_5, hx149_6, hx149_7, hx149_8, hx149_9, hl149_5, hi149_5⟩ := at_T37 HR1.out x9_2 p149 q149
                              have hw149_9 := hx149_9
                              have hw149_8 := hx149_8
                              have hw149_7 := hx149_7
                              have hw149_6 := hx149_6
                              have hw149_5 := hx149_5
                              have hw149_4 := hx149_4
                              have hw149_3 := hx149_3
                              have hw149_2 := hx149_2
                              have hw149_1 := hx149_1
                              have hw149_0 := hx149_0
                              obtain rfl : ad148 = ad149 := (by injection e149)
                              replace hx149_0 := (HB.out.cell (World.block_lt_of_cell? w _ hx149_0)).trans hx149_0
                              replace hx149_1 := (HB.out.cell (World.block_lt_of_cell? w _ hx149_1)).trans hx149_1
                              replace hx149_2 := (HB.out.cell (World.block_lt_of_cell? w _ hx149_2)).trans hx149_2
                              replace hx149_3 := (HB.out.cell (World.block_lt_of_cell? w _ hx149_3)).trans hx149_3
                              replace hx149_4 := (HB.out.cell (World.block_lt_of_cell? w _ hx149_4)).trans hx149_4
                              replace hx149_5 := (HB.out.cell (World.block_lt_of_cell? w _ hx149_5)).trans hx149_5
                              replace hx149_6 := (HB.out.cell (World.block_lt_of_cell? w _ hx149_6)).trans hx149_6
                              replace hx149_7 := (HB.out.cell (World.block_lt_of_cell? w _ hx149_7)).trans hx149_7
                              replace hx149_8 := (HB.out.cell (World.block_lt_of_cell? w _ hx149_8)).trans hx149_8
                              replace hx149_9 := (HB.out.cell (World.block_lt_of_cell? w _ hx149_9)).trans hx149_9
                              have HR149_5 := Aside0.mk hi149_5
                              have HC149_5 := Aside0.mk hl149_5
                              clear hi149_5 hl149_5
                              replace p149 := eq_true p149
                              replace q149 := eq_true q149
                              refine start_ (n := 11) (S := fun w' => w'.cell? (ad148.add ((x10_3).toNat * 10)) = some (.string ((rd_T37 l1 x10_3).f0)) ∧ w'.cell? ⟨(ad148.add ((x10_3).toNat * 10)).block, (ad148.add ((x10_3).toNat * 10)).off + 1, none⟩ = some (.string ((rd_T37 l1 x10_3).f1)) ∧ w'.cell? ⟨(ad148.add ((x10_3).toNat * 10)).block, (ad148.add ((x10_3).toNat * 10)).off + 2, none⟩ = some (.int .u64 ((rd_T37 l1 x10_3).f2)) ∧ w'.cell? ⟨(ad148.add ((x10_3).toNat * 10)).block, (ad148.add ((x10_3).toNat * 10)).off + 3, none⟩ = some (.int .u64 ((rd_T37 l1 x10_3).f3)) ∧ w'.cell? ⟨(ad148.add ((x10_3).toNat * 10)).block, (ad148.add ((x10_3).toNat * 10)).off + 4, none⟩ = some (.bool ((rd_T37 l1 x10_3).f4)) ∧ w'.cell? ⟨(ad148.add ((x10_3).toNat * 10)).block, (ad148.add ((x10_3).toNat * 10)).off + 5, none⟩ = some (.slice A148_5 ((rd_T37 l1 x10_3).f5).length c148_5) ∧ w'.cell? ⟨(ad148.add ((x10_3).toNat * 10)).block, (ad148.add ((x10_3).toNat * 10)).off + 6, none⟩ = some (.int .i64 ((rd_T37 l1 x10_3).f6.f0)) ∧ w'.cell? ⟨(ad148.add ((x10_3).toNat * 10)).block, (ad148.add ((x10_3).toNat * 10)).off + 7, none⟩ = some (.int .u64 ((rd_T37 l1 x10_3).f6.f1)) ∧ w'.cell? ⟨(ad148.add ((x10_3).toNat * 10)).block, (ad148.add ((x10_3).toNat * 10)).off + 8, none⟩ = some (.bool ((rd_T37 l1 x10_3).f7)) ∧ w'.cell? ⟨(ad148.add ((x10_3).toNat * 10)).block, (ad148.add ((x10_3).toNat * 10)).off + 9, none⟩ = some (.int .u64 ((rd_T37 l1 x10_3).f8)) ∧ w'.cell? (ad148.add ((x9_2).toNat * 10)) = some (.string ((rd_T37 l1 x9_2).f0)) ∧ w'.cell? ⟨(ad148.add ((x9_2).toNat * 10)).block, (ad148.add ((x9_2).toNat * 10)).off + 1, none⟩ = some (.string ((rd_T37 l1 x9_2).f1)) ∧ w'.cell? ⟨(ad148.add ((x9_2).toNat * 10)).block, (ad148.add ((x9_2).toNat * 10)).off + 2, none⟩ = some (.int .u64 ((rd_T37 l1 x9_2).f2)) ∧ w'.cell? ⟨(ad148.add ((x9_2).toNat * 10)).block, (ad148.add ((x9_2).toNat * 10)).off + 3, none⟩ = some (.int .u64 ((rd_T37 l1 x9_2).f3)) ∧ w'.cell? ⟨(ad148.add ((x9_2).toNat * 10)).block, (ad148.add ((x9_2).toNat * 10)).off + 4, none⟩ = some (.bool ((rd_T37 l1 x9_2).f4)) ∧ w'.cell? ⟨(ad148.add ((x9_2).toNat * 10)).block, (ad148.add ((x9_2).toNat * 10)).off + 5, none⟩ = some (.slice A149_5 ((rd_T37 l1 x9_2).f5).length c149_5) ∧ w'.cell? ⟨(ad148.add ((x9_2).toNat * 10)).block, (ad148.add ((x9_2).toNat * 10)).off + 6, none⟩ = some (.int .i64 ((rd_T37 l1 x9_2).f6.f0)) ∧ w'.cell? ⟨(ad148.add ((x9_2).toNat * 10)).block, (ad148.add ((x9_2).toNat * 10)).off + 7, none⟩ = some (.int .u64 ((rd_T37 l1 x9_2).f6.f1)) ∧ w'.cell? ⟨(ad148.add ((x9_2).toNat * 10)).block, (ad148.add ((x9_2).toNat * 10)).off + 8, none⟩ = some (.bool ((rd_T37 l1 x9_2).f7)) ∧ w'.cell? ⟨(ad148.add ((x9_2).toNat * 10)).block, (ad148.add ((x9_2).toNat * 10)).off + 9, none⟩ = some (.int .u64 ((rd_T37 l1 x9_2).f8))) (ds := []) #[false, false, false, false, false, false, false, false, false, false, false] (by kernel_rfl) rfl rfl ⟨((HB.out.cell (World.block_lt_of_cell? w _ hw148_0)).trans hw148_0), ((HB.out.cell (World.block_lt_of_cell? w _ hw148_1)).trans hw148_1), ((HB.out.cell (World.block_lt_of_cell? w _ hw148_2)).trans hw148_2), ((HB.out.cell (World.block_lt_of_cell? w _ hw148_3)).trans hw148_3), ((HB.out.cell (World.block_lt_of_cell? w _ hw148_4)).trans hw148_4), ((HB.out.cell (World.block_lt_of_cell? w _ hw148_5)).trans hw148_5), ((HB.out.cell (World.block_lt_of_cell? w _ hw148_6)).trans hw148_6), ((HB.out.cell (World.block_lt_of_cell? w _ hw148_7)).trans hw148_7), ((HB.out.cell (World.block_lt_of_cell? w _ hw148_8)).trans hw148_8), ((HB.out.cell (World.block_lt_of_cell? w _ hw148_9)).trans hw148_9), ((HB.out.cell (World.block_lt_of_cell? w _ hw149_0)).trans hw149_0), ((HB.out.cell (World.block_lt_of_cell? w _ hw149_1)).trans hw149_1), ((HB.out.cell (World.block_lt_of_cell? w _ hw149_2)).trans hw149_2), ((HB.out.cell (World.block_lt_of_cell? w _ hw149_3)).trans hw149_3), ((HB.out.cell (World.block_lt_of_cell? w _ hw149_4)).trans hw149_4), ((HB.out.cell (World.block_lt_of_cell? w _ hw149_5)).trans hw149_5), ((HB.out.cell (World.block_lt_of_cell? w _ hw149_6)).trans hw149_6), ((HB.out.cell (World.block_lt_of_cell? w _ hw149_7)).trans hw149_7), ((HB.out.cell (World.block_lt_of_cell? w _ hw149_8)).trans hw149_8), ((HB.out.cell (World.block_lt_of_cell? w _ hw149_9)).trans hw149_9)⟩ (fun hHeld => ?_); refine with_tabW stelelaw17_ExpiryStands.tab9 stelelaw17_ExpiryStands.bits9 (fun HT_ HW_ => ?_)
                              generalize wr.drew = w19 at BK146 HB HR148_5 HR149_5 hx148_0 hx148_1 hx148_2 hx148_3 hx148_4 hx148_5 hx148_6 hx148_7 hx148_8 hx148_9 hx149_0 hx149_1 hx149_2 hx149_3 hx149_4 hx149_5 hx149_6 hx149_7 hx149_8 hx149_9 hHeld ⊢
                              refine pure_ (i := 0) (N := some 35) (v := ?_) (a' := ?_) #[true, false, false, false, false, false, false, false, false, false, false] rfl rfl (any_of HT_.out (by kernel_rfl)) (fun _ _ _ h => h) (Or.inl ⟨by rfl, ?_⟩) ?_ ?_
                              rotate_left
                              · intro w'
                                go_simp
                                with_reducible rfl
                              rotate_left
                              · simp only [Act.put, List.setIfInBounds_toArray, List.set_cons_zero, List.set_cons_succ, i64_w, i32_w]
                                rfl
                              refine pure_ (i := 1) (N := some 36) (v := ?_) (a' := ?_) #[true, true, false, false, false, false, false, false, false, false, false] rfl rfl (any_of HT_.out (by kernel_rfl)) (fun _ _ _ h => h) (Or.inl ⟨by rfl, ?_⟩) ?_ ?_
                              rotate_left
                              · intro w'
                                go_simp
                                with_reducible rfl
                              rotate_left
                              · simp only [Act.put, List.setIfInBounds_toArray, List.set_cons_zero, List.set_cons_succ, i64_w, i32_w]
                                rfl
                              refine pure_ (i := 2) (N := some 37) (v := ?_) (a' := ?_) #[true, true, true, false, false, false, false, false, false, false, false] rfl rfl (any_of HT_.out (by kernel_rfl)) (fun _ _ _ h => h) (Or.inl ⟨by rfl, ?_⟩) ?_ ?_
                              rotate_left
                              · intro w'
                                go_simp
                                with_reducible rfl
                              rotate_left
                              · simp only [Act.put, List.setIfInBounds_toArray, List.set_cons_zero, List.set_cons_succ, i64_w, i32_w]
                                rfl
                              refine pure_ (i := 3) (N := some 38) (v := ?_) (a' := ?_) #[true, true, true, true, false, false, false, false, false, false, false] rfl rfl (any_of HT_.out (by kernel_rfl)) (fun _ _ _ h => h) (Or.inl ⟨by rfl, ?_⟩) ?_ ?_
                              rotate_left
                              · intro w'
                                go_simp
                                with_reducible rfl
                              rotate_left
                              · simp only [Act.put, List.setIfInBounds_toArray, List.set_cons_zero, List.set_cons_succ, i64_w, i32_w]
                                rfl
                              refine pure_ (i := 5) (N := some 40) (v := ?_) (a' := ?_) #[true, true, true, true, false, true, false, false, false, false, false] rfl rfl (any_of HT_.out (by kernel_rfl)) (fun _ _ _ h => h) (Or.inl ⟨by rfl, ?_⟩) ?_ ?_
                              rotate_left
                              · intro w'
                                go_simp
                                with_reducible rfl
                              rotate_left
                              · simp only [Act.put, List.setIfInBounds_toArray, List.set_cons_zero, List.set_cons_succ, i64_w, i32_w]
                                rfl
                              refine pure_ (i := 6) (N := some 41) (v := ?_) (a' := ?_) #[true, true, true, true, false, true, true, false, false, false, false] rfl rfl (any_of HT_.out (by kernel_rfl)) (fun _ _ _ h => h) (Or.inl ⟨by rfl, ?_⟩) ?_ ?_
                              rotate_left
                              · intro w'
                                go_simp
                                with_reducible rfl
                              rotate_left
                              · simp only [Act.put, List.setIfInBounds_toArray, List.set_cons_zero, List.set_cons_succ, i64_w, i32_w]
                                rfl
                              refine pure_ (i := 7) (N := some 42) (v := ?_) (a' := ?_) #[true, true, true, true, false, true, true, true, false, false, false] rfl rfl (any_of HT_.out (by kernel_rfl)) (fun _ _ _ h => h) (Or.inl ⟨by rfl, ?_⟩) ?_ ?_
                              rotate_left
                              · intro w'
                                go_simp
                                with_reducible rfl
                              rotate_left
                              · simp only [Act.put, List.setIfInBounds_toArray, List.set_cons_zero, List.set_cons_succ, i64_w, i32_w]
                                rfl
                              refine pure_ (i := 8) (N := some 43) (v := ?_) (a' := ?_) #[true, true, true, true, false, true, true, true, true, false, false] rfl rfl (any_of HT_.out (by kernel_rfl)) (fun _ _ _ h => h) (Or.inl ⟨by rfl, ?_⟩) ?_ ?_
                              rotate_left
                              · intro w'
                                go_simp
                                with_reducible rfl
                              rotate_left
                              · simp only [Act.put, List.setIfInBounds_toArray, List.set_cons_zero, List.set_cons_succ, i64_w, i32_w]
                                rfl
                              refine take_ (i := 4) (N := some 39) (v := ?_) (a' := ?_) #[true, true, true, true, true, true, true, true, true, false, false] rfl rfl (take_ofW HT_.out HW_.out (by kernel_rfl)) (fun _ _ _ h => h) (Or.inl ⟨by rfl, ?_⟩) hHeld ?_ ?_
                              rotate_left
                              · rintro w' ⟨s0, s1, s2, s3, s4, s5, s6, s7, s8, s9, s10, s11, s12, s13, s14, s15, s16, s17, s18, s19⟩
                                go_simp
                                with_reducible rfl
                              rotate_left
                              · simp only [Act.put, List.setIfInBounds_toArray, List.set_cons_zero, List.set_cons_succ, i64_w, i32_w]
                                rfl
                              refine take_ (i := 9) (N := some 44) (v := ?_) (a' := ?_) #[true, true, true, true, true, true, true, true, true, true, false] rfl rfl (take_ofW HT_.out HW_.out (by kernel_rfl)) (fun _ _ _ h => h) (Or.inl ⟨by rfl, ?_⟩) hHeld ?_ ?_
                              rotate_left
                              · rintro w' ⟨s0, s1, s2, s3, s4, s5, s6, s7, s8, s9, s10, s11, s12, s13, s14, s15, s16, s17, s18, s19⟩
                                go_simp
                                with_reducible rfl
                              rotate_left
                              · simp only [Act.put, List.setIfInBounds_toArray, List.set_cons_zero, List.set_cons_succ, i64_w, i32_w]
                                rfl
                              refine pure_ (i := 10) (N := some 45) (v := ?_) (a' := ?_) #[true, true, true, true, true, true, true, true, true, true, true] rfl rfl (any_of HT_.out (by kernel_rfl)) (fun _ _ _ h => h) (Or.inl ⟨by rfl, ?_⟩) ?_ ?_
                              rotate_left
                              · intro w'
                                go_simp
                                with_reducible rfl
                              rotate_left
                              · simp only [Act.put, List.setIfInBounds_toArray, List.set_cons_zero, List.set_cons_succ, i64_w, i32_w]
                                rfl
                              refine done_ (done_of HT_.out (by kernel_rfl)) ?_
                              try go_wp2_with (first | ((with_reducible refine gate_callee (f := 8) rfl ?_); refine goesL_ (some 46) rfl rfl Try.func8 (by kernel_rfl) rfl #[] rfl (by (try simp only [List.map_toArray, List.map_cons, List.map_nil]); first | done | rfl | (simp only [List.length_drop, List.length_take]; rfl)) ?_; (with_reducible refine (stelelaw17_alive.calls  t150 _ A18.out).mono ?_); rintro e w20 ⟨rfl, hb⟩; refine ⟨_, rfl, ?_⟩; have n0_ := Aside0.mk (blk_below (g := gb146) (o := .cells #[.string a0_0, .int .i64 a0_1, .bool a0_2, .bool a0_3, .int .i64 a0_4, .int .i64 a0_5, .string a0_6, .int .i64 a0_7, .int .i64 a0_8] 27 (0, 0)) (by (with_reducible repeat (first | refine blk_drewN ?_ _ | refine blk_drew ?_ | refine blk_alloc ?_ _)); exact BK146.out) hb); have n1_ := Aside0.mk (below_step (by repeat (first | (with_reducible first | exact HB.out | apply below_alloc | apply pw_below_drewN | apply below_drew1 | refine below_set ?_ GE146.out) | exact HB.out)) hb); clear BK146; clear HB; have BK146 := n0_; have HB := n1_; clear n0_ n1_; (try clear hb); (try clear hb2); (try clear hk); (try clear hi)))
                              go_ret
                              exact ⟨by first | rfl | (simp [errW_none, errW_some] <;> rfl) | (simp [*, errW_none, errW_some] <;> rfl), by repeat (first | (with_reducible first | exact HB.out | apply below_alloc | apply pw_below_drewN | apply below_drew1 | refine below_set ?_ GE146.out) | exact HB.out)⟩
                            · rw [if_neg c17] at H
                              have c17b0 : (((rd_T37 l1 x10_3).f3) == ((rd_T37 l1 x9_2).f3)) = false := beq_eq_false_iff_ne.mpr c17
                              have c17b1 : (((rd_T37 l1 x10_3).f3) != ((rd_T37 l1 x9_2).f3)) = true := bne_iff_ne.mpr c17
                              have H' := Aside0.mk H
                              clear H
                              try go_wp2
                              have n0_ := Aside0.mk (blk_drew BK146.out)
                              have n1_ := Aside0.mk (below_drew1 HB.out)
                              clear BK146
                              clear HB
                              have BK146 := n0_
                              have HB := n1_
                              clear n0_ n1_
                              have p148 : 0 ≤ (x10_3 : Int) := of_decide_eq_true (by first | (with_reducible assumption) | assumption)
                              have q148 : x10_3 < (l1.length : Int) := of_decide_eq_true (by first | (with_reducible assumption) | assumption)
                              obtain ⟨ad148, A148_5, c148_5, e148, hx148_0, hx148_1, hx148_2, hx148_3, hx148_4, hx148_5, hx148_6, hx148_7, hx148_8, hx148_9, hl148_5, hi148_5⟩ := at_T37 HR1.out x10_3 p148 q148
                              have hw148_9 := hx148_9
                              have hw148_8 := hx148_8
                              have hw148_7 := hx148_7
                              have hw148_6 := hx148_6
                              have hw148_5 := hx148_5
                              have hw148_4 := hx148_4
                              have hw148_3 := hx148_3
                              have hw148_2 := hx148_2
                              have hw148_1 := hx148_1
                              have hw148_0 := hx148_0
                              cases e148
                              replace hx148_0 := (HB.out.cell (World.block_lt_of_cell? w _ hx148_0)).trans hx148_0
                              replace hx148_1 := (HB.out.cell (World.block_lt_of_cell? w _ hx148_1)).trans hx148_1
                              replace hx148_2 := (HB.out.cell (World.block_lt_of_cell? w _ hx148_2)).trans hx148_2
                              replace hx148_3 := (HB.out.cell (World.block_lt_of_cell? w _ hx148_3)).trans hx148_3
                              replace hx148_4 := (HB.out.cell (World.block_lt_of_cell? w _ hx148_4)).trans hx148_4
                              replace hx148_5 := (HB.out.cell (World.block_lt_of_cell? w _ hx148_5)).trans hx148_5
                              replace hx148_6 := (HB.out.cell (World.block_lt_of_cell? w _ hx148_6)).trans hx148_6
                              replace hx148_7 := (HB.out.cell (World.block_lt_of_cell? w _ hx148_7)).trans hx148_7
                              replace hx148_8 := (HB.out.cell (World.block_lt_of_cell? w _ hx148_8)).trans hx148_8
                              replace hx148_9 := (HB.out.cell (World.block_lt_of_cell? w _ hx148_9)).trans hx148_9
                              have HR148_5 := Aside0.mk hi148_5
                              have HC148_5 := Aside0.mk hl148_5
                              clear hi148_5 hl148_5
                              replace p148 := eq_true p148
                              replace q148 := eq_true q148
                              have p149 : 0 ≤ (x9_2 : Int) := of_decide_eq_true (by first | (with_reducible assumption) | assumption)
                              have q149 : x9_2 < (l1.length : Int) := of_decide_eq_true (by first | (with_reducible assumption) | assumption)
                              obtain ⟨ad149, A149_5, c149_5, e149, hx149_0, hx149_1, hx149_2, hx149_3, hx149_4, hx149_5, hx149_6, hx149_7, hx149_8, hx149_9, hl149_5, hi149_5⟩ := at_T37 HR1.out x9_2 p149 q149
                              have hw149_9 := hx149_9
                              have hw149_8 := hx149_8
                              have hw149_7 := hx149_7
                              have hw149_6 := hx149_6
                              have hw149_5 := hx149_5
                              have hw149_4 := hx149_4
                              have hw149_3 := hx149_3
                              have hw149_2 := hx149_2
                              have hw149_1 := hx149_1
                              have hw149_0 := hx149_0
                              obtain rfl : ad148 = ad149 := (by injection e149)
                              replace hx149_0 := (HB.out.cell (World.block_lt_of_cell? w _ hx149_0)).trans hx149_0
                              replace hx149_1 := (HB.out.cell (World.block_lt_of_cell? w _ hx149_1)).trans hx149_1
                              replace hx149_2 := (HB.out.cell (World.block_lt_of_cell? w _ hx149_2)).trans hx149_2
                              replace hx149_3 := (HB.out.cell (World.block_lt_of_cell? w _ hx149_3)).trans hx149_3
                              replace hx149_4 := (HB.out.cell (World.block_lt_of_cell? w _ hx149_4)).trans hx149_4
                              replace hx149_5 := (HB.out.cell (World.block_lt_of_cell? w _ hx149_5)).trans hx149_5
                              replace hx149_6 := (HB.out.cell (World.block_lt_of_cell? w _ hx149_6)).trans hx149_6
                              replace hx149_7 := (HB.out.cell (World.block_lt_of_cell? w _ hx149_7)).trans hx149_7
                              replace hx149_8 := (HB.out.cell (World.block_lt_of_cell? w _ hx149_8)).trans hx149_8
                              replace hx149_9 := (HB.out.cell (World.block_lt_of_cell? w _ hx149_9)).trans hx149_9
                              have HR149_5 := Aside0.mk hi149_5
                              have HC149_5 := Aside0.mk hl149_5
                              clear hi149_5 hl149_5
                              replace p149 := eq_true p149
                              replace q149 := eq_true q149
                              refine start_ (n := 11) (S := fun w' => w'.cell? (ad148.add ((x10_3).toNat * 10)) = some (.string ((rd_T37 l1 x10_3).f0)) ∧ w'.cell? ⟨(ad148.add ((x10_3).toNat * 10)).block, (ad148.add ((x10_3).toNat * 10)).off + 1, none⟩ = some (.string ((rd_T37 l1 x10_3).f1)) ∧ w'.cell? ⟨(ad148.add ((x10_3).toNat * 10)).block, (ad148.add ((x10_3).toNat * 10)).off + 2, none⟩ = some (.int .u64 ((rd_T37 l1 x10_3).f2)) ∧ w'.cell? ⟨(ad148.add ((x10_3).toNat * 10)).block, (ad148.add ((x10_3).toNat * 10)).off + 3, none⟩ = some (.int .u64 ((rd_T37 l1 x10_3).f3)) ∧ w'.cell? ⟨(ad148.add ((x10_3).toNat * 10)).block, (ad148.add ((x10_3).toNat * 10)).off + 4, none⟩ = some (.bool ((rd_T37 l1 x10_3).f4)) ∧ w'.cell? ⟨(ad148.add ((x10_3).toNat * 10)).block, (ad148.add ((x10_3).toNat * 10)).off + 5, none⟩ = some (.slice A148_5 ((rd_T37 l1 x10_3).f5).length c148_5) ∧ w'.cell? ⟨(ad148.add ((x10_3).toNat * 10)).block, (ad148.add ((x10_3).toNat * 10)).off + 6, none⟩ = some (.int .i64 ((rd_T37 l1 x10_3).f6.f0)) ∧ w'.cell? ⟨(ad148.add ((x10_3).toNat * 10)).block, (ad148.add ((x10_3).toNat * 10)).off + 7, none⟩ = some (.int .u64 ((rd_T37 l1 x10_3).f6.f1)) ∧ w'.cell? ⟨(ad148.add ((x10_3).toNat * 10)).block, (ad148.add ((x10_3).toNat * 10)).off + 8, none⟩ = some (.bool ((rd_T37 l1 x10_3).f7)) ∧ w'.cell? ⟨(ad148.add ((x10_3).toNat * 10)).block, (ad148.add ((x10_3).toNat * 10)).off + 9, none⟩ = some (.int .u64 ((rd_T37 l1 x10_3).f8)) ∧ w'.cell? (ad148.add ((x9_2).toNat * 10)) = some (.string ((rd_T37 l1 x9_2).f0)) ∧ w'.cell? ⟨(ad148.add ((x9_2).toNat * 10)).block, (ad148.add ((x9_2).toNat * 10)).off + 1, none⟩ = some (.string ((rd_T37 l1 x9_2).f1)) ∧ w'.cell? ⟨(ad148.add ((x9_2).toNat * 10)).block, (ad148.add ((x9_2).toNat * 10)).off + 2, none⟩ = some (.int .u64 ((rd_T37 l1 x9_2).f2)) ∧ w'.cell? ⟨(ad148.add ((x9_2).toNat * 10)).block, (ad148.add ((x9_2).toNat * 10)).off + 3, none⟩ = some (.int .u64 ((rd_T37 l1 x9_2).f3)) ∧ w'.cell? ⟨(ad148.add ((x9_2).toNat * 10)).block, (ad148.add ((x9_2).toNat * 10)).off + 4, none⟩ = some (.bool ((rd_T37 l1 x9_2).f4)) ∧ w'.cell? ⟨(ad148.add ((x9_2).toNat * 10)).block, (ad148.add ((x9_2).toNat * 10)).off + 5, none⟩ = some (.slice A149_5 ((rd_T37 l1 x9_2).f5).length c149_5) ∧ w'.cell? ⟨(ad148.add ((x9_2).toNat * 10)).block, (ad148.add ((x9_2).toNat * 10)).off + 6, none⟩ = some (.int .i64 ((rd_T37 l1 x9_2).f6.f0)) ∧ w'.cell? ⟨(ad148.add ((x9_2).toNat * 10)).block, (ad148.add ((x9_2).toNat * 10)).off + 7, none⟩ = some (.int .u64 ((rd_T37 l1 x9_2).f6.f1)) ∧ w'.cell? ⟨(ad148.add ((x9_2).toNat * 10)).block, (ad148.add ((x9_2).toNat * 10)).off + 8, none⟩ = some (.bool ((rd_T37 l1 x9_2).f7)) ∧ w'.cell? ⟨(ad148.add ((x9_2).toNat * 10)).block, (ad148.add ((x9_2).toNat * 10)).off + 9, none⟩ = some (.int .u64 ((rd_T37 l1 x9_2).f8))) (ds := []) #[false, false, false, false, false, false, false, false, false, false, false] (by kernel_rfl) rfl rfl ⟨((HB.out.cell (World.block_lt_of_cell? w _ hw148_0)).trans hw148_0), ((HB.out.cell (World.block_lt_of_cell? w _ hw148_1)).trans hw148_1), ((HB.out.cell (World.block_lt_of_cell? w _ hw148_2)).trans hw148_2), ((HB.out.cell (World.block_lt_of_cell? w _ hw148_3)).trans hw148_3), ((HB.out.cell (World.block_lt_of_cell? w _ hw148_4)).trans hw148_4), ((HB.out.cell (World.block_lt_of_cell? w _ hw148_5)).trans hw148_5), ((HB.out.cell (World.block_lt_of_cell? w _ hw148_6)).trans hw148_6), ((HB.out.cell (World.block_lt_of_cell? w _ hw148_7)).trans hw148_7), ((HB.out.cell (World.block_lt_of_cell? w _ hw148_8)).trans hw148_8), ((HB.out.cell (World.block_lt_of_cell? w _ hw148_9)).trans hw148_9), ((HB.out.cell (World.block_lt_of_cell? w _ hw149_0)).trans hw149_0), ((HB.out.cell (World.block_lt_of_cell? w _ hw149_1)).trans hw149_1), ((HB.out.cell (World.block_lt_of_cell? w _ hw149_2)).trans hw149_2), ((HB.out.cell (World.block_lt_of_cell? w _ hw149_3)).trans hw149_3), ((HB.out.cell (World.block_lt_of_cell? w _ hw149_4)).trans hw149_4), ((HB.out.cell (World.block_lt_of_cell? w _ hw149_5)).trans hw149_5), ((HB.out.cell (World.block_lt_of_cell? w _ hw149_6)).trans hw149_6), ((HB.out.cell (World.block_lt_of_cell? w _ hw149_7)).trans hw149_7), ((HB.out.cell (World.block_lt_of_cell? w _ hw149_8)).trans hw149_8), ((HB.out.cell (World.block_lt_of_cell? w _ hw149_9)).trans hw149_9)⟩ (fun hHeld => ?_); refine with_tabW stelelaw17_ExpiryStands.tab9 stelelaw17_ExpiryStands.bits9 (fun HT_ HW_ => ?_)
                              generalize wr.drew = w21 at BK146 HB HR148_5 HR149_5 hx148_0 hx148_1 hx148_2 hx148_3 hx148_4 hx148_5 hx148_6 hx148_7 hx148_8 hx148_9 hx149_0 hx149_1 hx149_2 hx149_3 hx149_4 hx149_5 hx149_6 hx149_7 hx149_8 hx149_9 hHeld ⊢
                              refine pure_ (i := 0) (N := some 35) (v := ?_) (a' := ?_) #[true, false, false, false, false, false, false, false, false, false, false] rfl rfl (any_of HT_.out (by kernel_rfl)) (fun _ _ _ h => h) (Or.inl ⟨by rfl, ?_⟩) ?_ ?_
                              rotate_left
                              · intro w'
                                go_simp
                                with_reducible rfl
                              rotate_left
                              · simp only [Act.put, List.setIfInBounds_toArray, List.set_cons_zero, List.set_cons_succ, i64_w, i32_w]
                                rfl
                              refine pure_ (i := 1) (N := some 36) (v := ?_) (a' := ?_) #[true, true, false, false, false, false, false, false, false, false, false] rfl rfl (any_of HT_.out (by kernel_rfl)) (fun _ _ _ h => h) (Or.inl ⟨by rfl, ?_⟩) ?_ ?_
                              rotate_left
                              · intro w'
                                go_simp
                                with_reducible rfl
                              rotate_left
                              · simp only [Act.put, List.setIfInBounds_toArray, List.set_cons_zero, List.set_cons_succ, i64_w, i32_w]
                                rfl
                              refine pure_ (i := 2) (N := some 37) (v := ?_) (a' := ?_) #[true, true, true, false, false, false, false, false, false, false, false] rfl rfl (any_of HT_.out (by kernel_rfl)) (fun _ _ _ h => h) (Or.inl ⟨by rfl, ?_⟩) ?_ ?_
                              rotate_left
                              · intro w'
                                go_simp
                                with_reducible rfl
                              rotate_left
                              · simp only [Act.put, List.setIfInBounds_toArray, List.set_cons_zero, List.set_cons_succ, i64_w, i32_w]
                                rfl
                              refine pure_ (i := 3) (N := some 38) (v := ?_) (a' := ?_) #[true, true, true, true, false, false, false, false, false, false, false] rfl rfl (any_of HT_.out (by kernel_rfl)) (fun _ _ _ h => h) (Or.inl ⟨by rfl, ?_⟩) ?_ ?_
                              rotate_left
                              · intro w'
                                go_simp
                                with_reducible rfl
                              rotate_left
                              · simp only [Act.put, List.setIfInBounds_toArray, List.set_cons_zero, List.set_cons_succ, i64_w, i32_w]
                                rfl
                              refine pure_ (i := 5) (N := some 40) (v := ?_) (a' := ?_) #[true, true, true, true, false, true, false, false, false, false, false] rfl rfl (any_of HT_.out (by kernel_rfl)) (fun _ _ _ h => h) (Or.inl ⟨by rfl, ?_⟩) ?_ ?_
                              rotate_left
                              · intro w'
                                go_simp
                                with_reducible rfl
                              rotate_left
                              · simp only [Act.put, List.setIfInBounds_toArray, List.set_cons_zero, List.set_cons_succ, i64_w, i32_w]
                                rfl
                              refine pure_ (i := 6) (N := some 41) (v := ?_) (a' := ?_) #[true, true, true, true, false, true, true, false, false, false, false] rfl rfl (any_of HT_.out (by kernel_rfl)) (fun _ _ _ h => h) (Or.inl ⟨by rfl, ?_⟩) ?_ ?_
                              rotate_left
                              · intro w'
                                go_simp
                                with_reducible rfl
                              rotate_left
                              · simp only [Act.put, List.setIfInBounds_toArray, List.set_cons_zero, List.set_cons_succ, i64_w, i32_w]
                                rfl
                              refine pure_ (i := 7) (N := some 42) (v := ?_) (a' := ?_) #[true, true, true, true, false, true, true, true, false, false, false] rfl rfl (any_of HT_.out (by kernel_rfl)) (fun _ _ _ h => h) (Or.inl ⟨by rfl, ?_⟩) ?_ ?_
                              rotate_left
                              · intro w'
                                go_simp
                                with_reducible rfl
                              rotate_left
                              · simp only [Act.put, List.setIfInBounds_toArray, List.set_cons_zero, List.set_cons_succ, i64_w, i32_w]
                                rfl
                              refine pure_ (i := 8) (N := some 43) (v := ?_) (a' := ?_) #[true, true, true, true, false, true, true, true, true, false, false] rfl rfl (any_of HT_.out (by kernel_rfl)) (fun _ _ _ h => h) (Or.inl ⟨by rfl, ?_⟩) ?_ ?_
                              rotate_left
                              · intro w'
                                go_simp
                                with_reducible rfl
                              rotate_left
                              · simp only [Act.put, List.setIfInBounds_toArray, List.set_cons_zero, List.set_cons_succ, i64_w, i32_w]
                                rfl
                              refine take_ (i := 4) (N := some 39) (v := ?_) (a' := ?_) #[true, true, true, true, true, true, true, true, true, false, false] rfl rfl (take_ofW HT_.out HW_.out (by kernel_rfl)) (fun _ _ _ h => h) (Or.inl ⟨by rfl, ?_⟩) hHeld ?_ ?_
                              rotate_left
                              · rintro w' ⟨s0, s1, s2, s3, s4, s5, s6, s7, s8, s9, s10, s11, s12, s13, s14, s15, s16, s17, s18, s19⟩
                                go_simp
                                with_reducible rfl
                              rotate_left
                              · simp only [Act.put, List.setIfInBounds_toArray, List.set_cons_zero, List.set_cons_succ, i64_w, i32_w]
                                rfl
                              refine take_ (i := 9) (N := some 44) (v := ?_) (a' := ?_) #[true, true, true, true, true, true, true, true, true, true, false] rfl rfl (take_ofW HT_.out HW_.out (by kernel_rfl)) (fun _ _ _ h => h) (Or.inl ⟨by rfl, ?_⟩) hHeld ?_ ?_
                              rotate_left
                              · rintro w' ⟨s0, s1, s2, s3, s4, s5, s6, s7, s8, s9, s10, s11, s12, s13, s14, s15, s16, s17, s18, s19⟩
                                go_simp
                                with_reducible rfl
                              rotate_left
                              · simp only [Act.put, List.setIfInBounds_toArray, List.set_cons_zero, List.set_cons_succ, i64_w, i32_w]
                                rfl
                              refine pure_ (i := 10) (N := some 45) (v := ?_) (a' := ?_) #[true, true, true, true, true, true, true, true, true, true, true] rfl rfl (any_of HT_.out (by kernel_rfl)) (fun _ _ _ h => h) (Or.inl ⟨by rfl, ?_⟩) ?_ ?_
                              rotate_left
                              · intro w'
                                go_simp
                                with_reducible rfl
                              rotate_left
                              · simp only [Act.put, List.setIfInBounds_toArray, List.set_cons_zero, List.set_cons_succ, i64_w, i32_w]
                                rfl
                              refine done_ (done_of HT_.out (by kernel_rfl)) ?_
                              try go_wp2
                              go_roundg k3
                              case measure => have := HJ4.out; have := HK2.out; have := HK3.out; omega
                              case rel => (try rw [← Nbq35.out]); exact ⟨(wrap64 (x10_3 + 1)), (by first | rfl | (simp; done) | (simp [*]; done)), H', ⟨by have := HJ4.out; have := HK2.out; have := HK3.out; omega⟩, ⟨by (with_reducible repeat (first | refine blk_drewN ?_ _ | refine blk_drew ?_ | refine blk_alloc ?_ _)); exact BK146.out⟩, ⟨by repeat (first | (with_reducible first | exact HB.out | apply below_alloc | apply pw_below_drewN | apply below_drew1 | refine below_set ?_ GE146.out) | exact HB.out)⟩⟩
                          · rw [if_neg c16] at H
                            exact absurd H (by simp)
                        · rw [if_neg c15] at H
                          exact absurd H (by simp)
                      · rw [if_neg c14] at H
                        exact absurd H (by simp)
                    · rw [if_neg c13] at H
                      exact absurd H (by simp)
                  · rw [if_neg c12] at H
                    have c12b0 : decide (x10_3 < x9_2) = false := decide_eq_false c12
                    clear c12
                    have H' := Aside0.mk H
                    clear H
                    go_wp2
                    go_roundg k3
                    case measure => have := HJ4.out; have := HK2.out; have := HK3.out; omega
                    case rel => (try rw [← Nbq35.out]); exact ⟨(wrap64 (x9_2 + 1)), (by first | rfl | (simp; done) | (simp [*]; done)), H', ⟨by have := HJ4.out; have := HK2.out; have := HK3.out; omega⟩, ⟨by (with_reducible repeat (first | refine blk_drewN ?_ _ | refine blk_drew ?_ | refine blk_alloc ?_ _)); exact BK146.out⟩, ⟨by repeat (first | (with_reducible first | exact HB.out | apply below_alloc | apply pw_below_drewN | apply below_drew1 | refine below_set ?_ GE146.out) | exact HB.out)⟩⟩
            · rw [if_neg c11] at H
              have c11b0 : decide (x9_2 < (l1.length : Int)) = false := decide_eq_false c11
              clear c11
              replace H := Option.bind_eq_some_iff.mp H
              obtain ⟨t151, A220, H⟩ := H
              replace H : ((expiry_Due.f a0_0 a0_1 a0_2 a0_3 a0_4 a0_5 a0_6 a0_7 a0_8 l1 a3).bind fun t154 => (stelelaw17_ExpiryStands.l2 k2 l1 a2 a3 t151 t154 0 a0_0 a0_1 a0_2 a0_3 a0_4 a0_5 a0_6 a0_7 a0_8)) = some r := H
              have A22 := Aside0.mk A220
              clear A220
              replace H := Option.bind_eq_some_iff.mp H
              obtain ⟨t154, A230, H⟩ := H
              replace H : (stelelaw17_ExpiryStands.l2 k2 l1 a2 a3 t151 t154 0 a0_0 a0_1 a0_2 a0_3 a0_4 a0_5 a0_6 a0_7 a0_8) = some r := H
              have A23 := Aside0.mk A230
              clear A230
              have H' := Aside0.mk H
              clear H
              try go_wp2
              have n0_ := Aside0.mk (blk_drew BK146.out)
              have n1_ := Aside0.mk (below_drew1 HB.out)
              clear BK146
              clear HB
              have BK146 := n0_
              have HB := n1_
              clear n0_ n1_
              refine start_ (n := 10) (S := fun w' => w'.cell? ⟨gb146, 0, none⟩ = some (.string a0_0) ∧ w'.cell? ⟨gb146, 1, none⟩ = some (.int .i64 a0_1) ∧ w'.cell? ⟨gb146, 2, none⟩ = some (.bool a0_2) ∧ w'.cell? ⟨gb146, 3, none⟩ = some (.bool a0_3) ∧ w'.cell? ⟨gb146, 4, none⟩ = some (.int .i64 a0_4) ∧ w'.cell? ⟨gb146, 5, none⟩ = some (.int .i64 a0_5) ∧ w'.cell? ⟨gb146, 6, none⟩ = some (.string a0_6) ∧ w'.cell? ⟨gb146, 7, none⟩ = some (.int .i64 a0_7) ∧ w'.cell? ⟨gb146, 8, none⟩ = some (.int .i64 a0_8)) (ds := []) #[false, false, false, false, false, false, false, false, false, false] (by kernel_rfl) rfl rfl ⟨(blk_cell BK146.out 0).trans rfl, (blk_cell BK146.out 1).trans rfl, (blk_cell BK146.out 2).trans rfl, (blk_cell BK146.out 3).trans rfl, (blk_cell BK146.out 4).trans rfl, (blk_cell BK146.out 5).trans rfl, (blk_cell BK146.out 6).trans rfl, (blk_cell BK146.out 7).trans rfl, (blk_cell BK146.out 8).trans rfl⟩ (fun hHeld => ?_); refine with_tabW stelelaw17_ExpiryStands.tab11 stelelaw17_ExpiryStands.bits11 (fun HT_ HW_ => ?_)
              generalize wr.drew = w24 at BK146 HB hHeld ⊢
              refine pure_ (i := 1) (N := some 48) (v := ?_) (a' := ?_) #[false, true, false, false, false, false, false, false, false, false] rfl rfl (any_of HT_.out (by kernel_rfl)) (fun _ _ _ h => h) (Or.inl ⟨by rfl, ?_⟩) ?_ ?_
              rotate_left
              · intro w'
                go_simp
                with_reducible rfl
              rotate_left
              · simp only [Act.put, List.setIfInBounds_toArray, List.set_cons_zero, List.set_cons_succ, i64_w, i32_w]
                rfl
              refine pure_ (i := 2) (N := some 49) (v := ?_) (a' := ?_) #[false, true, true, false, false, false, false, false, false, false] rfl rfl (any_of HT_.out (by kernel_rfl)) (fun _ _ _ h => h) (Or.inl ⟨by rfl, ?_⟩) ?_ ?_
              rotate_left
              · intro w'
                go_simp
                with_reducible rfl
              rotate_left
              · simp only [Act.put, List.setIfInBounds_toArray, List.set_cons_zero, List.set_cons_succ, i64_w, i32_w]
                rfl
              refine pure_ (i := 5) (N := some 52) (v := ?_) (a' := ?_) #[false, true, true, false, false, true, false, false, false, false] rfl rfl (any_of HT_.out (by kernel_rfl)) (fun _ _ _ h => h) (Or.inl ⟨by rfl, ?_⟩) ?_ ?_
              rotate_left
              · intro w'
                go_simp
                with_reducible rfl
              rotate_left
              · simp only [Act.put, List.setIfInBounds_toArray, List.set_cons_zero, List.set_cons_succ, i64_w, i32_w]
                rfl
              refine pure_ (i := 6) (N := some 53) (v := ?_) (a' := ?_) #[false, true, true, false, false, true, true, false, false, false] rfl rfl (any_of HT_.out (by kernel_rfl)) (fun _ _ _ h => h) (Or.inl ⟨by rfl, ?_⟩) ?_ ?_
              rotate_left
              · intro w'
                go_simp
                with_reducible rfl
              rotate_left
              · simp only [Act.put, List.setIfInBounds_toArray, List.set_cons_zero, List.set_cons_succ, i64_w, i32_w]
                rfl
              refine take_ (i := 0) (N := some 47) (v := ?_) (a' := ?_) #[true, true, true, false, false, true, true, false, false, false] rfl rfl (take_ofW HT_.out HW_.out (by kernel_rfl)) (fun _ _ _ h => h) (Or.inl ⟨by rfl, ?_⟩) hHeld ?_ ?_
              rotate_left
              · rintro w' ⟨s0, s1, s2, s3, s4, s5, s6, s7, s8⟩
                go_simp
                with_reducible rfl
              rotate_left
              · simp only [Act.put, List.setIfInBounds_toArray, List.set_cons_zero, List.set_cons_succ, i64_w, i32_w]
                rfl
              refine take_ (i := 4) (N := some 51) (v := ?_) (a' := ?_) #[true, true, true, false, true, true, true, false, false, false] rfl rfl (take_ofW HT_.out HW_.out (by kernel_rfl)) (fun _ _ _ h => h) (Or.inl ⟨by rfl, ?_⟩) hHeld ?_ ?_
              rotate_left
              · rintro w' ⟨s0, s1, s2, s3, s4, s5, s6, s7, s8⟩
                go_simp
                with_reducible rfl
              rotate_left
              · simp only [Act.put, List.setIfInBounds_toArray, List.set_cons_zero, List.set_cons_succ, i64_w, i32_w]
                rfl
              refine one_ (i := 3) (N := some 50) #[true, true, true, true, true, true, true, false, false, false] rfl rfl (one_of HT_.out (by kernel_rfl)) (by decide) (fun K hK => ?_)
              refine goes_ Try.func10 (by kernel_rfl) rfl #[.agg #[.string a0_0, .int .i64 a0_1, .bool a0_2, .bool a0_3, .int .i64 a0_4, .int .i64 a0_5, .string a0_6, .int .i64 a0_7, .int .i64 a0_8], .slice A1 l1.length c1, .int .u64 a2] (by rfl) rfl rfl (by (try simp only [List.map_toArray, List.map_cons, List.map_nil]); first | done | rfl | (simp only [List.length_drop, List.length_take]; rfl)) ?_
              with_reducible refine (expiry_Due.calls a0_0 a0_1 a0_2 a0_3 a0_4 a0_5 a0_6 a0_7 a0_8 _ _ l1 a2 t151 _ ?side1 ?side2 A22.out).mono ?_
              (case side1 => repeat (first | exact (Kd.C_below HR1.out HB.out) | (with_reducible refine Kd.C_alloc ?_ _) | (with_reducible refine Kd.C_drewN ?_ _) | (with_reducible refine Kd.C_drew ?_)))
              (case side2 => exact HC1.out)
              rintro e w25 ⟨v152, rfl, ho0, hb⟩
              refine ⟨_, rfl, ?_⟩
              have n0_ := Aside0.mk (Kd.R_lower ho0 (below_size (by repeat (first | (with_reducible first | exact HB.out | apply below_alloc | apply pw_below_drewN | apply below_drew1 | refine below_set ?_ GE146.out) | exact HB.out))))
              have n1_ := Aside0.mk (blk_below (g := gb146) (o := .cells #[.string a0_0, .int .i64 a0_1, .bool a0_2, .bool a0_3, .int .i64 a0_4, .int .i64 a0_5, .string a0_6, .int .i64 a0_7, .int .i64 a0_8] 27 (0, 0)) (by (with_reducible repeat (first | refine blk_drewN ?_ _ | refine blk_drew ?_ | refine blk_alloc ?_ _)); exact BK146.out) hb)
              have n2_ := Aside0.mk (below_step (by repeat (first | (with_reducible first | exact HB.out | apply below_alloc | apply pw_below_drewN | apply below_drew1 | refine below_set ?_ GE146.out) | exact HB.out)) hb)
              clear BK146
              clear HB
              have HO153 := n0_
              have BK146 := n1_
              have HB := n2_
              clear n0_ n1_ n2_
              (try clear hb)
              (try clear hb2)
              (try clear hk)
              (try clear hi)
              (try clear ho0)
              refine hK.out _ _ ⟨(blk_cell BK146.out 0).trans rfl, (blk_cell BK146.out 1).trans rfl, (blk_cell BK146.out 2).trans rfl, (blk_cell BK146.out 3).trans rfl, (blk_cell BK146.out 4).trans rfl, (blk_cell BK146.out 5).trans rfl, (blk_cell BK146.out 6).trans rfl, (blk_cell BK146.out 7).trans rfl, (blk_cell BK146.out 8).trans rfl⟩ (fun hHeld => ?_)
              clear hK K
              refine norm_ (a' := ?_) ?_ ?_
              rotate_left
              · show Act.put _ (some 50) _ = _
                simp only [Act.put, List.setIfInBounds_toArray, List.set_cons_zero, List.set_cons_succ, i64_w, i32_w]
                rfl
              refine one_ (i := 7) (N := some 54) #[true, true, true, true, true, true, true, true, false, false] rfl rfl (one_of HT_.out (by kernel_rfl)) (by decide) (fun K hK => ?_)
              refine goes_ Try.func10 (by kernel_rfl) rfl #[.agg #[.string a0_0, .int .i64 a0_1, .bool a0_2, .bool a0_3, .int .i64 a0_4, .int .i64 a0_5, .string a0_6, .int .i64 a0_7, .int .i64 a0_8], .slice A1 l1.length c1, .int .u64 a3] (by rfl) rfl rfl (by (try simp only [List.map_toArray, List.map_cons, List.map_nil]); first | done | rfl | (simp only [List.length_drop, List.length_take]; rfl)) ?_
              with_reducible refine (expiry_Due.calls a0_0 a0_1 a0_2 a0_3 a0_4 a0_5 a0_6 a0_7 a0_8 _ _ l1 a3 t154 _ ?side1 ?side2 A23.out).mono ?_
              (case side1 => repeat (first | exact (Kd.C_below HR1.out HB.out) | (with_reducible refine Kd.C_alloc ?_ _) | (with_reducible refine Kd.C_drewN ?_ _) | (with_reducible refine Kd.C_drew ?_)))
              (case side2 => exact HC1.out)
              rintro e w26 ⟨v155, rfl, ho0, hb⟩
              refine ⟨_, rfl, ?_⟩
              have n0_ := Aside0.mk (Kd.R_elder' (by (with_reducible repeat (first | apply Kd.R_alloc | apply Kd.R_drewN | apply Kd.R_drew)); exact HO153.out) (Kd.R_base ho0) hb)
              have n1_ := Aside0.mk (Kd.R_lower (Kd.R_new' ho0 (Kd.R_lt (by (with_reducible repeat (first | apply Kd.R_alloc | apply Kd.R_drewN | apply Kd.R_drew)); exact HO153.out))) (below_size (by repeat (first | (with_reducible first | exact HB.out | apply below_alloc | apply pw_below_drewN | apply below_drew1 | refine below_set ?_ GE146.out) | exact HB.out))))
              have n2_ := Aside0.mk (blk_below (g := gb146) (o := .cells #[.string a0_0, .int .i64 a0_1, .bool a0_2, .bool a0_3, .int .i64 a0_4, .int .i64 a0_5, .string a0_6, .int .i64 a0_7, .int .i64 a0_8] 27 (0, 0)) (by (with_reducible repeat (first | refine blk_drewN ?_ _ | refine blk_drew ?_ | refine blk_alloc ?_ _)); exact BK146.out) hb)
              have n3_ := Aside0.mk (below_step (by repeat (first | (with_reducible first | exact HB.out | apply below_alloc | apply pw_below_drewN | apply below_drew1 | refine below_set ?_ GE146.out) | exact HB.out)) hb)
              clear HO153
              clear BK146
              clear HB
              have HO153 := n0_
              have HO156 := n1_
              have BK146 := n2_
              have HB := n3_
              clear n0_ n1_ n2_ n3_
              (try clear hb)
              (try clear hb2)
              (try clear hk)
              (try clear hi)
              (try clear ho0)
              refine hK.out _ _ ⟨(blk_cell BK146.out 0).trans rfl, (blk_cell BK146.out 1).trans rfl, (blk_cell BK146.out 2).trans rfl, (blk_cell BK146.out 3).trans rfl, (blk_cell BK146.out 4).trans rfl, (blk_cell BK146.out 5).trans rfl, (blk_cell BK146.out 6).trans rfl, (blk_cell BK146.out 7).trans rfl, (blk_cell BK146.out 8).trans rfl⟩ (fun hHeld => ?_)
              clear hK K
              refine norm_ (a' := ?_) ?_ ?_
              rotate_left
              · show Act.put _ (some 54) _ = _
                simp only [Act.put, List.setIfInBounds_toArray, List.set_cons_zero, List.set_cons_succ, i64_w, i32_w]
                rfl
              refine pure_ (i := 8) (N := some 11) (v := ?_) (a' := ?_) #[true, true, true, true, true, true, true, true, true, false] rfl rfl (any_of HT_.out (by kernel_rfl)) (fun _ _ _ h => h) (Or.inl ⟨by rfl, ?_⟩) ?_ ?_
              rotate_left
              · intro w'
                go_simp
                with_reducible rfl
              rotate_left
              · simp only [Act.put, List.setIfInBounds_toArray, List.set_cons_zero, List.set_cons_succ, i64_w, i32_w]
                rfl
              refine pure_ (i := 9) (N := some 12) (v := ?_) (a' := ?_) #[true, true, true, true, true, true, true, true, true, true] rfl rfl (any_of HT_.out (by kernel_rfl)) (fun _ _ _ h => h) (Or.inl ⟨by rfl, ?_⟩) ?_ ?_
              rotate_left
              · intro w'
                go_simp
                with_reducible rfl
              rotate_left
              · simp only [Act.put, List.setIfInBounds_toArray, List.set_cons_zero, List.set_cons_succ, i64_w, i32_w]
                rfl
              refine done_ (done_of HT_.out (by kernel_rfl)) ?_
              try go_wp2
              go_loopg [13] k2 (fun kq v13 w' => ∃ (x13_3 : Int), v13 = .int .i64 x13_3 ∧ Aside0 (stelelaw17_ExpiryStands.l2 kq l1 a2 a3 t151 t154 x13_3 a0_0 a0_1 a0_2 a0_3 a0_4 a0_5 a0_6 a0_7 a0_8 = some r) ∧ Aside0 (kq ≤ k2) ∧ Aside0 (Kd.R (Kd.int .u64) 28 w' w.heap.size (fun k_ => some k_ ≠ (v155 : Value).ownBlock) v152 t151) ∧ Aside0 (Kd.R (Kd.int .u64) 28 w' w.heap.size (fun k_ => some k_ ≠ (v152 : Value).ownBlock) v155 t154) ∧ Aside0 (w'.heap[gb146]? = some (.cells #[.string a0_0, .int .i64 a0_1, .bool a0_2, .bool a0_3, .int .i64 a0_4, .int .i64 a0_5, .string a0_6, .int .i64 a0_7, .int .i64 a0_8] 27 (0, 0))) ∧ Aside0 (Below w.heap.size w w'))
              case atStart => exact ⟨(0), (by first | rfl | (simp; done) | (simp [*]; done)), H', ⟨Nat.le_refl _⟩, ⟨by (with_reducible repeat (first | apply Kd.R_alloc | apply Kd.R_drewN | apply Kd.R_drew)); exact Kd.R_mono HO153.out (fun _ hk => hk.2)⟩, ⟨by (with_reducible repeat (first | apply Kd.R_alloc | apply Kd.R_drewN | apply Kd.R_drew)); exact Kd.R_mono HO156.out (fun _ hk => hk.2)⟩, ⟨by (with_reducible repeat (first | refine blk_drewN ?_ _ | refine blk_drew ?_ | refine blk_alloc ?_ _)); exact BK146.out⟩, ⟨by repeat (first | (with_reducible first | exact HB.out | apply below_alloc | apply pw_below_drewN | apply below_drew1 | refine below_set ?_ GE146.out) | exact HB.out)⟩⟩
              case round =>
                clear H'
                try clear c1
                try clear p1
                try clear q1
                try clear hx1
                try clear p2
                try clear c5
                try clear p6
                try clear c7
                try clear c7b0
                try clear c7b1
                try clear c8
                try clear c10
                try clear c11
                try clear c11b0
                try clear c12
                try clear c12b0
                try clear c13
                try clear c13b0
                try clear c14
                try clear c14b0
                try clear p14
                try clear q14
                try clear hx14
                try clear c15
                try clear c15b0
                try clear c16
                try clear c16b0
                try clear c17
                try clear c17b0
                try clear c17b1
                try clear hx148_0
                try clear hx148_1
                try clear hx148_2
                try clear hx148_3
                try clear hx148_4
                try clear hx148_5
                try clear hx148_6
                try clear hx148_7
                try clear hx148_8
                try clear hx148_9
                try clear hx149_0
                try clear hx149_1
                try clear hx149_2
                try clear hx149_3
                try clear hx149_4
                try clear hx149_5
                try clear hx149_6
                try clear hx149_7
                try clear hx149_8
                try clear hx149_9
                try clear p148
                try clear p149
                try clear p2
                try clear q148
                try clear q149
                obtain ⟨x13_3, rfl, HA, HK3, HO_11, HO_12, BK146, HB⟩ := hrel
                cases gk with
                | zero => exact absurd HA.out (by simp [stelelaw17_ExpiryStands.l2])
                | succ k3 =>
                  have H := HA.out
                  clear HA
                  simp only [stelelaw17_ExpiryStands.l2] at H
                  by_cases c27 : x13_3 < (l1.length : Int)
                  · rw [if_pos c27] at H
                    have c27b0 : decide (x13_3 < (l1.length : Int)) = true := decide_eq_true c27
                    clear c27
                    by_cases c28 : 0 ≤ x13_3
                    · rw [if_pos c28] at H
                      have c28b0 : decide (0 ≤ x13_3) = true := decide_eq_true c28
                      clear c28
                      have HC29 := Aside0.mk H
                      clear H
                      have p161 : 0 ≤ (x13_3 : Int) := of_decide_eq_true (by first | (with_reducible assumption) | assumption)
                      have q161 : x13_3 < (l1.length : Int) := of_decide_eq_true (by first | (with_reducible assumption) | assumption)
                      obtain ⟨ad161, A161_5, c161_5, e161, hx161_0, hx161_1, hx161_2, hx161_3, hx161_4, hx161_5, hx161_6, hx161_7, hx161_8, hx161_9, hl161_5, hi161_5⟩ := at_T37 HR1.out x13_3 p161 q161
                      cases e161
                      replace hx161_0 := (HB.out.cell (World.block_lt_of_cell? w _ hx161_0)).trans hx161_0
                      replace hx161_1 := (HB.out.cell (World.block_lt_of_cell? w _ hx161_1)).trans hx161_1
                      replace hx161_2 := (HB.out.cell (World.block_lt_of_cell? w _ hx161_2)).trans hx161_2
                      replace hx161_3 := (HB.out.cell (World.block_lt_of_cell? w _ hx161_3)).trans hx161_3
                      replace hx161_4 := (HB.out.cell (World.block_lt_of_cell? w _ hx161_4)).trans hx161_4
                      replace hx161_5 := (HB.out.cell (World.block_lt_of_cell? w _ hx161_5)).trans hx161_5
                      replace hx161_6 := (HB.out.cell (World.block_lt_of_cell? w _ hx161_6)).trans hx161_6
                      replace hx161_7 := (HB.out.cell (World.block_lt_of_cell? w _ hx161_7)).trans hx161_7
                      replace hx161_8 := (HB.out.cell (World.block_lt_of_cell? w _ hx161_8)).trans hx161_8
                      replace hx161_9 := (HB.out.cell (World.block_lt_of_cell? w _ hx161_9)).trans hx161_9
                      have HR161_5 := Aside0.mk hi161_5
                      have HC161_5 := Aside0.mk hl161_5
                      clear hi161_5 hl161_5
                      replace p161 := eq_true p161
                      replace q161 := eq_true q161
                      go_upto_region 16 with (first | ((with_reducible refine gate_dst (N := 14) rfl ?_); refine box_event ?hg (N := 14) ?hd (cs := #[.string (⟨#[]⟩ : ByteArray), .string (⟨#[]⟩ : ByteArray), .int .u64 0, .int .u64 0, .bool false, .slice none 0 0, .int .i64 0, .int .u64 0, .bool false, .int .u64 0]) (t := 37) ?hr ?_; (case hd => rfl); (case hg => rfl); (case hr => first | (go_simp; done) | (go_simp; rfl)); intro gb162 hg w30 hbox hb; have n0_ := Aside0.mk (Kd.R_below (by (with_reducible repeat (first | apply Kd.R_alloc | apply Kd.R_drewN | apply Kd.R_drew)); exact HO_11.out) hb); have n1_ := Aside0.mk (Kd.R_below (by (with_reducible repeat (first | apply Kd.R_alloc | apply Kd.R_drewN | apply Kd.R_drew)); exact HO_12.out) hb); have n2_ := Aside0.mk (blk_below (g := gb146) (o := .cells #[.string a0_0, .int .i64 a0_1, .bool a0_2, .bool a0_3, .int .i64 a0_4, .int .i64 a0_5, .string a0_6, .int .i64 a0_7, .int .i64 a0_8] 27 (0, 0)) (by (with_reducible repeat (first | refine blk_drewN ?_ _ | refine blk_drew ?_ | refine blk_alloc ?_ _)); exact BK146.out) hb); have n3_ := Aside0.mk (below_step (by repeat (first | (with_reducible first | exact HB.out | apply below_alloc | apply pw_below_drewN | apply below_drew1 | refine below_set ?_ GE146.out) | exact HB.out)) hb); have n4_ := Aside0.mk (hbox); have n5_ := Aside0.mk ((by rw [hg]; exact (below_size (by repeat (first | (with_reducible first | exact HB.out | apply below_alloc | apply pw_below_drewN | apply below_drew1 | refine below_set ?_ GE146.out) | exact HB.out))) : w.heap.size ≤ gb162)); have n6_ := Aside0.mk ((by rw [hg]; exact (below_size (by repeat (first | (with_reducible first | exact HB.out | apply below_alloc | apply pw_below_drewN | apply below_drew1 | refine below_set ?_ GE146.out) | exact HB.out))) : w.heap.size ≤ gb162)); have n7_ := Aside0.mk ((by rw [hg]; exact Nat.ne_of_lt (blk_lt (g := gb146) (o := .cells #[.string a0_0, .int .i64 a0_1, .bool a0_2, .bool a0_3, .int .i64 a0_4, .int .i64 a0_5, .string a0_6, .int .i64 a0_7, .int .i64 a0_8] 27 (0, 0)) (by (with_reducible repeat (first | refine blk_drewN ?_ _ | refine blk_drew ?_ | refine blk_alloc ?_ _)); exact BK146.out)) : gb146 ≠ gb162)); have n8_ := Aside0.mk ((by rw [hg]; exact Nat.ne_of_gt (blk_lt (g := gb146) (o := .cells #[.string a0_0, .int .i64 a0_1, .bool a0_2, .bool a0_3, .int .i64 a0_4, .int .i64 a0_5, .string a0_6, .int .i64 a0_7, .int .i64 a0_8] 27 (0, 0)) (by (with_reducible repeat (first | refine blk_drewN ?_ _ | refine blk_drew ?_ | refine blk_alloc ?_ _)); exact BK146.out)) : gb162 ≠ gb146)); clear HO_11; clear HO_12; clear BK146; clear HB; have HO_11 := n0_; have HO_12 := n1_; have BK146 := n2_; have HB := n3_; have BK162 := n4_; have GW162 := n5_; have GE162 := n6_; have NB146_162 := n7_; have NB162_146 := n8_; clear n0_ n1_ n2_ n3_ n4_ n5_ n6_ n7_ n8_; clear hb hbox hg; have hnb31 := NB162_146.out; have hnc31 := NB146_162.out; have hcz32_0 : w30.cell? ⟨gb162, 0, none⟩ = some (.string (⟨#[]⟩ : ByteArray)) := (blk_cell BK162.out 0).trans rfl; have hcz32_1 : w30.cell? ⟨gb162, 1, none⟩ = some (.string (⟨#[]⟩ : ByteArray)) := (blk_cell BK162.out 1).trans rfl; have hcz32_2 : w30.cell? ⟨gb162, 2, none⟩ = some (.int .u64 0) := (blk_cell BK162.out 2).trans rfl; have hcz32_3 : w30.cell? ⟨gb162, 3, none⟩ = some (.int .u64 0) := (blk_cell BK162.out 3).trans rfl; have hcz32_4 : w30.cell? ⟨gb162, 4, none⟩ = some (.bool false) := (blk_cell BK162.out 4).trans rfl; have hcz32_5 : w30.cell? ⟨gb162, 5, none⟩ = some (.slice none 0 0) := (blk_cell BK162.out 5).trans rfl; have hcz32_6 : w30.cell? ⟨gb162, 6, none⟩ = some (.int .i64 0) := (blk_cell BK162.out 6).trans rfl; have hcz32_7 : w30.cell? ⟨gb162, 7, none⟩ = some (.int .u64 0) := (blk_cell BK162.out 7).trans rfl; have hcz32_8 : w30.cell? ⟨gb162, 8, none⟩ = some (.bool false) := (blk_cell BK162.out 8).trans rfl; have hcz32_9 : w30.cell? ⟨gb162, 9, none⟩ = some (.int .u64 0) := (blk_cell BK162.out 9).trans rfl; have hfz32_0 := blk_frozen BK162.out 0; have hfz32_1 := blk_frozen BK162.out 1; have hfz32_2 := blk_frozen BK162.out 2; have hfz32_3 := blk_frozen BK162.out 3; have hfz32_4 := blk_frozen BK162.out 4; have hfz32_5 := blk_frozen BK162.out 5; have hfz32_6 := blk_frozen BK162.out 6; have hfz32_7 := blk_frozen BK162.out 7; have hfz32_8 := blk_frozen BK162.out 8; have hfz32_9 := blk_frozen BK162.out 9))
                      (try simp only [Act.put, List.setIfInBounds_toArray, List.set_cons_zero, List.set_cons_succ])
                      go_cut [85] (fun v85 wc => ∃ (kq : Nat) (x85_28 : Bool), v85 = .bool x85_28 ∧ Aside0 (stelelaw17_ExpiryStands.j4 kq l1 a2 a3 t151 t154 x13_3 x85_28 a0_0 a0_1 a0_2 a0_3 a0_4 a0_5 a0_6 a0_7 a0_8 ((rd_T37 l1 x13_3).f0) ((rd_T37 l1 x13_3).f1) ((rd_T37 l1 x13_3).f2) ((rd_T37 l1 x13_3).f3) ((rd_T37 l1 x13_3).f4) ((rd_T37 l1 x13_3).f5) ((rd_T37 l1 x13_3).f6.f0) ((rd_T37 l1 x13_3).f6.f1) ((rd_T37 l1 x13_3).f7) ((rd_T37 l1 x13_3).f8) = some r) ∧ Aside0 (kq ≤ k3) ∧ Aside0 (Kd.R (Kd.int .u64) 28 wc w.heap.size (fun k_ => some k_ ≠ (v155 : Value).ownBlock) v152 t151) ∧ Aside0 (Kd.R (Kd.int .u64) 28 wc w.heap.size (fun k_ => some k_ ≠ (v152 : Value).ownBlock) v155 t154) ∧ Aside0 (wc.heap[gb146]? = some (.cells #[.string a0_0, .int .i64 a0_1, .bool a0_2, .bool a0_3, .int .i64 a0_4, .int .i64 a0_5, .string a0_6, .int .i64 a0_7, .int .i64 a0_8] 27 (0, 0))) ∧ Aside0 (wc.heap[gb162]? = some (.cells #[.string ((rd_T37 l1 x13_3).f0), .string ((rd_T37 l1 x13_3).f1), .int .u64 ((rd_T37 l1 x13_3).f2), .int .u64 ((rd_T37 l1 x13_3).f3), .bool ((rd_T37 l1 x13_3).f4), (.slice A161_5 ((rd_T37 l1 x13_3).f5).length c161_5), .int .i64 ((rd_T37 l1 x13_3).f6.f0), .int .u64 ((rd_T37 l1 x13_3).f6.f1), .bool ((rd_T37 l1 x13_3).f7), .int .u64 ((rd_T37 l1 x13_3).f8)] 37 (0, 0))) ∧ Aside0 (Below w.heap.size w wc))
                      case first =>
                        have H := HC29.out
                        clear HC29
                        replace H := Option.bind_eq_some_iff.mp H
                        obtain ⟨t163, A330, H⟩ := H
                        replace H : (if t163 = true then (if (rd_T37 l1 x13_3).f7 = true then (stelelaw17_ExpiryStands.j4 k3 l1 a2 a3 t151 t154 x13_3 true a0_0 a0_1 a0_2 a0_3 a0_4 a0_5 a0_6 a0_7 a0_8 ((rd_T37 l1 x13_3).f0) ((rd_T37 l1 x13_3).f1) ((rd_T37 l1 x13_3).f2) ((rd_T37 l1 x13_3).f3) ((rd_T37 l1 x13_3).f4) ((rd_T37 l1 x13_3).f5) ((rd_T37 l1 x13_3).f6.f0) ((rd_T37 l1 x13_3).f6.f1) ((rd_T37 l1 x13_3).f7) ((rd_T37 l1 x13_3).f8)) else ((steleref15_Active.f ((rd_T37 l1 x13_3).f6.f0) ((rd_T37 l1 x13_3).f6.f1) a2).bind fun t164 => (if t164 = true then (stelelaw17_ExpiryStands.j4 k3 l1 a2 a3 t151 t154 x13_3 true a0_0 a0_1 a0_2 a0_3 a0_4 a0_5 a0_6 a0_7 a0_8 ((rd_T37 l1 x13_3).f0) ((rd_T37 l1 x13_3).f1) ((rd_T37 l1 x13_3).f2) ((rd_T37 l1 x13_3).f3) ((rd_T37 l1 x13_3).f4) ((rd_T37 l1 x13_3).f5) ((rd_T37 l1 x13_3).f6.f0) ((rd_T37 l1 x13_3).f6.f1) ((rd_T37 l1 x13_3).f7) ((rd_T37 l1 x13_3).f8)) else (stelelaw17_ExpiryStands.j4 k3 l1 a2 a3 t151 t154 x13_3 (((rd_T37 l1 x13_3).f0).toList != a0_0.toList) a0_0 a0_1 a0_2 a0_3 a0_4 a0_5 a0_6 a0_7 a0_8 ((rd_T37 l1 x13_3).f0) ((rd_T37 l1 x13_3).f1) ((rd_T37 l1 x13_3).f2) ((rd_T37 l1 x13_3).f3) ((rd_T37 l1 x13_3).f4) ((rd_T37 l1 x13_3).f5) ((rd_T37 l1 x13_3).f6.f0) ((rd_T37 l1 x13_3).f6.f1) ((rd_T37 l1 x13_3).f7) ((rd_T37 l1 x13_3).f8))))) else (stelelaw17_ExpiryStands.j4 k3 l1 a2 a3 t151 t154 x13_3 false a0_0 a0_1 a0_2 a0_3 a0_4 a0_5 a0_6 a0_7 a0_8 ((rd_T37 l1 x13_3).f0) ((rd_T37 l1 x13_3).f1) ((rd_T37 l1 x13_3).f2) ((rd_T37 l1 x13_3).f3) ((rd_T37 l1 x13_3).f4) ((rd_T37 l1 x13_3).f5) ((rd_T37 l1 x13_3).f6.f0) ((rd_T37 l1 x13_3).f6.f1) ((rd_T37 l1 x13_3).f7) ((rd_T37 l1 x13_3).f8))) = some r := H
                        have A33 := Aside0.mk A330
                        clear A330
                        by_cases c34 : t163 = true
                        · subst c34
                          have H1 : (if (rd_T37 l1 x13_3).f7 = true then (stelelaw17_ExpiryStands.j4 k3 l1 a2 a3 t151 t154 x13_3 true a0_0 a0_1 a0_2 a0_3 a0_4 a0_5 a0_6 a0_7 a0_8 ((rd_T37 l1 x13_3).f0) ((rd_T37 l1 x13_3).f1) ((rd_T37 l1 x13_3).f2) ((rd_T37 l1 x13_3).f3) ((rd_T37 l1 x13_3).f4) ((rd_T37 l1 x13_3).f5) ((rd_T37 l1 x13_3).f6.f0) ((rd_T37 l1 x13_3).f6.f1) ((rd_T37 l1 x13_3).f7) ((rd_T37 l1 x13_3).f8)) else ((steleref15_Active.f ((rd_T37 l1 x13_3).f6.f0) ((rd_T37 l1 x13_3).f6.f1) a2).bind fun t164 => (if t164 = true then (stelelaw17_ExpiryStands.j4 k3 l1 a2 a3 t151 t154 x13_3 true a0_0 a0_1 a0_2 a0_3 a0_4 a0_5 a0_6 a0_7 a0_8 ((rd_T37 l1 x13_3).f0) ((rd_T37 l1 x13_3).f1) ((rd_T37 l1 x13_3).f2) ((rd_T37 l1 x13_3).f3) ((rd_T37 l1 x13_3).f4) ((rd_T37 l1 x13_3).f5) ((rd_T37 l1 x13_3).f6.f0) ((rd_T37 l1 x13_3).f6.f1) ((rd_T37 l1 x13_3).f7) ((rd_T37 l1 x13_3).f8)) else (stelelaw17_ExpiryStands.j4 k3 l1 a2 a3 t151 t154 x13_3 (((rd_T37 l1 x13_3).f0).toList != a0_0.toList) a0_0 a0_1 a0_2 a0_3 a0_4 a0_5 a0_6 a0_7 a0_8 ((rd_T37 l1 x13_3).f0) ((rd_T37 l1 x13_3).f1) ((rd_T37 l1 x13_3).f2) ((rd_T37 l1 x13_3).f3) ((rd_T37 l1 x13_3).f4) ((rd_T37 l1 x13_3).f5) ((rd_T37 l1 x13_3).f6.f0) ((rd_T37 l1 x13_3).f6.f1) ((rd_T37 l1 x13_3).f7) ((rd_T37 l1 x13_3).f8))))) = some r := by rw [if_pos rfl] at H; exact H
                          clear H
                          have H := H1
                          clear H1
                          obtain ⟨bq35, hbq35⟩ : ∃ b_ : Bool, b_ = ((rd_T37 l1 x13_3).f7) := ⟨_, rfl⟩
                          replace H : (if bq35 = true then (stelelaw17_ExpiryStands.j4 k3 l1 a2 a3 t151 t154 x13_3 true a0_0 a0_1 a0_2 a0_3 a0_4 a0_5 a0_6 a0_7 a0_8 ((rd_T37 l1 x13_3).f0) ((rd_T37 l1 x13_3).f1) ((rd_T37 l1 x13_3).f2) ((rd_T37 l1 x13_3).f3) ((rd_T37 l1 x13_3).f4) ((rd_T37 l1 x13_3).f5) ((rd_T37 l1 x13_3).f6.f0) ((rd_T37 l1 x13_3).f6.f1) bq35 ((rd_T37 l1 x13_3).f8)) else ((steleref15_Active.f ((rd_T37 l1 x13_3).f6.f0) ((rd_T37 l1 x13_3).f6.f1) a2).bind fun t164 => (if t164 = true then (stelelaw17_ExpiryStands.j4 k3 l1 a2 a3 t151 t154 x13_3 true a0_0 a0_1 a0_2 a0_3 a0_4 a0_5 a0_6 a0_7 a0_8 ((rd_T37 l1 x13_3).f0) ((rd_T37 l1 x13_3).f1) ((rd_T37 l1 x13_3).f2) ((rd_T37 l1 x13_3).f3) ((rd_T37 l1 x13_3).f4) ((rd_T37 l1 x13_3).f5) ((rd_T37 l1 x13_3).f6.f0) ((rd_T37 l1 x13_3).f6.f1) bq35 ((rd_T37 l1 x13_3).f8)) else (stelelaw17_ExpiryStands.j4 k3 l1 a2 a3 t151 t154 x13_3 (((rd_T37 l1 x13_3).f0).toList != a0_0.toList) a0_0 a0_1 a0_2 a0_3 a0_4 a0_5 a0_6 a0_7 a0_8 ((rd_T37 l1 x13_3).f0) ((rd_T37 l1 x13_3).f1) ((rd_T37 l1 x13_3).f2) ((rd_T37 l1 x13_3).f3) ((rd_T37 l1 x13_3).f4) ((rd_T37 l1 x13_3).f5) ((rd_T37 l1 x13_3).f6.f0) ((rd_T37 l1 x13_3).f6.f1) bq35 ((rd_T37 l1 x13_3).f8))))) = some r := by rw [← hbq35] at H; exact H
                          have Nbq35 := Aside0.mk hbq35
                          clear hbq35
                          (try rw [← Nbq35.out])
                          by_cases c36 : bq35 = true
                          · subst c36
                            have H1 : (stelelaw17_ExpiryStands.j4 k3 l1 a2 a3 t151 t154 x13_3 true a0_0 a0_1 a0_2 a0_3 a0_4 a0_5 a0_6 a0_7 a0_8 ((rd_T37 l1 x13_3).f0) ((rd_T37 l1 x13_3).f1) ((rd_T37 l1 x13_3).f2) ((rd_T37 l1 x13_3).f3) ((rd_T37 l1 x13_3).f4) ((rd_T37 l1 x13_3).f5) ((rd_T37 l1 x13_3).f6.f0) ((rd_T37 l1 x13_3).f6.f1) true ((rd_T37 l1 x13_3).f8)) = some r := by rw [if_pos rfl] at H; exact H
                            clear H
                            have H := H1
                            clear H1
                            have H' := Aside0.mk H
                            clear H
                            have hnb37 := NB162_146.out
                            have hnc37 := NB146_162.out
                            have hcz38_0 : w30.cell? ⟨gb162, 0, none⟩ = some (.string (⟨#[]⟩ : ByteArray)) := (blk_cell BK162.out 0).trans rfl
                            have hcz38_1 : w30.cell? ⟨gb162, 1, none⟩ = some (.string (⟨#[]⟩ : ByteArray)) := (blk_cell BK162.out 1).trans rfl
                            have hcz38_2 : w30.cell? ⟨gb162, 2, none⟩ = some (.int .u64 0) := (blk_cell BK162.out 2).trans rfl
                            have hcz38_3 : w30.cell? ⟨gb162, 3, none⟩ = some (.int .u64 0) := (blk_cell BK162.out 3).trans rfl
                            have hcz38_4 : w30.cell? ⟨gb162, 4, none⟩ = some (.bool false) := (blk_cell BK162.out 4).trans rfl
                            have hcz38_5 : w30.cell? ⟨gb162, 5, none⟩ = some (.slice none 0 0) := (blk_cell BK162.out 5).trans rfl
                            have hcz38_6 : w30.cell? ⟨gb162, 6, none⟩ = some (.int .i64 0) := (blk_cell BK162.out 6).trans rfl
                            have hcz38_7 : w30.cell? ⟨gb162, 7, none⟩ = some (.int .u64 0) := (blk_cell BK162.out 7).trans rfl
                            have hcz38_8 : w30.cell? ⟨gb162, 8, none⟩ = some (.bool false) := (blk_cell BK162.out 8).trans rfl
                            have hcz38_9 : w30.cell? ⟨gb162, 9, none⟩ = some (.int .u64 0) := (blk_cell BK162.out 9).trans rfl
                            have hfz38_0 := blk_frozen BK162.out 0
                            have hfz38_1 := blk_frozen BK162.out 1
                            have hfz38_2 := blk_frozen BK162.out 2
                            have hfz38_3 := blk_frozen BK162.out 3
                            have hfz38_4 := blk_frozen BK162.out 4
                            have hfz38_5 := blk_frozen BK162.out 5
                            have hfz38_6 := blk_frozen BK162.out 6
                            have hfz38_7 := blk_frozen BK162.out 7
                            have hfz38_8 := blk_frozen BK162.out 8
                            have hfz38_9 := blk_frozen BK162.out 9
                            obtain ⟨Ao39, co39, eo39⟩ := Kd.R_slice HO_11.out
                            subst eo39
                            go_wp2_with (first | ((with_reducible refine gate_callee (f := 12) rfl ?_); refine goesL_ (some 68) rfl rfl Try.func12 (by kernel_rfl) rfl #[.slice Ao39 t151.length co39, .int .u64 ((rd_T37 l1 x13_3).f3)] rfl (by (try simp only [List.map_toArray, List.map_cons, List.map_nil]); first | done | rfl | (simp only [List.length_drop, List.length_take]; rfl)) ?_; (with_reducible refine (stelelaw17_in.calls k3 _ _ t151 ((rd_T37 l1 x13_3).f3) true _ ?side1 ?side2 A33.out).mono ?_); (case side1 => refine (Kd.R_reads' (e := 28) (base := w.heap.size) (ok := fun k_ => some k_ ≠ (v155 : Value).ownBlock) (n := t151.length) (c := co39) ?_).2.2; exact (by (with_reducible repeat (first | apply Kd.R_alloc | apply Kd.R_drewN | apply Kd.R_drew)); exact (Kd.R_mono (Kd.R_far (p := ⟨gb162, 9, none⟩) (Kd.R_far (p := ⟨gb162, 8, none⟩) (Kd.R_far (p := ⟨gb162, 7, none⟩) (Kd.R_far (p := ⟨gb162, 6, none⟩) (Kd.R_far (p := ⟨gb162, 5, none⟩) (Kd.R_far (p := ⟨gb162, 4, none⟩) (Kd.R_far (p := ⟨gb162, 3, none⟩) (Kd.R_far (p := ⟨gb162, 2, none⟩) (Kd.R_far (p := ⟨gb162, 1, none⟩) (Kd.R_far (p := ⟨gb162, 0, none⟩) (Kd.R_types HO_11.out BK162.out (by decide)) (fun _ hk => hk.2) (.string ((rd_T37 l1 x13_3).f0))) (fun _ hk => hk.2) (.string ((rd_T37 l1 x13_3).f1))) (fun _ hk => hk.2) (.int .u64 ((rd_T37 l1 x13_3).f2))) (fun _ hk => hk.2) (.int .u64 ((rd_T37 l1 x13_3).f3))) (fun _ hk => hk.2) (.bool ((rd_T37 l1 x13_3).f4))) (fun _ hk => hk.2) (.slice A161_5 ((rd_T37 l1 x13_3).f5).length c161_5)) (fun _ hk => hk.2) (.int .i64 ((rd_T37 l1 x13_3).f6.f0))) (fun _ hk => hk.2) (.int .u64 ((rd_T37 l1 x13_3).f6.f1))) (fun _ hk => hk.2) (.bool (true))) (fun _ hk => hk.2) (.int .u64 ((rd_T37 l1 x13_3).f8))) (fun _ h_ => h_.1)))); (case side2 => exact (Kd.R_reads' HO_11.out).2.1); rintro e w' ⟨rfl, ⟨nd, rfl⟩⟩; refine ⟨_, rfl, ?_⟩))
                            go_meet
                            case rel => (try rw [← Nbq35.out]); exact ⟨_, (true), (by first | rfl | (simp; done) | (simp [*]; done)), H', ⟨by have := HJ4.out; have := HK2.out; have := HK3.out; first | omega | exact Nat.le_refl _⟩, ⟨by (with_reducible repeat (first | apply Kd.R_alloc | apply Kd.R_drewN | apply Kd.R_drew)); exact Kd.R_mono (Kd.R_far (p := ⟨gb162, 9, none⟩) (Kd.R_far (p := ⟨gb162, 8, none⟩) (Kd.R_far (p := ⟨gb162, 7, none⟩) (Kd.R_far (p := ⟨gb162, 6, none⟩) (Kd.R_far (p := ⟨gb162, 5, none⟩) (Kd.R_far (p := ⟨gb162, 4, none⟩) (Kd.R_far (p := ⟨gb162, 3, none⟩) (Kd.R_far (p := ⟨gb162, 2, none⟩) (Kd.R_far (p := ⟨gb162, 1, none⟩) (Kd.R_far (p := ⟨gb162, 0, none⟩) (Kd.R_types HO_11.out BK162.out (by decide)) (fun _ hk => hk.2) (.string ((rd_T37 l1 x13_3).f0))) (fun _ hk => hk.2) (.string ((rd_T37 l1 x13_3).f1))) (fun _ hk => hk.2) (.int .u64 ((rd_T37 l1 x13_3).f2))) (fun _ hk => hk.2) (.int .u64 ((rd_T37 l1 x13_3).f3))) (fun _ hk => hk.2) (.bool ((rd_T37 l1 x13_3).f4))) (fun _ hk => hk.2) (.slice A161_5 ((rd_T37 l1 x13_3).f5).length c161_5)) (fun _ hk => hk.2) (.int .i64 ((rd_T37 l1 x13_3).f6.f0))) (fun _ hk => hk.2) (.int .u64 ((rd_T37 l1 x13_3).f6.f1))) (fun _ hk => hk.2) (.bool (true))) (fun _ hk => hk.2) (.int .u64 ((rd_T37 l1 x13_3).f8))) (fun _ hk => hk.1)⟩, ⟨by (with_reducible repeat (first | apply Kd.R_alloc | apply Kd.R_drewN | apply Kd.R_drew)); exact Kd.R_mono (Kd.R_far (p := ⟨gb162, 9, none⟩) (Kd.R_far (p := ⟨gb162, 8, none⟩) (Kd.R_far (p := ⟨gb162, 7, none⟩) (Kd.R_far (p := ⟨gb162, 6, none⟩) (Kd.R_far (p := ⟨gb162, 5, none⟩) (Kd.R_far (p := ⟨gb162, 4, none⟩) (Kd.R_far (p := ⟨gb162, 3, none⟩) (Kd.R_far (p := ⟨gb162, 2, none⟩) (Kd.R_far (p := ⟨gb162, 1, none⟩) (Kd.R_far (p := ⟨gb162, 0, none⟩) (Kd.R_types HO_12.out BK162.out (by decide)) (fun _ hk => hk.2) (.string ((rd_T37 l1 x13_3).f0))) (fun _ hk => hk.2) (.string ((rd_T37 l1 x13_3).f1))) (fun _ hk => hk.2) (.int .u64 ((rd_T37 l1 x13_3).f2))) (fun _ hk => hk.2) (.int .u64 ((rd_T37 l1 x13_3).f3))) (fun _ hk => hk.2) (.bool ((rd_T37 l1 x13_3).f4))) (fun _ hk => hk.2) (.slice A161_5 ((rd_T37 l1 x13_3).f5).length c161_5)) (fun _ hk => hk.2) (.int .i64 ((rd_T37 l1 x13_3).f6.f0))) (fun _ hk => hk.2) (.int .u64 ((rd_T37 l1 x13_3).f6.f1))) (fun _ hk => hk.2) (.bool (true))) (fun _ hk => hk.2) (.int .u64 ((rd_T37 l1 x13_3).f8))) (fun _ hk => hk.1)⟩, ⟨by (with_reducible repeat (first | refine blk_drewN ?_ _ | refine blk_drew ?_ | refine blk_alloc ?_ _)); refine blk_far ?_ NB146_162.out _; (with_reducible repeat (first | refine blk_drewN ?_ _ | refine blk_drew ?_ | refine blk_alloc ?_ _)); refine blk_far ?_ NB146_162.out _; (with_reducible repeat (first | refine blk_drewN ?_ _ | refine blk_drew ?_ | refine blk_alloc ?_ _)); refine blk_far ?_ NB146_162.out _; (with_reducible repeat (first | refine blk_drewN ?_ _ | refine blk_drew ?_ | refine blk_alloc ?_ _)); refine blk_far ?_ NB146_162.out _; (with_reducible repeat (first | refine blk_drewN ?_ _ | refine blk_drew ?_ | refine blk_alloc ?_ _)); refine blk_far ?_ NB146_162.out _; (with_reducible repeat (first | refine blk_drewN ?_ _ | refine blk_drew ?_ | refine blk_alloc ?_ _)); refine blk_far ?_ NB146_162.out _; (with_reducible repeat (first | refine blk_drewN ?_ _ | refine blk_drew ?_ | refine blk_alloc ?_ _)); refine blk_far ?_ NB146_162.out _; (with_reducible repeat (first | refine blk_drewN ?_ _ | refine blk_drew ?_ | refine blk_alloc ?_ _)); refine blk_far ?_ NB146_162.out _; (with_reducible repeat (first | refine blk_drewN ?_ _ | refine blk_drew ?_ | refine blk_alloc ?_ _)); refine blk_far ?_ NB146_162.out _; (with_reducible repeat (first | refine blk_drewN ?_ _ | refine blk_drew ?_ | refine blk_alloc ?_ _)); refine blk_far ?_ NB146_162.out _; (with_reducible repeat (first | refine blk_drewN ?_ _ | refine blk_drew ?_ | refine blk_alloc ?_ _)); exact BK146.out⟩, ⟨by (with_reducible repeat (first | refine blk_drewN ?_ _ | refine blk_drew ?_ | refine blk_alloc ?_ _)); refine blk_put (cs := #[.string ((rd_T37 l1 x13_3).f0), .string ((rd_T37 l1 x13_3).f1), .int .u64 ((rd_T37 l1 x13_3).f2), .int .u64 ((rd_T37 l1 x13_3).f3), .bool ((rd_T37 l1 x13_3).f4), .slice A161_5 ((rd_T37 l1 x13_3).f5).length c161_5, .int .i64 ((rd_T37 l1 x13_3).f6.f0), .int .u64 ((rd_T37 l1 x13_3).f6.f1), .bool (true), .int .u64 0]) ?_ 9 _ rfl; (with_reducible repeat (first | refine blk_drewN ?_ _ | refine blk_drew ?_ | refine blk_alloc ?_ _)); refine blk_put (cs := #[.string ((rd_T37 l1 x13_3).f0), .string ((rd_T37 l1 x13_3).f1), .int .u64 ((rd_T37 l1 x13_3).f2), .int .u64 ((rd_T37 l1 x13_3).f3), .bool ((rd_T37 l1 x13_3).f4), .slice A161_5 ((rd_T37 l1 x13_3).f5).length c161_5, .int .i64 ((rd_T37 l1 x13_3).f6.f0), .int .u64 ((rd_T37 l1 x13_3).f6.f1), .bool false, .int .u64 0]) ?_ 8 _ rfl; (with_reducible repeat (first | refine blk_drewN ?_ _ | refine blk_drew ?_ | refine blk_alloc ?_ _)); refine blk_put (cs := #[.string ((rd_T37 l1 x13_3).f0), .string ((rd_T37 l1 x13_3).f1), .int .u64 ((rd_T37 l1 x13_3).f2), .int .u64 ((rd_T37 l1 x13_3).f3), .bool ((rd_T37 l1 x13_3).f4), .slice A161_5 ((rd_T37 l1 x13_3).f5).length c161_5, .int .i64 ((rd_T37 l1 x13_3).f6.f0), .int .u64 0, .bool false, .int .u64 0]) ?_ 7 _ rfl; (with_reducible repeat (first | refine blk_drewN ?_ _ | refine blk_drew ?_ | refine blk_alloc ?_ _)); refine blk_put (cs := #[.string ((rd_T37 l1 x13_3).f0), .string ((rd_T37 l1 x13_3).f1), .int .u64 ((rd_T37 l1 x13_3).f2), .int .u64 ((rd_T37 l1 x13_3).f3), .bool ((rd_T37 l1 x13_3).f4), .slice A161_5 ((rd_T37 l1 x13_3).f5).length c161_5, .int .i64 0, .int .u64 0, .bool false, .int .u64 0]) ?_ 6 _ rfl; (with_reducible repeat (first | refine blk_drewN ?_ _ | refine blk_drew ?_ | refine blk_alloc ?_ _)); refine blk_put (cs := #[.string ((rd_T37 l1 x13_3).f0), .string ((rd_T37 l1 x13_3).f1), .int .u64 ((rd_T37 l1 x13_3).f2), .int .u64 ((rd_T37 l1 x13_3).f3), .bool ((rd_T37 l1 x13_3).f4), .slice none 0 0, .int .i64 0, .int .u64 0, .bool false, .int .u64 0]) ?_ 5 _ rfl; (with_reducible repeat (first | refine blk_drewN ?_ _ | refine blk_drew ?_ | refine blk_alloc ?_ _)); refine blk_put (cs := #[.string ((rd_T37 l1 x13_3).f0), .string ((rd_T37 l1 x13_3).f1), .int .u64 ((rd_T37 l1 x13_3).f2), .int .u64 ((rd_T37 l1 x13_3).f3), .bool false, .slice none 0 0, .int .i64 0, .int .u64 0, .bool false, .int .u64 0]) ?_ 4 _ rfl; (with_reducible repeat (first | refine blk_drewN ?_ _ | refine blk_drew ?_ | refine blk_alloc ?_ _)); refine blk_put (cs := #[.string ((rd_T37 l1 x13_3).f0), .string ((rd_T37 l1 x13_3).f1), .int .u64 ((rd_T37 l1 x13_3).f2), .int .u64 0, .bool false, .slice none 0 0, .int .i64 0, .int .u64 0, .bool false, .int .u64 0]) ?_ 3 _ rfl; (with_reducible repeat (first | refine blk_drewN ?_ _ | refine blk_drew ?_ | refine blk_alloc ?_ _)); refine blk_put (cs := #[.string ((rd_T37 l1 x13_3).f0), .string ((rd_T37 l1 x13_3).f1), .int .u64 0, .int .u64 0, .bool false, .slice none 0 0, .int .i64 0, .int .u64 0, .bool false, .int .u64 0]) ?_ 2 _ rfl; (with_reducible repeat (first | refine blk_drewN ?_ _ | refine blk_drew ?_ | refine blk_alloc ?_ _)); refine blk_put (cs := #[.string ((rd_T37 l1 x13_3).f0), .string (⟨#[]⟩ : ByteArray), .int .u64 0, .int .u64 0, .bool false, .slice none 0 0, .int .i64 0, .int .u64 0, .bool false, .int .u64 0]) ?_ 1 _ rfl; (with_reducible repeat (first | refine blk_drewN ?_ _ | refine blk_drew ?_ | refine blk_alloc ?_ _)); refine blk_put (cs := #[.string (⟨#[]⟩ : ByteArray), .string (⟨#[]⟩ : ByteArray), .int .u64 0, .int .u64 0, .bool false, .slice none 0 0, .int .i64 0, .int .u64 0, .bool false, .int .u64 0]) ?_ 0 _ rfl; (with_reducible repeat (first | refine blk_drewN ?_ _ | refine blk_drew ?_ | refine blk_alloc ?_ _)); exact BK162.out⟩, ⟨by repeat (first | (with_reducible first | exact HB.out | apply below_alloc | apply pw_below_drewN | apply below_drew1 | refine below_set ?_ GE146.out | refine below_set ?_ GE162.out) | exact HB.out)⟩⟩
                          · replace c36 := Bool.eq_false_iff.mpr c36
                            subst c36
                            have H1 : ((steleref15_Active.f ((rd_T37 l1 x13_3).f6.f0) ((rd_T37 l1 x13_3).f6.f1) a2).bind fun t164 => (if t164 = true then (stelelaw17_ExpiryStands.j4 k3 l1 a2 a3 t151 t154 x13_3 true a0_0 a0_1 a0_2 a0_3 a0_4 a0_5 a0_6 a0_7 a0_8 ((rd_T37 l1 x13_3).f0) ((rd_T37 l1 x13_3).f1) ((rd_T37 l1 x13_3).f2) ((rd_T37 l1 x13_3).f3) ((rd_T37 l1 x13_3).f4) ((rd_T37 l1 x13_3).f5) ((rd_T37 l1 x13_3).f6.f0) ((rd_T37 l1 x13_3).f6.f1) false ((rd_T37 l1 x13_3).f8)) else (stelelaw17_ExpiryStands.j4 k3 l1 a2 a3 t151 t154 x13_3 (((rd_T37 l1 x13_3).f0).toList != a0_0.toList) a0_0 a0_1 a0_2 a0_3 a0_4 a0_5 a0_6 a0_7 a0_8 ((rd_T37 l1 x13_3).f0) ((rd_T37 l1 x13_3).f1) ((rd_T37 l1 x13_3).f2) ((rd_T37 l1 x13_3).f3) ((rd_T37 l1 x13_3).f4) ((rd_T37 l1 x13_3).f5) ((rd_T37 l1 x13_3).f6.f0) ((rd_T37 l1 x13_3).f6.f1) false ((rd_T37 l1 x13_3).f8)))) = some r := by rw [if_neg (show ¬ (false = true) by decide)] at H; exact H
                            clear H
                            have H := H1
                            clear H1
                            replace H := Option.bind_eq_some_iff.mp H
                            obtain ⟨t164, A400, H⟩ := H
                            replace H : (if t164 = true then (stelelaw17_ExpiryStands.j4 k3 l1 a2 a3 t151 t154 x13_3 true a0_0 a0_1 a0_2 a0_3 a0_4 a0_5 a0_6 a0_7 a0_8 ((rd_T37 l1 x13_3).f0) ((rd_T37 l1 x13_3).f1) ((rd_T37 l1 x13_3).f2) ((rd_T37 l1 x13_3).f3) ((rd_T37 l1 x13_3).f4) ((rd_T37 l1 x13_3).f5) ((rd_T37 l1 x13_3).f6.f0) ((rd_T37 l1 x13_3).f6.f1) false ((rd_T37 l1 x13_3).f8)) else (stelelaw17_ExpiryStands.j4 k3 l1 a2 a3 t151 t154 x13_3 (((rd_T37 l1 x13_3).f0).toList != a0_0.toList) a0_0 a0_1 a0_2 a0_3 a0_4 a0_5 a0_6 a0_7 a0_8 ((rd_T37 l1 x13_3).f0) ((rd_T37 l1 x13_3).f1) ((rd_T37 l1 x13_3).f2) ((rd_T37 l1 x13_3).f3) ((rd_T37 l1 x13_3).f4) ((rd_T37 l1 x13_3).f5) ((rd_T37 l1 x13_3).f6.f0) ((rd_T37 l1 x13_3).f6.f1) false ((rd_T37 l1 x13_3).f8))) = some r := H
                            have A40 := Aside0.mk A400
                            clear A400
                            by_cases c41 : t164 = true
                            · subst c41
                              have H1 : (stelelaw17_ExpiryStands.j4 k3 l1 a2 a3 t151 t154 x13_3 true a0_0 a0_1 a0_2 a0_3 a0_4 a0_5 a0_6 a0_7 a0_8 ((rd_T37 l1 x13_3).f0) ((rd_T37 l1 x13_3).f1) ((rd_T37 l1 x13_3).f2) ((rd_T37 l1 x13_3).f3) ((rd_T37 l1 x13_3).f4) ((rd_T37 l1 x13_3).f5) ((rd_T37 l1 x13_3).f6.f0) ((rd_T37 l1 x13_3).f6.f1) false ((rd_T37 l1 x13_3).f8)) = some r := by rw [if_pos rfl] at H; exact H
                              clear H
                              have H := H1
                              clear H1
                              have H' := Aside0.mk H
                              clear H
                              have hnb42 := NB162_146.out
                              have hnc42 := NB146_162.out
                              have hcz43_0 : w30.cell? ⟨gb162, 0, none⟩ = some (.string (⟨#[]⟩ : ByteArray)) := (blk_cell BK162.out 0).trans rfl
                              have hcz43_1 : w30.cell? ⟨gb162, 1, none⟩ = some (.string (⟨#[]⟩ : ByteArray)) := (blk_cell BK162.out 1).trans rfl
                              have hcz43_2 : w30.cell? ⟨gb162, 2, none⟩ = some (.int .u64 0) := (blk_cell BK162.out 2).trans rfl
                              have hcz43_3 : w30.cell? ⟨gb162, 3, none⟩ = some (.int .u64 0) := (blk_cell BK162.out 3).trans rfl
                              have hcz43_4 : w30.cell? ⟨gb162, 4, none⟩ = some (.bool false) := (blk_cell BK162.out 4).trans rfl
                              have hcz43_5 : w30.cell? ⟨gb162, 5, none⟩ = some (.slice none 0 0) := (blk_cell BK162.out 5).trans rfl
                              have hcz43_6 : w30.cell? ⟨gb162, 6, none⟩ = some (.int .i64 0) := (blk_cell BK162.out 6).trans rfl
                              have hcz43_7 : w30.cell? ⟨gb162, 7, none⟩ = some (.int .u64 0) := (blk_cell BK162.out 7).trans rfl
                              have hcz43_8 : w30.cell? ⟨gb162, 8, none⟩ = some (.bool false) := (blk_cell BK162.out 8).trans rfl
                              have hcz43_9 : w30.cell? ⟨gb162, 9, none⟩ = some (.int .u64 0) := (blk_cell BK162.out 9).trans rfl
                              have hfz43_0 := blk_frozen BK162.out 0
                              have hfz43_1 := blk_frozen BK162.out 1
                              have hfz43_2 := blk_frozen BK162.out 2
                              have hfz43_3 := blk_frozen BK162.out 3
                              have hfz43_4 := blk_frozen BK162.out 4
                              have hfz43_5 := blk_frozen BK162.out 5
                              have hfz43_6 := blk_frozen BK162.out 6
                              have hfz43_7 := blk_frozen BK162.out 7
                              have hfz43_8 := blk_frozen BK162.out 8
                              have hfz43_9 := blk_frozen BK162.out 9
                              obtain ⟨Ao44, co44, eo44⟩ := Kd.R_slice HO_11.out
                              subst eo44
                              go_wp2_with (first | ((with_reducible refine gate_callee (f := 12) rfl ?_); refine goesL_ (some 68) rfl rfl Try.func12 (by kernel_rfl) rfl #[.slice Ao44 t151.length co44, .int .u64 ((rd_T37 l1 x13_3).f3)] rfl (by (try simp only [List.map_toArray, List.map_cons, List.map_nil]); first | done | rfl | (simp only [List.length_drop, List.length_take]; rfl)) ?_; (with_reducible refine (stelelaw17_in.calls k3 _ _ t151 ((rd_T37 l1 x13_3).f3) true _ ?side1 ?side2 A33.out).mono ?_); (case side1 => refine (Kd.R_reads' (e := 28) (base := w.heap.size) (ok := fun k_ => some k_ ≠ (v155 : Value).ownBlock) (n := t151.length) (c := co44) ?_).2.2; exact (by (with_reducible repeat (first | apply Kd.R_alloc | apply Kd.R_drewN | apply Kd.R_drew)); exact (Kd.R_mono (Kd.R_far (p := ⟨gb162, 9, none⟩) (Kd.R_far (p := ⟨gb162, 8, none⟩) (Kd.R_far (p := ⟨gb162, 7, none⟩) (Kd.R_far (p := ⟨gb162, 6, none⟩) (Kd.R_far (p := ⟨gb162, 5, none⟩) (Kd.R_far (p := ⟨gb162, 4, none⟩) (Kd.R_far (p := ⟨gb162, 3, none⟩) (Kd.R_far (p := ⟨gb162, 2, none⟩) (Kd.R_far (p := ⟨gb162, 1, none⟩) (Kd.R_far (p := ⟨gb162, 0, none⟩) (Kd.R_types HO_11.out BK162.out (by decide)) (fun _ hk => hk.2) (.string ((rd_T37 l1 x13_3).f0))) (fun _ hk => hk.2) (.string ((rd_T37 l1 x13_3).f1))) (fun _ hk => hk.2) (.int .u64 ((rd_T37 l1 x13_3).f2))) (fun _ hk => hk.2) (.int .u64 ((rd_T37 l1 x13_3).f3))) (fun _ hk => hk.2) (.bool ((rd_T37 l1 x13_3).f4))) (fun _ hk => hk.2) (.slice A161_5 ((rd_T37 l1 x13_3).f5).length c161_5)) (fun _ hk => hk.2) (.int .i64 ((rd_T37 l1 x13_3).f6.f0))) (fun _ hk => hk.2) (.int .u64 ((rd_T37 l1 x13_3).f6.f1))) (fun _ hk => hk.2) (.bool (false))) (fun _ hk => hk.2) (.int .u64 ((rd_T37 l1 x13_3).f8))) (fun _ h_ => h_.1)))); (case side2 => exact (Kd.R_reads' HO_11.out).2.1); rintro e w' ⟨rfl, ⟨nd, rfl⟩⟩; refine ⟨_, rfl, ?_⟩) | (go_at_call 13; (with_reducible refine (steleref15_Active.calls ((rd_T37 l1 x13_3).f6.f0) ((rd_T37 l1 x13_3).f6.f1) a2 true _ A40.out).mono ?_); rintro e w45 ⟨rfl, hb⟩; have n0_ := Aside0.mk (Kd.R_below (by (with_reducible repeat (first | apply Kd.R_alloc | apply Kd.R_drewN | apply Kd.R_drew)); exact (Kd.R_mono (Kd.R_far (p := ⟨gb162, 9, none⟩) (Kd.R_far (p := ⟨gb162, 8, none⟩) (Kd.R_far (p := ⟨gb162, 7, none⟩) (Kd.R_far (p := ⟨gb162, 6, none⟩) (Kd.R_far (p := ⟨gb162, 5, none⟩) (Kd.R_far (p := ⟨gb162, 4, none⟩) (Kd.R_far (p := ⟨gb162, 3, none⟩) (Kd.R_far (p := ⟨gb162, 2, none⟩) (Kd.R_far (p := ⟨gb162, 1, none⟩) (Kd.R_far (p := ⟨gb162, 0, none⟩) (Kd.R_types HO_11.out BK162.out (by decide)) (fun _ hk => hk.2) (.string ((rd_T37 l1 x13_3).f0))) (fun _ hk => hk.2) (.string ((rd_T37 l1 x13_3).f1))) (fun _ hk => hk.2) (.int .u64 ((rd_T37 l1 x13_3).f2))) (fun _ hk => hk.2) (.int .u64 ((rd_T37 l1 x13_3).f3))) (fun _ hk => hk.2) (.bool ((rd_T37 l1 x13_3).f4))) (fun _ hk => hk.2) (.slice A161_5 ((rd_T37 l1 x13_3).f5).length c161_5)) (fun _ hk => hk.2) (.int .i64 ((rd_T37 l1 x13_3).f6.f0))) (fun _ hk => hk.2) (.int .u64 ((rd_T37 l1 x13_3).f6.f1))) (fun _ hk => hk.2) (.bool (false))) (fun _ hk => hk.2) (.int .u64 ((rd_T37 l1 x13_3).f8))) (fun _ h_ => h_.1))) hb); have n1_ := Aside0.mk (Kd.R_below (by (with_reducible repeat (first | apply Kd.R_alloc | apply Kd.R_drewN | apply Kd.R_drew)); exact (Kd.R_mono (Kd.R_far (p := ⟨gb162, 9, none⟩) (Kd.R_far (p := ⟨gb162, 8, none⟩) (Kd.R_far (p := ⟨gb162, 7, none⟩) (Kd.R_far (p := ⟨gb162, 6, none⟩) (Kd.R_far (p := ⟨gb162, 5, none⟩) (Kd.R_far (p := ⟨gb162, 4, none⟩) (Kd.R_far (p := ⟨gb162, 3, none⟩) (Kd.R_far (p := ⟨gb162, 2, none⟩) (Kd.R_far (p := ⟨gb162, 1, none⟩) (Kd.R_far (p := ⟨gb162, 0, none⟩) (Kd.R_types HO_12.out BK162.out (by decide)) (fun _ hk => hk.2) (.string ((rd_T37 l1 x13_3).f0))) (fun _ hk => hk.2) (.string ((rd_T37 l1 x13_3).f1))) (fun _ hk => hk.2) (.int .u64 ((rd_T37 l1 x13_3).f2))) (fun _ hk => hk.2) (.int .u64 ((rd_T37 l1 x13_3).f3))) (fun _ hk => hk.2) (.bool ((rd_T37 l1 x13_3).f4))) (fun _ hk => hk.2) (.slice A161_5 ((rd_T37 l1 x13_3).f5).length c161_5)) (fun _ hk => hk.2) (.int .i64 ((rd_T37 l1 x13_3).f6.f0))) (fun _ hk => hk.2) (.int .u64 ((rd_T37 l1 x13_3).f6.f1))) (fun _ hk => hk.2) (.bool (false))) (fun _ hk => hk.2) (.int .u64 ((rd_T37 l1 x13_3).f8))) (fun _ h_ => h_.1))) hb); have n2_ := Aside0.mk (blk_below (g := gb146) (o := .cells #[.string a0_0, .int .i64 a0_1, .bool a0_2, .bool a0_3, .int .i64 a0_4, .int .i64 a0_5, .string a0_6, .int .i64 a0_7, .int .i64 a0_8] 27 (0, 0)) (by (with_reducible repeat (first | refine blk_drewN ?_ _ | refine blk_drew ?_ | refine blk_alloc ?_ _)); refine blk_far ?_ NB146_162.out _; (with_reducible repeat (first | refine blk_drewN ?_ _ | refine blk_drew ?_ | refine blk_alloc ?_ _)); refine blk_far ?_ NB146_162.out _; (with_reducible repeat (first | refine blk_drewN ?_ _ | refine blk_drew ?_ | refine blk_alloc ?_ _)); refine blk_far ?_ NB146_162.out _; (with_reducible repeat (first | refine blk_drewN ?_ _ | refine blk_drew ?_ | refine blk_alloc ?_ _)); refine blk_far ?_ NB146_162.out _; (with_reducible repeat (first | refine blk_drewN ?_ _ | refine blk_drew ?_ | refine blk_alloc ?_ _)); refine blk_far ?_ NB146_162.out _; (with_reducible repeat (first | refine blk_drewN ?_ _ | refine blk_drew ?_ | refine blk_alloc ?_ _)); refine blk_far ?_ NB146_162.out _; (with_reducible repeat (first | refine blk_drewN ?_ _ | refine blk_drew ?_ | refine blk_alloc ?_ _)); refine blk_far ?_ NB146_162.out _; (with_reducible repeat (first | refine blk_drewN ?_ _ | refine blk_drew ?_ | refine blk_alloc ?_ _)); refine blk_far ?_ NB146_162.out _; (with_reducible repeat (first | refine blk_drewN ?_ _ | refine blk_drew ?_ | refine blk_alloc ?_ _)); refine blk_far ?_ NB146_162.out _; (with_reducible repeat (first | refine blk_drewN ?_ _ | refine blk_drew ?_ | refine blk_alloc ?_ _)); refine blk_far ?_ NB146_162.out _; (with_reducible repeat (first | refine blk_drewN ?_ _ | refine blk_drew ?_ | refine blk_alloc ?_ _)); exact BK146.out) hb); have n3_ := Aside0.mk (blk_below (g := gb162) (o := .cells #[.string ((rd_T37 l1 x13_3).f0), .string ((rd_T37 l1 x13_3).f1), .int .u64 ((rd_T37 l1 x13_3).f2), .int .u64 ((rd_T37 l1 x13_3).f3), .bool ((rd_T37 l1 x13_3).f4), .slice A161_5 ((rd_T37 l1 x13_3).f5).length c161_5, .int .i64 ((rd_T37 l1 x13_3).f6.f0), .int .u64 ((rd_T37 l1 x13_3).f6.f1), .bool false, .int .u64 ((rd_T37 l1 x13_3).f8)] 37 (0, 0)) (by (with_reducible repeat (first | refine blk_drewN ?_ _ | refine blk_drew ?_ | refine blk_alloc ?_ _)); refine blk_put (cs := #[.string ((rd_T37 l1 x13_3).f0), .string ((rd_T37 l1 x13_3).f1), .int .u64 ((rd_T37 l1 x13_3).f2), .int .u64 ((rd_T37 l1 x13_3).f3), .bool ((rd_T37 l1 x13_3).f4), .slice A161_5 ((rd_T37 l1 x13_3).f5).length c161_5, .int .i64 ((rd_T37 l1 x13_3).f6.f0), .int .u64 ((rd_T37 l1 x13_3).f6.f1), .bool (false), .int .u64 0]) ?_ 9 _ rfl; (with_reducible repeat (first | refine blk_drewN ?_ _ | refine blk_drew ?_ | refine blk_alloc ?_ _)); refine blk_put (cs := #[.string ((rd_T37 l1 x13_3).f0), .string ((rd_T37 l1 x13_3).f1), .int .u64 ((rd_T37 l1 x13_3).f2), .int .u64 ((rd_T37 l1 x13_3).f3), .bool ((rd_T37 l1 x13_3).f4), .slice A161_5 ((rd_T37 l1 x13_3).f5).length c161_5, .int .i64 ((rd_T37 l1 x13_3).f6.f0), .int .u64 ((rd_T37 l1 x13_3).f6.f1), .bool false, .int .u64 0]) ?_ 8 _ rfl; (with_reducible repeat (first | refine blk_drewN ?_ _ | refine blk_drew ?_ | refine blk_alloc ?_ _)); refine blk_put (cs := #[.string ((rd_T37 l1 x13_3).f0), .string ((rd_T37 l1 x13_3).f1), .int .u64 ((rd_T37 l1 x13_3).f2), .int .u64 ((rd_T37 l1 x13_3).f3), .bool ((rd_T37 l1 x13_3).f4), .slice A161_5 ((rd_T37 l1 x13_3).f5).length c161_5, .int .i64 ((rd_T37 l1 x13_3).f6.f0), .int .u64 0, .bool false, .int .u64 0]) ?_ 7 _ rfl; (with_reducible repeat (first | refine blk_drewN ?_ _ | refine blk_drew ?_ | refine blk_alloc ?_ _)); refine blk_put (cs := #[.string ((rd_T37 l1 x13_3).f0), .string ((rd_T37 l1 x13_3).f1), .int .u64 ((rd_T37 l1 x13_3).f2), .int .u64 ((rd_T37 l1 x13_3).f3), .bool ((rd_T37 l1 x13_3).f4), .slice A161_5 ((rd_T37 l1 x13_3).f5).length c161_5, .int .i64 0, .int .u64 0, .bool false, .int .u64 0]) ?_ 6 _ rfl; (with_reducible repeat (first | refine blk_drewN ?_ _ | refine blk_drew ?_ | refine blk_alloc ?_ _)); refine blk_put (cs := #[.string ((rd_T37 l1 x13_3).f0), .string ((rd_T37 l1 x13_3).f1), .int .u64 ((rd_T37 l1 x13_3).f2), .int .u64 ((rd_T37 l1 x13_3).f3), .bool ((rd_T37 l1 x13_3).f4), .slice none 0 0, .int .i64 0, .int .u64 0, .bool false, .int .u64 0]) ?_ 5 _ rfl; (with_reducible repeat (first | refine blk_drewN ?_ _ | refine blk_drew ?_ | refine blk_alloc ?_ _)); refine blk_put (cs := #[.string ((rd_T37 l1 x13_3).f0), .string ((rd_T37 l1 x13_3).f1), .int .u64 ((rd_T37 l1 x13_3).f2), .int .u64 ((rd_T37 l1 x13_3).f3), .bool false, .slice none 0 0, .int .i64 0, .int .u64 0, .bool false, .int .u64 0]) ?_ 4 _ rfl; (with_reducible repeat (first | refine blk_drewN ?_ _ | refine blk_drew ?_ | refine blk_alloc ?_ _)); refine blk_put (cs := #[.string ((rd_T37 l1 x13_3).f0), .string ((rd_T37 l1 x13_3).f1), .int .u64 ((rd_T37 l1 x13_3).f2), .int .u64 0, .bool false, .slice none 0 0, .int .i64 0, .int .u64 0, .bool false, .int .u64 0]) ?_ 3 _ rfl; (with_reducible repeat (first | refine blk_drewN ?_ _ | refine blk_drew ?_ | refine blk_alloc ?_ _)); refine blk_put (cs := #[.string ((rd_T37 l1 x13_3).f0), .string ((rd_T37 l1 x13_3).f1), .int .u64 0, .int .u64 0, .bool false, .slice none 0 0, .int .i64 0, .int .u64 0, .bool false, .int .u64 0]) ?_ 2 _ rfl; (with_reducible repeat (first | refine blk_drewN ?_ _ | refine blk_drew ?_ | refine blk_alloc ?_ _)); refine blk_put (cs := #[.string ((rd_T37 l1 x13_3).f0), .string (⟨#[]⟩ : ByteArray), .int .u64 0, .int .u64 0, .bool false, .slice none 0 0, .int .i64 0, .int .u64 0, .bool false, .int .u64 0]) ?_ 1 _ rfl; (with_reducible repeat (first | refine blk_drewN ?_ _ | refine blk_drew ?_ | refine blk_alloc ?_ _)); refine blk_put (cs := #[.string (⟨#[]⟩ : ByteArray), .string (⟨#[]⟩ : ByteArray), .int .u64 0, .int .u64 0, .bool false, .slice none 0 0, .int .i64 0, .int .u64 0, .bool false, .int .u64 0]) ?_ 0 _ rfl; (with_reducible repeat (first | refine blk_drewN ?_ _ | refine blk_drew ?_ | refine blk_alloc ?_ _)); exact BK162.out) hb); have n4_ := Aside0.mk (below_step (by repeat (first | (with_reducible first | exact HB.out | apply below_alloc | apply pw_below_drewN | apply below_drew1 | refine below_set ?_ GE146.out | refine below_set ?_ GE162.out) | exact HB.out)) hb); clear HO_11; clear HO_12; clear BK146; clear BK162; clear HB; have HO_11 := n0_; have HO_12 := n1_; have BK146 := n2_; have BK162 := n3_; have HB := n4_; clear n0_ n1_ n2_ n3_ n4_; (try clear hb); (try clear hb2); (try clear hk); (try clear hi)))
                              go_meet
                              case rel => (try rw [← Nbq35.out]); exact ⟨_, (true), (by first | rfl | (simp; done) | (simp [*]; done)), H', ⟨by have := HJ4.out; have := HK2.out; have := HK3.out; first | omega | exact Nat.le_refl _⟩, ⟨by (with_reducible repeat (first | apply Kd.R_alloc | apply Kd.R_drewN | apply Kd.R_drew)); exact HO_11.out⟩, ⟨by (with_reducible repeat (first | apply Kd.R_alloc | apply Kd.R_drewN | apply Kd.R_drew)); exact HO_12.out⟩, ⟨by (with_reducible repeat (first | refine blk_drewN ?_ _ | refine blk_drew ?_ | refine blk_alloc ?_ _)); exact BK146.out⟩, ⟨by (with_reducible repeat (first | refine blk_drewN ?_ _ | refine blk_drew ?_ | refine blk_alloc ?_ _)); exact BK162.out⟩, ⟨by repeat (first | (with_reducible first | exact HB.out | apply below_alloc | apply pw_below_drewN | apply below_drew1 | refine below_set ?_ GE146.out | refine below_set ?_ GE162.out) | exact HB.out)⟩⟩
                            · replace c41 := Bool.eq_false_iff.mpr c41
                              subst c41
                              have H1 : (stelelaw17_ExpiryStands.j4 k3 l1 a2 a3 t151 t154 x13_3 (((rd_T37 l1 x13_3).f0).toList != a0_0.toList) a0_0 a0_1 a0_2 a0_3 a0_4 a0_5 a0_6 a0_7 a0_8 ((rd_T37 l1 x13_3).f0) ((rd_T37 l1 x13_3).f1) ((rd_T37 l1 x13_3).f2) ((rd_T37 l1 x13_3).f3) ((rd_T37 l1 x13_3).f4) ((rd_T37 l1 x13_3).f5) ((rd_T37 l1 x13_3).f6.f0) ((rd_T37 l1 x13_3).f6.f1) false ((rd_T37 l1 x13_3).f8)) = some r := by rw [if_neg (show ¬ (false = true) by decide)] at H; exact H
                              clear H
                              have H := H1
                              clear H1
                              have H' := Aside0.mk H
                              clear H
                              have hnb46 := NB162_146.out
                              have hnc46 := NB146_162.out
                              have hcz47_0 : w30.cell? ⟨gb162, 0, none⟩ = some (.string (⟨#[]⟩ : ByteArray)) := (blk_cell BK162.out 0).trans rfl
                              have hcz47_1 : w30.cell? ⟨gb162, 1, none⟩ = some (.string (⟨#[]⟩ : ByteArray)) := (blk_cell BK162.out 1).trans rfl
                              have hcz47_2 : w30.cell? ⟨gb162, 2, none⟩ = some (.int .u64 0) := (blk_cell BK162.out 2).trans rfl
                              have hcz47_3 : w30.cell? ⟨gb162, 3, none⟩ = some (.int .u64 0) := (blk_cell BK162.out 3).trans rfl
                              have hcz47_4 : w30.cell? ⟨gb162, 4, none⟩ = some (.bool false) := (blk_cell BK162.out 4).trans rfl
                              have hcz47_5 : w30.cell? ⟨gb162, 5, none⟩ = some (.slice none 0 0) := (blk_cell BK162.out 5).trans rfl
                              have hcz47_6 : w30.cell? ⟨gb162, 6, none⟩ = some (.int .i64 0) := (blk_cell BK162.out 6).trans rfl
                              have hcz47_7 : w30.cell? ⟨gb162, 7, none⟩ = some (.int .u64 0) := (blk_cell BK162.out 7).trans rfl
                              have hcz47_8 : w30.cell? ⟨gb162, 8, none⟩ = some (.bool false) := (blk_cell BK162.out 8).trans rfl
                              have hcz47_9 : w30.cell? ⟨gb162, 9, none⟩ = some (.int .u64 0) := (blk_cell BK162.out 9).trans rfl
                              have hfz47_0 := blk_frozen BK162.out 0
                              have hfz47_1 := blk_frozen BK162.out 1
                              have hfz47_2 := blk_frozen BK162.out 2
                              have hfz47_3 := blk_frozen BK162.out 3
                              have hfz47_4 := blk_frozen BK162.out 4
                              have hfz47_5 := blk_frozen BK162.out 5
                              have hfz47_6 := blk_frozen BK162.out 6
                              have hfz47_7 := blk_frozen BK162.out 7
                              have hfz47_8 := blk_frozen BK162.out 8
                              have hfz47_9 := blk_frozen BK162.out 9
                              obtain ⟨Ao48, co48, eo48⟩ := Kd.R_slice HO_11.out
                              subst eo48
                              go_wp2_with (first | ((with_reducible refine gate_callee (f := 12) rfl ?_); refine goesL_ (some 68) rfl rfl Try.func12 (by kernel_rfl) rfl #[.slice Ao48 t151.length co48, .int .u64 ((rd_T37 l1 x13_3).f3)] rfl (by (try simp only [List.map_toArray, List.map_cons, List.map_nil]); first | done | rfl | (simp only [List.length_drop, List.length_take]; rfl)) ?_; (with_reducible refine (stelelaw17_in.calls k3 _ _ t151 ((rd_T37 l1 x13_3).f3) true _ ?side1 ?side2 A33.out).mono ?_); (case side1 => refine (Kd.R_reads' (e := 28) (base := w.heap.size) (ok := fun k_ => some k_ ≠ (v155 : Value).ownBlock) (n := t151.length) (c := co48) ?_).2.2; exact (by (with_reducible repeat (first | apply Kd.R_alloc | apply Kd.R_drewN | apply Kd.R_drew)); exact (Kd.R_mono (Kd.R_far (p := ⟨gb162, 9, none⟩) (Kd.R_far (p := ⟨gb162, 8, none⟩) (Kd.R_far (p := ⟨gb162, 7, none⟩) (Kd.R_far (p := ⟨gb162, 6, none⟩) (Kd.R_far (p := ⟨gb162, 5, none⟩) (Kd.R_far (p := ⟨gb162, 4, none⟩) (Kd.R_far (p := ⟨gb162, 3, none⟩) (Kd.R_far (p := ⟨gb162, 2, none⟩) (Kd.R_far (p := ⟨gb162, 1, none⟩) (Kd.R_far (p := ⟨gb162, 0, none⟩) (Kd.R_types HO_11.out BK162.out (by decide)) (fun _ hk => hk.2) (.string ((rd_T37 l1 x13_3).f0))) (fun _ hk => hk.2) (.string ((rd_T37 l1 x13_3).f1))) (fun _ hk => hk.2) (.int .u64 ((rd_T37 l1 x13_3).f2))) (fun _ hk => hk.2) (.int .u64 ((rd_T37 l1 x13_3).f3))) (fun _ hk => hk.2) (.bool ((rd_T37 l1 x13_3).f4))) (fun _ hk => hk.2) (.slice A161_5 ((rd_T37 l1 x13_3).f5).length c161_5)) (fun _ hk => hk.2) (.int .i64 ((rd_T37 l1 x13_3).f6.f0))) (fun _ hk => hk.2) (.int .u64 ((rd_T37 l1 x13_3).f6.f1))) (fun _ hk => hk.2) (.bool (false))) (fun _ hk => hk.2) (.int .u64 ((rd_T37 l1 x13_3).f8))) (fun _ h_ => h_.1)))); (case side2 => exact (Kd.R_reads' HO_11.out).2.1); rintro e w' ⟨rfl, ⟨nd, rfl⟩⟩; refine ⟨_, rfl, ?_⟩) | (go_at_call 13; (with_reducible refine (steleref15_Active.calls ((rd_T37 l1 x13_3).f6.f0) ((rd_T37 l1 x13_3).f6.f1) a2 false _ A40.out).mono ?_); rintro e w49 ⟨rfl, hb⟩; have n0_ := Aside0.mk (Kd.R_below (by (with_reducible repeat (first | apply Kd.R_alloc | apply Kd.R_drewN | apply Kd.R_drew)); exact (Kd.R_mono (Kd.R_far (p := ⟨gb162, 9, none⟩) (Kd.R_far (p := ⟨gb162, 8, none⟩) (Kd.R_far (p := ⟨gb162, 7, none⟩) (Kd.R_far (p := ⟨gb162, 6, none⟩) (Kd.R_far (p := ⟨gb162, 5, none⟩) (Kd.R_far (p := ⟨gb162, 4, none⟩) (Kd.R_far (p := ⟨gb162, 3, none⟩) (Kd.R_far (p := ⟨gb162, 2, none⟩) (Kd.R_far (p := ⟨gb162, 1, none⟩) (Kd.R_far (p := ⟨gb162, 0, none⟩) (Kd.R_types HO_11.out BK162.out (by decide)) (fun _ hk => hk.2) (.string ((rd_T37 l1 x13_3).f0))) (fun _ hk => hk.2) (.string ((rd_T37 l1 x13_3).f1))) (fun _ hk => hk.2) (.int .u64 ((rd_T37 l1 x13_3).f2))) (fun _ hk => hk.2) (.int .u64 ((rd_T37 l1 x13_3).f3))) (fun _ hk => hk.2) (.bool ((rd_T37 l1 x13_3).f4))) (fun _ hk => hk.2) (.slice A161_5 ((rd_T37 l1 x13_3).f5).length c161_5)) (fun _ hk => hk.2) (.int .i64 ((rd_T37 l1 x13_3).f6.f0))) (fun _ hk => hk.2) (.int .u64 ((rd_T37 l1 x13_3).f6.f1))) (fun _ hk => hk.2) (.bool (false))) (fun _ hk => hk.2) (.int .u64 ((rd_T37 l1 x13_3).f8))) (fun _ h_ => h_.1))) hb); have n1_ := Aside0.mk (Kd.R_below (by (with_reducible repeat (first | apply Kd.R_alloc | apply Kd.R_drewN | apply Kd.R_drew)); exact (Kd.R_mono (Kd.R_far (p := ⟨gb162, 9, none⟩) (Kd.R_far (p := ⟨gb162, 8, none⟩) (Kd.R_far (p := ⟨gb162, 7, none⟩) (Kd.R_far (p := ⟨gb162, 6, none⟩) (Kd.R_far (p := ⟨gb162, 5, none⟩) (Kd.R_far (p := ⟨gb162, 4, none⟩) (Kd.R_far (p := ⟨gb162, 3, none⟩) (Kd.R_far (p := ⟨gb162, 2, none⟩) (Kd.R_far (p := ⟨gb162, 1, none⟩) (Kd.R_far (p := ⟨gb162, 0, none⟩) (Kd.R_types HO_12.out BK162.out (by decide)) (fun _ hk => hk.2) (.string ((rd_T37 l1 x13_3).f0))) (fun _ hk => hk.2) (.string ((rd_T37 l1 x13_3).f1))) (fun _ hk => hk.2) (.int .u64 ((rd_T37 l1 x13_3).f2))) (fun _ hk => hk.2) (.int .u64 ((rd_T37 l1 x13_3).f3))) (fun _ hk => hk.2) (.bool ((rd_T37 l1 x13_3).f4))) (fun _ hk => hk.2) (.slice A161_5 ((rd_T37 l1 x13_3).f5).length c161_5)) (fun _ hk => hk.2) (.int .i64 ((rd_T37 l1 x13_3).f6.f0))) (fun _ hk => hk.2) (.int .u64 ((rd_T37 l1 x13_3).f6.f1))) (fun _ hk => hk.2) (.bool (false))) (fun _ hk => hk.2) (.int .u64 ((rd_T37 l1 x13_3).f8))) (fun _ h_ => h_.1))) hb); have n2_ := Aside0.mk (blk_below (g := gb146) (o := .cells #[.string a0_0, .int .i64 a0_1, .bool a0_2, .bool a0_3, .int .i64 a0_4, .int .i64 a0_5, .string a0_6, .int .i64 a0_7, .int .i64 a0_8] 27 (0, 0)) (by (with_reducible repeat (first | refine blk_drewN ?_ _ | refine blk_drew ?_ | refine blk_alloc ?_ _)); refine blk_far ?_ NB146_162.out _; (with_reducible repeat (first | refine blk_drewN ?_ _ | refine blk_drew ?_ | refine blk_alloc ?_ _)); refine blk_far ?_ NB146_162.out _; (with_reducible repeat (first | refine blk_drewN ?_ _ | refine blk_drew ?_ | refine blk_alloc ?_ _)); refine blk_far ?_ NB146_162.out _; (with_reducible repeat (first | refine blk_drewN ?_ _ | refine blk_drew ?_ | refine blk_alloc ?_ _)); refine blk_far ?_ NB146_162.out _; (with_reducible repeat (first | refine blk_drewN ?_ _ | refine blk_drew ?_ | refine blk_alloc ?_ _)); refine blk_far ?_ NB146_162.out _; (with_reducible repeat (first | refine blk_drewN ?_ _ | refine blk_drew ?_ | refine blk_alloc ?_ _)); refine blk_far ?_ NB146_162.out _; (with_reducible repeat (first | refine blk_drewN ?_ _ | refine blk_drew ?_ | refine blk_alloc ?_ _)); refine blk_far ?_ NB146_162.out _; (with_reducible repeat (first | refine blk_drewN ?_ _ | refine blk_drew ?_ | refine blk_alloc ?_ _)); refine blk_far ?_ NB146_162.out _; (with_reducible repeat (first | refine blk_drewN ?_ _ | refine blk_drew ?_ | refine blk_alloc ?_ _)); refine blk_far ?_ NB146_162.out _; (with_reducible repeat (first | refine blk_drewN ?_ _ | refine blk_drew ?_ | refine blk_alloc ?_ _)); refine blk_far ?_ NB146_162.out _; (with_reducible repeat (first | refine blk_drewN ?_ _ | refine blk_drew ?_ | refine blk_alloc ?_ _)); exact BK146.out) hb); have n3_ := Aside0.mk (blk_below (g := gb162) (o := .cells #[.string ((rd_T37 l1 x13_3).f0), .string ((rd_T37 l1 x13_3).f1), .int .u64 ((rd_T37 l1 x13_3).f2), .int .u64 ((rd_T37 l1 x13_3).f3), .bool ((rd_T37 l1 x13_3).f4), .slice A161_5 ((rd_T37 l1 x13_3).f5).length c161_5, .int .i64 ((rd_T37 l1 x13_3).f6.f0), .int .u64 ((rd_T37 l1 x13_3).f6.f1), .bool false, .int .u64 ((rd_T37 l1 x13_3).f8)] 37 (0, 0)) (by (with_reducible repeat (first | refine blk_drewN ?_ _ | refine blk_drew ?_ | refine blk_alloc ?_ _)); refine blk_put (cs := #[.string ((rd_T37 l1 x13_3).f0), .string ((rd_T37 l1 x13_3).f1), .int .u64 ((rd_T37 l1 x13_3).f2), .int .u64 ((rd_T37 l1 x13_3).f3), .bool ((rd_T37 l1 x13_3).f4), .slice A161_5 ((rd_T37 l1 x13_3).f5).length c161_5, .int .i64 ((rd_T37 l1 x13_3).f6.f0), .int .u64 ((rd_T37 l1 x13_3).f6.f1), .bool (false), .int .u64 0]) ?_ 9 _ rfl; (with_reducible repeat (first | refine blk_drewN ?_ _ | refine blk_drew ?_ | refine blk_alloc ?_ _)); refine blk_put (cs := #[.string ((rd_T37 l1 x13_3).f0), .string ((rd_T37 l1 x13_3).f1), .int .u64 ((rd_T37 l1 x13_3).f2), .int .u64 ((rd_T37 l1 x13_3).f3), .bool ((rd_T37 l1 x13_3).f4), .slice A161_5 ((rd_T37 l1 x13_3).f5).length c161_5, .int .i64 ((rd_T37 l1 x13_3).f6.f0), .int .u64 ((rd_T37 l1 x13_3).f6.f1), .bool false, .int .u64 0]) ?_ 8 _ rfl; (with_reducible repeat (first | refine blk_drewN ?_ _ | refine blk_drew ?_ | refine blk_alloc ?_ _)); refine blk_put (cs := #[.string ((rd_T37 l1 x13_3).f0), .string ((rd_T37 l1 x13_3).f1), .int .u64 ((rd_T37 l1 x13_3).f2), .int .u64 ((rd_T37 l1 x13_3).f3), .bool ((rd_T37 l1 x13_3).f4), .slice A161_5 ((rd_T37 l1 x13_3).f5).length c161_5, .int .i64 ((rd_T37 l1 x13_3).f6.f0), .int .u64 0, .bool false, .int .u64 0]) ?_ 7 _ rfl; (with_reducible repeat (first | refine blk_drewN ?_ _ | refine blk_drew ?_ | refine blk_alloc ?_ _)); refine blk_put (cs := #[.string ((rd_T37 l1 x13_3).f0), .string ((rd_T37 l1 x13_3).f1), .int .u64 ((rd_T37 l1 x13_3).f2), .int .u64 ((rd_T37 l1 x13_3).f3), .bool ((rd_T37 l1 x13_3).f4), .slice A161_5 ((rd_T37 l1 x13_3).f5).length c161_5, .int .i64 0, .int .u64 0, .bool false, .int .u64 0]) ?_ 6 _ rfl; (with_reducible repeat (first | refine blk_drewN ?_ _ | refine blk_drew ?_ | refine blk_alloc ?_ _)); refine blk_put (cs := #[.string ((rd_T37 l1 x13_3).f0), .string ((rd_T37 l1 x13_3).f1), .int .u64 ((rd_T37 l1 x13_3).f2), .int .u64 ((rd_T37 l1 x13_3).f3), .bool ((rd_T37 l1 x13_3).f4), .slice none 0 0, .int .i64 0, .int .u64 0, .bool false, .int .u64 0]) ?_ 5 _ rfl; (with_reducible repeat (first | refine blk_drewN ?_ _ | refine blk_drew ?_ | refine blk_alloc ?_ _)); refine blk_put (cs := #[.string ((rd_T37 l1 x13_3).f0), .string ((rd_T37 l1 x13_3).f1), .int .u64 ((rd_T37 l1 x13_3).f2), .int .u64 ((rd_T37 l1 x13_3).f3), .bool false, .slice none 0 0, .int .i64 0, .int .u64 0, .bool false, .int .u64 0]) ?_ 4 _ rfl; (with_reducible repeat (first | refine blk_drewN ?_ _ | refine blk_drew ?_ | refine blk_alloc ?_ _)); refine blk_put (cs := #[.string ((rd_T37 l1 x13_3).f0), .string ((rd_T37 l1 x13_3).f1), .int .u64 ((rd_T37 l1 x13_3).f2), .int .u64 0, .bool false, .slice none 0 0, .int .i64 0, .int .u64 0, .bool false, .int .u64 0]) ?_ 3 _ rfl; (with_reducible repeat (first | refine blk_drewN ?_ _ | refine blk_drew ?_ | refine blk_alloc ?_ _)); refine blk_put (cs := #[.string ((rd_T37 l1 x13_3).f0), .string ((rd_T37 l1 x13_3).f1), .int .u64 0, .int .u64 0, .bool false, .slice none 0 0, .int .i64 0, .int .u64 0, .bool false, .int .u64 0]) ?_ 2 _ rfl; (with_reducible repeat (first | refine blk_drewN ?_ _ | refine blk_drew ?_ | refine blk_alloc ?_ _)); refine blk_put (cs := #[.string ((rd_T37 l1 x13_3).f0), .string (⟨#[]⟩ : ByteArray), .int .u64 0, .int .u64 0, .bool false, .slice none 0 0, .int .i64 0, .int .u64 0, .bool false, .int .u64 0]) ?_ 1 _ rfl; (with_reducible repeat (first | refine blk_drewN ?_ _ | refine blk_drew ?_ | refine blk_alloc ?_ _)); refine blk_put (cs := #[.string (⟨#[]⟩ : ByteArray), .string (⟨#[]⟩ : ByteArray), .int .u64 0, .int .u64 0, .bool false, .slice none 0 0, .int .i64 0, .int .u64 0, .bool false, .int .u64 0]) ?_ 0 _ rfl; (with_reducible repeat (first | refine blk_drewN ?_ _ | refine blk_drew ?_ | refine blk_alloc ?_ _)); exact BK162.out) hb); have n4_ := Aside0.mk (below_step (by repeat (first | (with_reducible first | exact HB.out | apply below_alloc | apply pw_below_drewN | apply below_drew1 | refine below_set ?_ GE146.out | refine below_set ?_ GE162.out) | exact HB.out)) hb); clear HO_11; clear HO_12; clear BK146; clear BK162; clear HB; have HO_11 := n0_; have HO_12 := n1_; have BK146 := n2_; have BK162 := n3_; have HB := n4_; clear n0_ n1_ n2_ n3_ n4_; (try clear hb); (try clear hb2); (try clear hk); (try clear hi); have hcz50_0 : w49.cell? ⟨gb162, 0, none⟩ = some (.string ((rd_T37 l1 x13_3).f0)) := (blk_cell BK162.out 0).trans rfl; have hcz50_1 : w49.cell? ⟨gb162, 1, none⟩ = some (.string ((rd_T37 l1 x13_3).f1)) := (blk_cell BK162.out 1).trans rfl; have hcz50_2 : w49.cell? ⟨gb162, 2, none⟩ = some (.int .u64 ((rd_T37 l1 x13_3).f2)) := (blk_cell BK162.out 2).trans rfl; have hcz50_3 : w49.cell? ⟨gb162, 3, none⟩ = some (.int .u64 ((rd_T37 l1 x13_3).f3)) := (blk_cell BK162.out 3).trans rfl; have hcz50_4 : w49.cell? ⟨gb162, 4, none⟩ = some (.bool ((rd_T37 l1 x13_3).f4)) := (blk_cell BK162.out 4).trans rfl; have hcz50_5 : w49.cell? ⟨gb162, 5, none⟩ = some (.slice A161_5 ((rd_T37 l1 x13_3).f5).length c161_5) := (blk_cell BK162.out 5).trans rfl; have hcz50_6 : w49.cell? ⟨gb162, 6, none⟩ = some (.int .i64 ((rd_T37 l1 x13_3).f6.f0)) := (blk_cell BK162.out 6).trans rfl; have hcz50_7 : w49.cell? ⟨gb162, 7, none⟩ = some (.int .u64 ((rd_T37 l1 x13_3).f6.f1)) := (blk_cell BK162.out 7).trans rfl; have hcz50_8 : w49.cell? ⟨gb162, 8, none⟩ = some (.bool false) := (blk_cell BK162.out 8).trans rfl; have hcz50_9 : w49.cell? ⟨gb162, 9, none⟩ = some (.int .u64 ((rd_T37 l1 x13_3).f8)) := (blk_cell BK162.out 9).trans rfl; have hfz50_0 := blk_frozen BK162.out 0; have hfz50_1 := blk_frozen BK162.out 1; have hfz50_2 := blk_frozen BK162.out 2; have hfz50_3 := blk_frozen BK162.out 3; have hfz50_4 := blk_frozen BK162.out 4; have hfz50_5 := blk_frozen BK162.out 5; have hfz50_6 := blk_frozen BK162.out 6; have hfz50_7 := blk_frozen BK162.out 7; have hfz50_8 := blk_frozen BK162.out 8; have hfz50_9 := blk_frozen BK162.out 9; have hcz51_0 : w49.cell? ⟨gb146, 0, none⟩ = some (.string a0_0) := (blk_cell BK146.out 0).trans rfl; have hcz51_1 : w49.cell? ⟨gb146, 1, none⟩ = some (.int .i64 a0_1) := (blk_cell BK146.out 1).trans rfl; have hcz51_2 : w49.cell? ⟨gb146, 2, none⟩ = some (.bool a0_2) := (blk_cell BK146.out 2).trans rfl; have hcz51_3 : w49.cell? ⟨gb146, 3, none⟩ = some (.bool a0_3) := (blk_cell BK146.out 3).trans rfl; have hcz51_4 : w49.cell? ⟨gb146, 4, none⟩ = some (.int .i64 a0_4) := (blk_cell BK146.out 4).trans rfl; have hcz51_5 : w49.cell? ⟨gb146, 5, none⟩ = some (.int .i64 a0_5) := (blk_cell BK146.out 5).trans rfl; have hcz51_6 : w49.cell? ⟨gb146, 6, none⟩ = some (.string a0_6) := (blk_cell BK146.out 6).trans rfl; have hcz51_7 : w49.cell? ⟨gb146, 7, none⟩ = some (.int .i64 a0_7) := (blk_cell BK146.out 7).trans rfl; have hcz51_8 : w49.cell? ⟨gb146, 8, none⟩ = some (.int .i64 a0_8) := (blk_cell BK146.out 8).trans rfl; have hfz51_0 := blk_frozen BK146.out 0; have hfz51_1 := blk_frozen BK146.out 1; have hfz51_2 := blk_frozen BK146.out 2; have hfz51_3 := blk_frozen BK146.out 3; have hfz51_4 := blk_frozen BK146.out 4; have hfz51_5 := blk_frozen BK146.out 5; have hfz51_6 := blk_frozen BK146.out 6; have hfz51_7 := blk_frozen BK146.out 7; have hfz51_8 := blk_frozen BK146.out 8))
                              go_meet
                              case rel => (try rw [← Nbq35.out]); exact ⟨_, ((((rd_T37 l1 x13_3).f0).toList != a0_0.toList)), (by first | rfl | (simp; done) | (simp [*]; done)), H', ⟨by have := HJ4.out; have := HK2.out; have := HK3.out; first | omega | exact Nat.le_refl _⟩, ⟨by (with_reducible repeat (first | apply Kd.R_alloc | apply Kd.R_drewN | apply Kd.R_drew)); exact HO_11.out⟩, ⟨by (with_reducible repeat (first | apply Kd.R_alloc | apply Kd.R_drewN | apply Kd.R_drew)); exact HO_12.out⟩, ⟨by (with_reducible repeat (first | refine blk_drewN ?_ _ | refine blk_drew ?_ | refine blk_alloc ?_ _)); exact BK146.out⟩, ⟨by (with_reducible repeat (first | refine blk_drewN ?_ _ | refine blk_drew ?_ | refine blk_alloc ?_ _)); exact BK162.out⟩, ⟨by repeat (first | (with_reducible first | exact HB.out | apply below_alloc | apply pw_below_drewN | apply below_drew1 | refine below_set ?_ GE146.out | refine below_set ?_ GE162.out) | exact HB.out)⟩⟩
                        · replace c34 := Bool.eq_false_iff.mpr c34
                          subst c34
                          have H1 : (stelelaw17_ExpiryStands.j4 k3 l1 a2 a3 t151 t154 x13_3 false a0_0 a0_1 a0_2 a0_3 a0_4 a0_5 a0_6 a0_7 a0_8 ((rd_T37 l1 x13_3).f0) ((rd_T37 l1 x13_3).f1) ((rd_T37 l1 x13_3).f2) ((rd_T37 l1 x13_3).f3) ((rd_T37 l1 x13_3).f4) ((rd_T37 l1 x13_3).f5) ((rd_T37 l1 x13_3).f6.f0) ((rd_T37 l1 x13_3).f6.f1) ((rd_T37 l1 x13_3).f7) ((rd_T37 l1 x13_3).f8)) = some r := by rw [if_neg (show ¬ (false = true) by decide)] at H; exact H
                          clear H
                          have H := H1
                          clear H1
                          have H' := Aside0.mk H
                          clear H
                          have hnb52 := NB162_146.out
                          have hnc52 := NB146_162.out
                          have hcz53_0 : w30.cell? ⟨gb162, 0, none⟩ = some (.string (⟨#[]⟩ : ByteArray)) := (blk_cell BK162.out 0).trans rfl
                          have hcz53_1 : w30.cell? ⟨gb162, 1, none⟩ = some (.string (⟨#[]⟩ : ByteArray)) := (blk_cell BK162.out 1).trans rfl
                          have hcz53_2 : w30.cell? ⟨gb162, 2, none⟩ = some (.int .u64 0) := (blk_cell BK162.out 2).trans rfl
                          have hcz53_3 : w30.cell? ⟨gb162, 3, none⟩ = some (.int .u64 0) := (blk_cell BK162.out 3).trans rfl
                          have hcz53_4 : w30.cell? ⟨gb162, 4, none⟩ = some (.bool false) := (blk_cell BK162.out 4).trans rfl
                          have hcz53_5 : w30.cell? ⟨gb162, 5, none⟩ = some (.slice none 0 0) := (blk_cell BK162.out 5).trans rfl
                          have hcz53_6 : w30.cell? ⟨gb162, 6, none⟩ = some (.int .i64 0) := (blk_cell BK162.out 6).trans rfl
                          have hcz53_7 : w30.cell? ⟨gb162, 7, none⟩ = some (.int .u64 0) := (blk_cell BK162.out 7).trans rfl
                          have hcz53_8 : w30.cell? ⟨gb162, 8, none⟩ = some (.bool false) := (blk_cell BK162.out 8).trans rfl
                          have hcz53_9 : w30.cell? ⟨gb162, 9, none⟩ = some (.int .u64 0) := (blk_cell BK162.out 9).trans rfl
                          have hfz53_0 := blk_frozen BK162.out 0
                          have hfz53_1 := blk_frozen BK162.out 1
                          have hfz53_2 := blk_frozen BK162.out 2
                          have hfz53_3 := blk_frozen BK162.out 3
                          have hfz53_4 := blk_frozen BK162.out 4
                          have hfz53_5 := blk_frozen BK162.out 5
                          have hfz53_6 := blk_frozen BK162.out 6
                          have hfz53_7 := blk_frozen BK162.out 7
                          have hfz53_8 := blk_frozen BK162.out 8
                          have hfz53_9 := blk_frozen BK162.out 9
                          obtain ⟨Ao54, co54, eo54⟩ := Kd.R_slice HO_11.out
                          subst eo54
                          go_wp2_with (first | ((with_reducible refine gate_callee (f := 12) rfl ?_); refine goesL_ (some 68) rfl rfl Try.func12 (by kernel_rfl) rfl #[.slice Ao54 t151.length co54, .int .u64 ((rd_T37 l1 x13_3).f3)] rfl (by (try simp only [List.map_toArray, List.map_cons, List.map_nil]); first | done | rfl | (simp only [List.length_drop, List.length_take]; rfl)) ?_; (with_reducible refine (stelelaw17_in.calls k3 _ _ t151 ((rd_T37 l1 x13_3).f3) false _ ?side1 ?side2 A33.out).mono ?_); (case side1 => refine (Kd.R_reads' (e := 28) (base := w.heap.size) (ok := fun k_ => some k_ ≠ (v155 : Value).ownBlock) (n := t151.length) (c := co54) ?_).2.2; exact (by (with_reducible repeat (first | apply Kd.R_alloc | apply Kd.R_drewN | apply Kd.R_drew)); exact (Kd.R_mono (Kd.R_far (p := ⟨gb162, 9, none⟩) (Kd.R_far (p := ⟨gb162, 8, none⟩) (Kd.R_far (p := ⟨gb162, 7, none⟩) (Kd.R_far (p := ⟨gb162, 6, none⟩) (Kd.R_far (p := ⟨gb162, 5, none⟩) (Kd.R_far (p := ⟨gb162, 4, none⟩) (Kd.R_far (p := ⟨gb162, 3, none⟩) (Kd.R_far (p := ⟨gb162, 2, none⟩) (Kd.R_far (p := ⟨gb162, 1, none⟩) (Kd.R_far (p := ⟨gb162, 0, none⟩) (Kd.R_types HO_11.out BK162.out (by decide)) (fun _ hk => hk.2) (.string ((rd_T37 l1 x13_3).f0))) (fun _ hk => hk.2) (.string ((rd_T37 l1 x13_3).f1))) (fun _ hk => hk.2) (.int .u64 ((rd_T37 l1 x13_3).f2))) (fun _ hk => hk.2) (.int .u64 ((rd_T37 l1 x13_3).f3))) (fun _ hk => hk.2) (.bool ((rd_T37 l1 x13_3).f4))) (fun _ hk => hk.2) (.slice A161_5 ((rd_T37 l1 x13_3).f5).length c161_5)) (fun _ hk => hk.2) (.int .i64 ((rd_T37 l1 x13_3).f6.f0))) (fun _ hk => hk.2) (.int .u64 ((rd_T37 l1 x13_3).f6.f1))) (fun _ hk => hk.2) (.bool ((rd_T37 l1 x13_3).f7))) (fun _ hk => hk.2) (.int .u64 ((rd_T37 l1 x13_3).f8))) (fun _ h_ => h_.1)))); (case side2 => exact (Kd.R_reads' HO_11.out).2.1); rintro e w' ⟨rfl, ⟨nd, rfl⟩⟩; refine ⟨_, rfl, ?_⟩))
                          go_meet
                          case rel => (try rw [← Nbq35.out]); exact ⟨_, (false), (by first | rfl | (simp; done) | (simp [*]; done)), H', ⟨by have := HJ4.out; have := HK2.out; have := HK3.out; first | omega | exact Nat.le_refl _⟩, ⟨by (with_reducible repeat (first | apply Kd.R_alloc | apply Kd.R_drewN | apply Kd.R_drew)); exact Kd.R_mono (Kd.R_far (p := ⟨gb162, 9, none⟩) (Kd.R_far (p := ⟨gb162, 8, none⟩) (Kd.R_far (p := ⟨gb162, 7, none⟩) (Kd.R_far (p := ⟨gb162, 6, none⟩) (Kd.R_far (p := ⟨gb162, 5, none⟩) (Kd.R_far (p := ⟨gb162, 4, none⟩) (Kd.R_far (p := ⟨gb162, 3, none⟩) (Kd.R_far (p := ⟨gb162, 2, none⟩) (Kd.R_far (p := ⟨gb162, 1, none⟩) (Kd.R_far (p := ⟨gb162, 0, none⟩) (Kd.R_types HO_11.out BK162.out (by decide)) (fun _ hk => hk.2) (.string ((rd_T37 l1 x13_3).f0))) (fun _ hk => hk.2) (.string ((rd_T37 l1 x13_3).f1))) (fun _ hk => hk.2) (.int .u64 ((rd_T37 l1 x13_3).f2))) (fun _ hk => hk.2) (.int .u64 ((rd_T37 l1 x13_3).f3))) (fun _ hk => hk.2) (.bool ((rd_T37 l1 x13_3).f4))) (fun _ hk => hk.2) (.slice A161_5 ((rd_T37 l1 x13_3).f5).length c161_5)) (fun _ hk => hk.2) (.int .i64 ((rd_T37 l1 x13_3).f6.f0))) (fun _ hk => hk.2) (.int .u64 ((rd_T37 l1 x13_3).f6.f1))) (fun _ hk => hk.2) (.bool ((rd_T37 l1 x13_3).f7))) (fun _ hk => hk.2) (.int .u64 ((rd_T37 l1 x13_3).f8))) (fun _ hk => hk.1)⟩, ⟨by (with_reducible repeat (first | apply Kd.R_alloc | apply Kd.R_drewN | apply Kd.R_drew)); exact Kd.R_mono (Kd.R_far (p := ⟨gb162, 9, none⟩) (Kd.R_far (p := ⟨gb162, 8, none⟩) (Kd.R_far (p := ⟨gb162, 7, none⟩) (Kd.R_far (p := ⟨gb162, 6, none⟩) (Kd.R_far (p := ⟨gb162, 5, none⟩) (Kd.R_far (p := ⟨gb162, 4, none⟩) (Kd.R_far (p := ⟨gb162, 3, none⟩) (Kd.R_far (p := ⟨gb162, 2, none⟩) (Kd.R_far (p := ⟨gb162, 1, none⟩) (Kd.R_far (p := ⟨gb162, 0, none⟩) (Kd.R_types HO_12.out BK162.out (by decide)) (fun _ hk => hk.2) (.string ((rd_T37 l1 x13_3).f0))) (fun _ hk => hk.2) (.string ((rd_T37 l1 x13_3).f1))) (fun _ hk => hk.2) (.int .u64 ((rd_T37 l1 x13_3).f2))) (fun _ hk => hk.2) (.int .u64 ((rd_T37 l1 x13_3).f3))) (fun _ hk => hk.2) (.bool ((rd_T37 l1 x13_3).f4))) (fun _ hk => hk.2) (.slice A161_5 ((rd_T37 l1 x13_3).f5).length c161_5)) (fun _ hk => hk.2) (.int .i64 ((rd_T37 l1 x13_3).f6.f0))) (fun _ hk => hk.2) (.int .u64 ((rd_T37 l1 x13_3).f6.f1))) (fun _ hk => hk.2) (.bool ((rd_T37 l1 x13_3).f7))) (fun _ hk => hk.2) (.int .u64 ((rd_T37 l1 x13_3).f8))) (fun _ hk => hk.1)⟩, ⟨by (with_reducible repeat (first | refine blk_drewN ?_ _ | refine blk_drew ?_ | refine blk_alloc ?_ _)); refine blk_far ?_ NB146_162.out _; (with_reducible repeat (first | refine blk_drewN ?_ _ | refine blk_drew ?_ | refine blk_alloc ?_ _)); refine blk_far ?_ NB146_162.out _; (with_reducible repeat (first | refine blk_drewN ?_ _ | refine blk_drew ?_ | refine blk_alloc ?_ _)); refine blk_far ?_ NB146_162.out _; (with_reducible repeat (first | refine blk_drewN ?_ _ | refine blk_drew ?_ | refine blk_alloc ?_ _)); refine blk_far ?_ NB146_162.out _; (with_reducible repeat (first | refine blk_drewN ?_ _ | refine blk_drew ?_ | refine blk_alloc ?_ _)); refine blk_far ?_ NB146_162.out _; (with_reducible repeat (first | refine blk_drewN ?_ _ | refine blk_drew ?_ | refine blk_alloc ?_ _)); refine blk_far ?_ NB146_162.out _; (with_reducible repeat (first | refine blk_drewN ?_ _ | refine blk_drew ?_ | refine blk_alloc ?_ _)); refine blk_far ?_ NB146_162.out _; (with_reducible repeat (first | refine blk_drewN ?_ _ | refine blk_drew ?_ | refine blk_alloc ?_ _)); refine blk_far ?_ NB146_162.out _; (with_reducible repeat (first | refine blk_drewN ?_ _ | refine blk_drew ?_ | refine blk_alloc ?_ _)); refine blk_far ?_ NB146_162.out _; (with_reducible repeat (first | refine blk_drewN ?_ _ | refine blk_drew ?_ | refine blk_alloc ?_ _)); refine blk_far ?_ NB146_162.out _; (with_reducible repeat (first | refine blk_drewN ?_ _ | refine blk_drew ?_ | refine blk_alloc ?_ _)); exact BK146.out⟩, ⟨by (with_reducible repeat (first | refine blk_drewN ?_ _ | refine blk_drew ?_ | refine blk_alloc ?_ _)); refine blk_put (cs := #[.string ((rd_T37 l1 x13_3).f0), .string ((rd_T37 l1 x13_3).f1), .int .u64 ((rd_T37 l1 x13_3).f2), .int .u64 ((rd_T37 l1 x13_3).f3), .bool ((rd_T37 l1 x13_3).f4), .slice A161_5 ((rd_T37 l1 x13_3).f5).length c161_5, .int .i64 ((rd_T37 l1 x13_3).f6.f0), .int .u64 ((rd_T37 l1 x13_3).f6.f1), .bool ((rd_T37 l1 x13_3).f7), .int .u64 0]) ?_ 9 _ rfl; (with_reducible repeat (first | refine blk_drewN ?_ _ | refine blk_drew ?_ | refine blk_alloc ?_ _)); refine blk_put (cs := #[.string ((rd_T37 l1 x13_3).f0), .string ((rd_T37 l1 x13_3).f1), .int .u64 ((rd_T37 l1 x13_3).f2), .int .u64 ((rd_T37 l1 x13_3).f3), .bool ((rd_T37 l1 x13_3).f4), .slice A161_5 ((rd_T37 l1 x13_3).f5).length c161_5, .int .i64 ((rd_T37 l1 x13_3).f6.f0), .int .u64 ((rd_T37 l1 x13_3).f6.f1), .bool false, .int .u64 0]) ?_ 8 _ rfl; (with_reducible repeat (first | refine blk_drewN ?_ _ | refine blk_drew ?_ | refine blk_alloc ?_ _)); refine blk_put (cs := #[.string ((rd_T37 l1 x13_3).f0), .string ((rd_T37 l1 x13_3).f1), .int .u64 ((rd_T37 l1 x13_3).f2), .int .u64 ((rd_T37 l1 x13_3).f3), .bool ((rd_T37 l1 x13_3).f4), .slice A161_5 ((rd_T37 l1 x13_3).f5).length c161_5, .int .i64 ((rd_T37 l1 x13_3).f6.f0), .int .u64 0, .bool false, .int .u64 0]) ?_ 7 _ rfl; (with_reducible repeat (first | refine blk_drewN ?_ _ | refine blk_drew ?_ | refine blk_alloc ?_ _)); refine blk_put (cs := #[.string ((rd_T37 l1 x13_3).f0), .string ((rd_T37 l1 x13_3).f1), .int .u64 ((rd_T37 l1 x13_3).f2), .int .u64 ((rd_T37 l1 x13_3).f3), .bool ((rd_T37 l1 x13_3).f4), .slice A161_5 ((rd_T37 l1 x13_3).f5).length c161_5, .int .i64 0, .int .u64 0, .bool false, .int .u64 0]) ?_ 6 _ rfl; (with_reducible repeat (first | refine blk_drewN ?_ _ | refine blk_drew ?_ | refine blk_alloc ?_ _)); refine blk_put (cs := #[.string ((rd_T37 l1 x13_3).f0), .string ((rd_T37 l1 x13_3).f1), .int .u64 ((rd_T37 l1 x13_3).f2), .int .u64 ((rd_T37 l1 x13_3).f3), .bool ((rd_T37 l1 x13_3).f4), .slice none 0 0, .int .i64 0, .int .u64 0, .bool false, .int .u64 0]) ?_ 5 _ rfl; (with_reducible repeat (first | refine blk_drewN ?_ _ | refine blk_drew ?_ | refine blk_alloc ?_ _)); refine blk_put (cs := #[.string ((rd_T37 l1 x13_3).f0), .string ((rd_T37 l1 x13_3).f1), .int .u64 ((rd_T37 l1 x13_3).f2), .int .u64 ((rd_T37 l1 x13_3).f3), .bool false, .slice none 0 0, .int .i64 0, .int .u64 0, .bool false, .int .u64 0]) ?_ 4 _ rfl; (with_reducible repeat (first | refine blk_drewN ?_ _ | refine blk_drew ?_ | refine blk_alloc ?_ _)); refine blk_put (cs := #[.string ((rd_T37 l1 x13_3).f0), .string ((rd_T37 l1 x13_3).f1), .int .u64 ((rd_T37 l1 x13_3).f2), .int .u64 0, .bool false, .slice none 0 0, .int .i64 0, .int .u64 0, .bool false, .int .u64 0]) ?_ 3 _ rfl; (with_reducible repeat (first | refine blk_drewN ?_ _ | refine blk_drew ?_ | refine blk_alloc ?_ _)); refine blk_put (cs := #[.string ((rd_T37 l1 x13_3).f0), .string ((rd_T37 l1 x13_3).f1), .int .u64 0, .int .u64 0, .bool false, .slice none 0 0, .int .i64 0, .int .u64 0, .bool false, .int .u64 0]) ?_ 2 _ rfl; (with_reducible repeat (first | refine blk_drewN ?_ _ | refine blk_drew ?_ | refine blk_alloc ?_ _)); refine blk_put (cs := #[.string ((rd_T37 l1 x13_3).f0), .string (⟨#[]⟩ : ByteArray), .int .u64 0, .int .u64 0, .bool false, .slice none 0 0, .int .i64 0, .int .u64 0, .bool false, .int .u64 0]) ?_ 1 _ rfl; (with_reducible repeat (first | refine blk_drewN ?_ _ | refine blk_drew ?_ | refine blk_alloc ?_ _)); refine blk_put (cs := #[.string (⟨#[]⟩ : ByteArray), .string (⟨#[]⟩ : ByteArray), .int .u64 0, .int .u64 0, .bool false, .slice none 0 0, .int .i64 0, .int .u64 0, .bool false, .int .u64 0]) ?_ 0 _ rfl; (with_reducible repeat (first | refine blk_drewN ?_ _ | refine blk_drew ?_ | refine blk_alloc ?_ _)); exact BK162.out⟩, ⟨by repeat (first | (with_reducible first | exact HB.out | apply below_alloc | apply pw_below_drewN | apply below_drew1 | refine below_set ?_ GE146.out | refine below_set ?_ GE162.out) | exact HB.out)⟩⟩
                      case rest =>
                        clear HC29
                        try clear c1
                        try clear p1
                        try clear q1
                        try clear hx1
                        try clear c2
                        try clear p2
                        try clear c3
                        try clear q3
                        try clear c4
                        try clear c5
                        try clear p6
                        try clear c7
                        try clear c7b0
                        try clear c7b1
                        try clear c8
                        try clear c10
                        try clear c11
                        try clear c11b0
                        try clear c12
                        try clear c12b0
                        try clear c13
                        try clear c13b0
                        try clear c14
                        try clear c14b0
                        try clear p14
                        try clear q14
                        try clear hx14
                        try clear c15
                        try clear c15b0
                        try clear c16
                        try clear c16b0
                        try clear p16
                        try clear q16
                        try clear hx16
                        try clear c17
                        try clear c17b0
                        try clear c17b1
                        try clear c27
                        try clear c27b0
                        try clear c28
                        try clear c28b0
                        try clear c31
                        try clear c34
                        try clear q35
                        try clear c36
                        try clear c37
                        try clear c41
                        try clear c42
                        try clear c46
                        try clear c52
                        try clear hcz32_0
                        try clear hcz32_1
                        try clear hcz32_2
                        try clear hcz32_3
                        try clear hcz32_4
                        try clear hcz32_5
                        try clear hcz32_6
                        try clear hcz32_7
                        try clear hcz32_8
                        try clear hcz32_9
                        try clear hcz38_0
                        try clear hcz38_1
                        try clear hcz38_2
                        try clear hcz38_3
                        try clear hcz38_4
                        try clear hcz38_5
                        try clear hcz38_6
                        try clear hcz38_7
                        try clear hcz38_8
                        try clear hcz38_9
                        try clear hcz43_0
                        try clear hcz43_1
                        try clear hcz43_2
                        try clear hcz43_3
                        try clear hcz43_4
                        try clear hcz43_5
                        try clear hcz43_6
                        try clear hcz43_7
                        try clear hcz43_8
                        try clear hcz43_9
                        try clear hcz47_0
                        try clear hcz47_1
                        try clear hcz47_2
                        try clear hcz47_3
                        try clear hcz47_4
                        try clear hcz47_5
                        try clear hcz47_6
                        try clear hcz47_7
                        try clear hcz47_8
                        try clear hcz47_9
                        try clear hcz50_0
                        try clear hcz50_1
                        try clear hcz50_2
                        try clear hcz50_3
                        try clear hcz50_4
                        try clear hcz50_5
                        try clear hcz50_6
                        try clear hcz50_7
                        try clear hcz50_8
                        try clear hcz50_9
                        try clear hcz51_0
                        try clear hcz51_1
                        try clear hcz51_2
                        try clear hcz51_3
                        try clear hcz51_4
                        try clear hcz51_5
                        try clear hcz51_6
                        try clear hcz51_7
                        try clear hcz51_8
                        try clear hcz53_0
                        try clear hcz53_1
                        try clear hcz53_2
                        try clear hcz53_3
                        try clear hcz53_4
                        try clear hcz53_5
                        try clear hcz53_6
                        try clear hcz53_7
                        try clear hcz53_8
                        try clear hcz53_9
                        try clear hfz32_0
                        try clear hfz32_1
                        try clear hfz32_2
                        try clear hfz32_3
                        try clear hfz32_4
                        try clear hfz32_5
                        try clear hfz32_6
                        try clear hfz32_7
                        try clear hfz32_8
                        try clear hfz32_9
                        try clear hfz38_0
                        try clear hfz38_1
                        try clear hfz38_2
                        try clear hfz38_3
                        try clear hfz38_4
                        try clear hfz38_5
                        try clear hfz38_6
                        try clear hfz38_7
                        try clear hfz38_8
                        try clear hfz38_9
                        try clear hfz43_0
                        try clear hfz43_1
                        try clear hfz43_2
                        try clear hfz43_3
                        try clear hfz43_4
                        try clear hfz43_5
                        try clear hfz43_6
                        try clear hfz43_7
                        try clear hfz43_8
                        try clear hfz43_9
                        try clear hfz47_0
                        try clear hfz47_1
                        try clear hfz47_2
                        try clear hfz47_3
                        try clear hfz47_4
                        try clear hfz47_5
                        try clear hfz47_6
                        try clear hfz47_7
                        try clear hfz47_8
                        try clear hfz47_9
                        try clear hfz50_0
                        try clear hfz50_1
                        try clear hfz50_2
                        try clear hfz50_3
                        try clear hfz50_4
                        try clear hfz50_5
                        try clear hfz50_6
                        try clear hfz50_7
                        try clear hfz50_8
                        try clear hfz50_9
                        try clear hfz51_0
                        try clear hfz51_1
                        try clear hfz51_2
                        try clear hfz51_3
                        try clear hfz51_4
                        try clear hfz51_5
                        try clear hfz51_6
                        try clear hfz51_7
                        try clear hfz51_8
                        try clear hfz53_0
                        try clear hfz53_1
                        try clear hfz53_2
                        try clear hfz53_3
                        try clear hfz53_4
                        try clear hfz53_5
                        try clear hfz53_6
                        try clear hfz53_7
                        try clear hfz53_8
                        try clear hfz53_9
                        try clear hx148_0
                        try clear hx148_1
                        try clear hx148_2
                        try clear hx148_3
                        try clear hx148_4
                        try clear hx148_5
                        try clear hx148_6
                        try clear hx148_7
                        try clear hx148_8
                        try clear hx148_9
                        try clear hx149_0
                        try clear hx149_1
                        try clear hx149_2
                        try clear hx149_3
                        try clear hx149_4
                        try clear hx149_5
                        try clear hx149_6
                        try clear hx149_7
                        try clear hx149_8
                        try clear hx149_9
                        try clear hx161_0
                        try clear hx161_1
                        try clear hx161_2
                        try clear hx161_3
                        try clear hx161_4
                        try clear hx161_5
                        try clear hx161_6
                        try clear hx161_7
                        try clear hx161_8
                        try clear hx161_9
                        try clear p1
                        try clear p14
                        try clear p148
                        try clear p149
                        try clear p161
                        try clear p2
                        try clear p6
                        try clear q1
                        try clear q14
                        try clear q148
                        try clear q149
                        try clear q161
                        obtain ⟨kq, x85_28, rfl, HA, HJ28, HO_11, HO_12, BK146, BK162, HB⟩ := hcut
                        cases kq with
                        | zero => exact absurd HA.out (by simp [stelelaw17_ExpiryStands.j4])
                        | succ kj28 =>
                          have H := HA.out
                          clear HA
                          simp only [stelelaw17_ExpiryStands.j4] at H
                          by_cases c55 : x85_28 = true
                          · subst c55
                            have H1 : (some false) = some r := by rw [if_pos rfl] at H; exact H
                            clear H
                            have H := H1
                            clear H1
                            obtain rfl := Option.some.inj H
                            go_wp2
                            go_ret
                            exact ⟨by first | rfl | (simp [errW_none, errW_some] <;> rfl) | (simp [*, errW_none, errW_some] <;> rfl), by repeat (first | (with_reducible first | exact HB.out | apply below_alloc | apply pw_below_drewN | apply below_drew1 | refine below_set ?_ GE146.out | refine below_set ?_ GE162.out) | exact HB.out)⟩
                          · replace c55 := Bool.eq_false_iff.mpr c55
                            subst c55
                            have H1 : ((stelelaw17_in.f kj28 t151 ((rd_T37 l1 x13_3).f3)).bind fun t165 => (if t165 = true then ((stelelaw17_in.f kj28 t154 ((rd_T37 l1 x13_3).f3)).bind fun t166 => (if t166 = true then (stelelaw17_ExpiryStands.l2 kj28 l1 a2 a3 t151 t154 (wrap64 (x13_3 + 1)) a0_0 a0_1 a0_2 a0_3 a0_4 a0_5 a0_6 a0_7 a0_8) else (some false))) else (stelelaw17_ExpiryStands.l2 kj28 l1 a2 a3 t151 t154 (wrap64 (x13_3 + 1)) a0_0 a0_1 a0_2 a0_3 a0_4 a0_5 a0_6 a0_7 a0_8))) = some r := by rw [if_neg (show ¬ (false = true) by decide)] at H; exact H
                            clear H
                            have H := H1
                            clear H1
                            replace H := Option.bind_eq_some_iff.mp H
                            obtain ⟨t165, A560, H⟩ := H
                            replace H : (if t165 = true then ((stelelaw17_in.f kj28 t154 ((rd_T37 l1 x13_3).f3)).bind fun t166 => (if t166 = true then (stelelaw17_ExpiryStands.l2 kj28 l1 a2 a3 t151 t154 (wrap64 (x13_3 + 1)) a0_0 a0_1 a0_2 a0_3 a0_4 a0_5 a0_6 a0_7 a0_8) else (some false))) else (stelelaw17_ExpiryStands.l2 kj28 l1 a2 a3 t151 t154 (wrap64 (x13_3 + 1)) a0_0 a0_1 a0_2 a0_3 a0_4 a0_5 a0_6 a0_7 a0_8)) = some r := H
                            have A56 := Aside0.mk A560
                            clear A560
                            by_cases c57 : t165 = true
                            · subst c57
                              have H1 : ((stelelaw17_in.f kj28 t154 ((rd_T37 l1 x13_3).f3)).bind fun t166 => (if t166 = true then (stelelaw17_ExpiryStands.l2 kj28 l1 a2 a3 t151 t154 (wrap64 (x13_3 + 1)) a0_0 a0_1 a0_2 a0_3 a0_4 a0_5 a0_6 a0_7 a0_8) else (some false))) = some r := by rw [if_pos rfl] at H; exact H
                              clear H
                              have H := H1
                              clear H1
                              replace H := Option.bind_eq_some_iff.mp H
                              obtain ⟨t166, A580, H⟩ := H
                              replace H : (if t166 = true then (stelelaw17_ExpiryStands.l2 kj28 l1 a2 a3 t151 t154 (wrap64 (x13_3 + 1)) a0_0 a0_1 a0_2 a0_3 a0_4 a0_5 a0_6 a0_7 a0_8) else (some false)) = some r := H
                              have A58 := Aside0.mk A580
                              clear A580
                              by_cases c59 : t166 = true
                              · subst c59
                                have H1 : (stelelaw17_ExpiryStands.l2 kj28 l1 a2 a3 t151 t154 (wrap64 (x13_3 + 1)) a0_0 a0_1 a0_2 a0_3 a0_4 a0_5 a0_6 a0_7 a0_8) = some r := by rw [if_pos rfl] at H; exact H
                                clear H
                                have H := H1
                                clear H1
                                have H' := Aside0.mk H
                                clear H
                                have hnb60 := NB162_146.out
                                have hnc60 := NB146_162.out
                                have hcz61_0 : wc.cell? ⟨gb162, 0, none⟩ = some (.string ((rd_T37 l1 x13_3).f0)) := (blk_cell BK162.out 0).trans rfl
                                have hcz61_1 : wc.cell? ⟨gb162, 1, none⟩ = some (.string ((rd_T37 l1 x13_3).f1)) := (blk_cell BK162.out 1).trans rfl
                                have hcz61_2 : wc.cell? ⟨gb162, 2, none⟩ = some (.int .u64 ((rd_T37 l1 x13_3).f2)) := (blk_cell BK162.out 2).trans rfl
                                have hcz61_3 : wc.cell? ⟨gb162, 3, none⟩ = some (.int .u64 ((rd_T37 l1 x13_3).f3)) := (blk_cell BK162.out 3).trans rfl
                                have hcz61_4 : wc.cell? ⟨gb162, 4, none⟩ = some (.bool ((rd_T37 l1 x13_3).f4)) := (blk_cell BK162.out 4).trans rfl
                                have hcz61_5 : wc.cell? ⟨gb162, 5, none⟩ = some (.slice A161_5 ((rd_T37 l1 x13_3).f5).length c161_5) := (blk_cell BK162.out 5).trans rfl
                                have hcz61_6 : wc.cell? ⟨gb162, 6, none⟩ = some (.int .i64 ((rd_T37 l1 x13_3).f6.f0)) := (blk_cell BK162.out 6).trans rfl
                                have hcz61_7 : wc.cell? ⟨gb162, 7, none⟩ = some (.int .u64 ((rd_T37 l1 x13_3).f6.f1)) := (blk_cell BK162.out 7).trans rfl
                                have hcz61_8 : wc.cell? ⟨gb162, 8, none⟩ = some (.bool ((rd_T37 l1 x13_3).f7)) := (blk_cell BK162.out 8).trans rfl
                                have hcz61_9 : wc.cell? ⟨gb162, 9, none⟩ = some (.int .u64 ((rd_T37 l1 x13_3).f8)) := (blk_cell BK162.out 9).trans rfl
                                have hfz61_0 := blk_frozen BK162.out 0
                                have hfz61_1 := blk_frozen BK162.out 1
                                have hfz61_2 := blk_frozen BK162.out 2
                                have hfz61_3 := blk_frozen BK162.out 3
                                have hfz61_4 := blk_frozen BK162.out 4
                                have hfz61_5 := blk_frozen BK162.out 5
                                have hfz61_6 := blk_frozen BK162.out 6
                                have hfz61_7 := blk_frozen BK162.out 7
                                have hfz61_8 := blk_frozen BK162.out 8
                                have hfz61_9 := blk_frozen BK162.out 9
                                obtain ⟨Ao62, co62, eo62⟩ := Kd.R_slice HO_11.out
                                subst eo62
                                go_wp2_with (first | ((with_reducible refine gate_callee (f := 12) rfl ?_); refine goesL_ (some 89) rfl rfl Try.func12 (by kernel_rfl) rfl #[.slice Ao62 t151.length co62, .int .u64 ((rd_T37 l1 x13_3).f3)] rfl (by (try simp only [List.map_toArray, List.map_cons, List.map_nil]); first | done | rfl | (simp only [List.length_drop, List.length_take]; rfl)) ?_; (with_reducible refine (stelelaw17_in.calls kj28 _ _ t151 ((rd_T37 l1 x13_3).f3) true _ ?side1 ?side2 A56.out).mono ?_); (case side1 => repeat (first | exact (Kd.R_reads' HO_11.out).2.2 | (with_reducible refine Kd.C_alloc ?_ _) | (with_reducible refine Kd.C_drewN ?_ _) | (with_reducible refine Kd.C_drew ?_))); (case side2 => exact (Kd.R_reads' HO_11.out).2.1); rintro e w' ⟨rfl, ⟨nd, rfl⟩⟩; refine ⟨_, rfl, ?_⟩; obtain ⟨Ao63, co63, eo63⟩ := Kd.R_slice HO_12.out; subst eo63) | (go_at_call 12; (with_reducible refine (stelelaw17_in.calls kj28 _ _ t154 ((rd_T37 l1 x13_3).f3) true _ ?side1 ?side2 A58.out).mono ?_); (case side1 => repeat (first | exact (Kd.R_reads' HO_12.out).2.2 | (with_reducible refine Kd.C_alloc ?_ _) | (with_reducible refine Kd.C_drewN ?_ _) | (with_reducible refine Kd.C_drew ?_))); (case side2 => exact (Kd.R_reads' HO_12.out).2.1); rintro e w' ⟨rfl, ⟨nd, rfl⟩⟩))
                                go_roundg kj28
                                case measure => have := HJ4.out; have := HK2.out; have := HK3.out; have := HJ28.out; omega
                                case rel => (try rw [← Nbq35.out]); exact ⟨(wrap64 (x13_3 + 1)), (by first | rfl | (simp; done) | (simp [*]; done)), H', ⟨by have := HJ4.out; have := HK2.out; have := HK3.out; have := HJ28.out; omega⟩, ⟨by (with_reducible repeat (first | apply Kd.R_alloc | apply Kd.R_drewN | apply Kd.R_drew)); exact HO_11.out⟩, ⟨by (with_reducible repeat (first | apply Kd.R_alloc | apply Kd.R_drewN | apply Kd.R_drew)); exact HO_12.out⟩, ⟨by (with_reducible repeat (first | refine blk_drewN ?_ _ | refine blk_drew ?_ | refine blk_alloc ?_ _)); exact BK146.out⟩, ⟨by repeat (first | (with_reducible first | exact HB.out | apply below_alloc | apply pw_below_drewN | apply below_drew1 | refine below_set ?_ GE146.out | refine below_set ?_ GE162.out) | exact HB.out)⟩⟩
                              · replace c59 := Bool.eq_false_iff.mpr c59
                                subst c59
                                have H1 : (some false) = some r := by rw [if_neg (show ¬ (false = true) by decide)] at H; exact H
                                clear H
                                have H := H1
                                clear H1
                                obtain rfl := Option.some.inj H
                                have hnb64 := NB162_146.out
                                have hnc64 := NB146_162.out
                                have hcz65_0 : wc.cell? ⟨gb162, 0, none⟩ = some (.string ((rd_T37 l1 x13_3).f0)) := (blk_cell BK162.out 0).trans rfl
                                have hcz65_1 : wc.cell? ⟨gb162, 1, none⟩ = some (.string ((rd_T37 l1 x13_3).f1)) := (blk_cell BK162.out 1).trans rfl
                                have hcz65_2 : wc.cell? ⟨gb162, 2, none⟩ = some (.int .u64 ((rd_T37 l1 x13_3).f2)) := (blk_cell BK162.out 2).trans rfl
                                have hcz65_3 : wc.cell? ⟨gb162, 3, none⟩ = some (.int .u64 ((rd_T37 l1 x13_3).f3)) := (blk_cell BK162.out 3).trans rfl
                                have hcz65_4 : wc.cell? ⟨gb162, 4, none⟩ = some (.bool ((rd_T37 l1 x13_3).f4)) := (blk_cell BK162.out 4).trans rfl
                                have hcz65_5 : wc.cell? ⟨gb162, 5, none⟩ = some (.slice A161_5 ((rd_T37 l1 x13_3).f5).length c161_5) := (blk_cell BK162.out 5).trans rfl
                                have hcz65_6 : wc.cell? ⟨gb162, 6, none⟩ = some (.int .i64 ((rd_T37 l1 x13_3).f6.f0)) := (blk_cell BK162.out 6).trans rfl
                                have hcz65_7 : wc.cell? ⟨gb162, 7, none⟩ = some (.int .u64 ((rd_T37 l1 x13_3).f6.f1)) := (blk_cell BK162.out 7).trans rfl
                                have hcz65_8 : wc.cell? ⟨gb162, 8, none⟩ = some (.bool ((rd_T37 l1 x13_3).f7)) := (blk_cell BK162.out 8).trans rfl
                                have hcz65_9 : wc.cell? ⟨gb162, 9, none⟩ = some (.int .u64 ((rd_T37 l1 x13_3).f8)) := (blk_cell BK162.out 9).trans rfl
                                have hfz65_0 := blk_frozen BK162.out 0
                                have hfz65_1 := blk_frozen BK162.out 1
                                have hfz65_2 := blk_frozen BK162.out 2
                                have hfz65_3 := blk_frozen BK162.out 3
                                have hfz65_4 := blk_frozen BK162.out 4
                                have hfz65_5 := blk_frozen BK162.out 5
                                have hfz65_6 := blk_frozen BK162.out 6
                                have hfz65_7 := blk_frozen BK162.out 7
                                have hfz65_8 := blk_frozen BK162.out 8
                                have hfz65_9 := blk_frozen BK162.out 9
                                obtain ⟨Ao66, co66, eo66⟩ := Kd.R_slice HO_11.out
                                subst eo66
                                go_wp2_with (first | ((with_reducible refine gate_callee (f := 12) rfl ?_); refine goesL_ (some 89) rfl rfl Try.func12 (by kernel_rfl) rfl #[.slice Ao66 t151.length co66, .int .u64 ((rd_T37 l1 x13_3).f3)] rfl (by (try simp only [List.map_toArray, List.map_cons, List.map_nil]); first | done | rfl | (simp only [List.length_drop, List.length_take]; rfl)) ?_; (with_reducible refine (stelelaw17_in.calls kj28 _ _ t151 ((rd_T37 l1 x13_3).f3) true _ ?side1 ?side2 A56.out).mono ?_); (case side1 => repeat (first | exact (Kd.R_reads' HO_11.out).2.2 | (with_reducible refine Kd.C_alloc ?_ _) | (with_reducible refine Kd.C_drewN ?_ _) | (with_reducible refine Kd.C_drew ?_))); (case side2 => exact (Kd.R_reads' HO_11.out).2.1); rintro e w' ⟨rfl, ⟨nd, rfl⟩⟩; refine ⟨_, rfl, ?_⟩; obtain ⟨Ao67, co67, eo67⟩ := Kd.R_slice HO_12.out; subst eo67) | (go_at_call 12; (with_reducible refine (stelelaw17_in.calls kj28 _ _ t154 ((rd_T37 l1 x13_3).f3) false _ ?side1 ?side2 A58.out).mono ?_); (case side1 => repeat (first | exact (Kd.R_reads' HO_12.out).2.2 | (with_reducible refine Kd.C_alloc ?_ _) | (with_reducible refine Kd.C_drewN ?_ _) | (with_reducible refine Kd.C_drew ?_))); (case side2 => exact (Kd.R_reads' HO_12.out).2.1); rintro e w' ⟨rfl, ⟨nd, rfl⟩⟩))
                                go_ret
                                exact ⟨by first | rfl | (simp [errW_none, errW_some] <;> rfl) | (simp [*, errW_none, errW_some] <;> rfl), by repeat (first | (with_reducible first | exact HB.out | apply below_alloc | apply pw_below_drewN | apply below_drew1 | refine below_set ?_ GE146.out | refine below_set ?_ GE162.out) | exact HB.out)⟩
                            · replace c57 := Bool.eq_false_iff.mpr c57
                              subst c57
                              have H1 : (stelelaw17_ExpiryStands.l2 kj28 l1 a2 a3 t151 t154 (wrap64 (x13_3 + 1)) a0_0 a0_1 a0_2 a0_3 a0_4 a0_5 a0_6 a0_7 a0_8) = some r := by rw [if_neg (show ¬ (false = true) by decide)] at H; exact H
                              clear H
                              have H := H1
                              clear H1
                              have H' := Aside0.mk H
                              clear H
                              have hnb68 := NB162_146.out
                              have hnc68 := NB146_162.out
                              have hcz69_0 : wc.cell? ⟨gb162, 0, none⟩ = some (.string ((rd_T37 l1 x13_3).f0)) := (blk_cell BK162.out 0).trans rfl
                              have hcz69_1 : wc.cell? ⟨gb162, 1, none⟩ = some (.string ((rd_T37 l1 x13_3).f1)) := (blk_cell BK162.out 1).trans rfl
                              have hcz69_2 : wc.cell? ⟨gb162, 2, none⟩ = some (.int .u64 ((rd_T37 l1 x13_3).f2)) := (blk_cell BK162.out 2).trans rfl
                              have hcz69_3 : wc.cell? ⟨gb162, 3, none⟩ = some (.int .u64 ((rd_T37 l1 x13_3).f3)) := (blk_cell BK162.out 3).trans rfl
                              have hcz69_4 : wc.cell? ⟨gb162, 4, none⟩ = some (.bool ((rd_T37 l1 x13_3).f4)) := (blk_cell BK162.out 4).trans rfl
                              have hcz69_5 : wc.cell? ⟨gb162, 5, none⟩ = some (.slice A161_5 ((rd_T37 l1 x13_3).f5).length c161_5) := (blk_cell BK162.out 5).trans rfl
                              have hcz69_6 : wc.cell? ⟨gb162, 6, none⟩ = some (.int .i64 ((rd_T37 l1 x13_3).f6.f0)) := (blk_cell BK162.out 6).trans rfl
                              have hcz69_7 : wc.cell? ⟨gb162, 7, none⟩ = some (.int .u64 ((rd_T37 l1 x13_3).f6.f1)) := (blk_cell BK162.out 7).trans rfl
                              have hcz69_8 : wc.cell? ⟨gb162, 8, none⟩ = some (.bool ((rd_T37 l1 x13_3).f7)) := (blk_cell BK162.out 8).trans rfl
                              have hcz69_9 : wc.cell? ⟨gb162, 9, none⟩ = some (.int .u64 ((rd_T37 l1 x13_3).f8)) := (blk_cell BK162.out 9).trans rfl
                              have hfz69_0 := blk_frozen BK162.out 0
                              have hfz69_1 := blk_frozen BK162.out 1
                              have hfz69_2 := blk_frozen BK162.out 2
                              have hfz69_3 := blk_frozen BK162.out 3
                              have hfz69_4 := blk_frozen BK162.out 4
                              have hfz69_5 := blk_frozen BK162.out 5
                              have hfz69_6 := blk_frozen BK162.out 6
                              have hfz69_7 := blk_frozen BK162.out 7
                              have hfz69_8 := blk_frozen BK162.out 8
                              have hfz69_9 := blk_frozen BK162.out 9
                              obtain ⟨Ao70, co70, eo70⟩ := Kd.R_slice HO_11.out
                              subst eo70
                              go_wp2_with (first | ((with_reducible refine gate_callee (f := 12) rfl ?_); refine goesL_ (some 89) rfl rfl Try.func12 (by kernel_rfl) rfl #[.slice Ao70 t151.length co70, .int .u64 ((rd_T37 l1 x13_3).f3)] rfl (by (try simp only [List.map_toArray, List.map_cons, List.map_nil]); first | done | rfl | (simp only [List.length_drop, List.length_take]; rfl)) ?_; (with_reducible refine (stelelaw17_in.calls kj28 _ _ t151 ((rd_T37 l1 x13_3).f3) false _ ?side1 ?side2 A56.out).mono ?_); (case side1 => repeat (first | exact (Kd.R_reads' HO_11.out).2.2 | (with_reducible refine Kd.C_alloc ?_ _) | (with_reducible refine Kd.C_drewN ?_ _) | (with_reducible refine Kd.C_drew ?_))); (case side2 => exact (Kd.R_reads' HO_11.out).2.1); rintro e w' ⟨rfl, ⟨nd, rfl⟩⟩; refine ⟨_, rfl, ?_⟩))
                              go_roundg kj28
                              case measure => have := HJ4.out; have := HK2.out; have := HK3.out; have := HJ28.out; omega
                              case rel => (try rw [← Nbq35.out]); exact ⟨(wrap64 (x13_3 + 1)), (by first | rfl | (simp; done) | (simp [*]; done)), H', ⟨by have := HJ4.out; have := HK2.out; have := HK3.out; have := HJ28.out; omega⟩, ⟨by (with_reducible repeat (first | apply Kd.R_alloc | apply Kd.R_drewN | apply Kd.R_drew)); exact HO_11.out⟩, ⟨by (with_reducible repeat (first | apply Kd.R_alloc | apply Kd.R_drewN | apply Kd.R_drew)); exact HO_12.out⟩, ⟨by (with_reducible repeat (first | refine blk_drewN ?_ _ | refine blk_drew ?_ | refine blk_alloc ?_ _)); exact BK146.out⟩, ⟨by repeat (first | (with_reducible first | exact HB.out | apply below_alloc | apply pw_below_drewN | apply below_drew1 | refine below_set ?_ GE146.out | refine below_set ?_ GE162.out) | exact HB.out)⟩⟩
                    · rw [if_neg c28] at H
                      exact absurd H (by simp)
                  · rw [if_neg c27] at H
                    have c27b0 : decide (x13_3 < (l1.length : Int)) = false := decide_eq_false c27
                    clear c27
                    replace H := Option.bind_eq_some_iff.mp H
                    obtain ⟨t157, A710, H⟩ := H
                    replace H : (if (t157.length : Int) = 0 then ((stelelaw17_alive.f).bind fun t160 => (some t160)) else (some false)) = some r := H
                    have A71 := Aside0.mk A710
                    clear A710
                    by_cases c72 : (t157.length : Int) = 0
                    · rw [if_pos c72] at H
                      have c72b0 : ((t157.length : Int) == 0) = true := beq_iff_eq.mpr c72
                      have c72b1 : ((t157.length : Int) != 0) = false := bne_eq_false_iff_eq.mpr c72
                      clear c72
                      replace H := Option.bind_eq_some_iff.mp H
                      obtain ⟨t160, A730, H⟩ := H
                      replace H : (some t160) = some r := H
                      have A73 := Aside0.mk A730
                      clear A730
                      obtain rfl := Option.some.inj H
                      have hcz74_0 : wr.cell? ⟨gb146, 0, none⟩ = some (.string a0_0) := (blk_cell BK146.out 0).trans rfl
                      have hcz74_1 : wr.cell? ⟨gb146, 1, none⟩ = some (.int .i64 a0_1) := (blk_cell BK146.out 1).trans rfl
                      have hcz74_2 : wr.cell? ⟨gb146, 2, none⟩ = some (.bool a0_2) := (blk_cell BK146.out 2).trans rfl
                      have hcz74_3 : wr.cell? ⟨gb146, 3, none⟩ = some (.bool a0_3) := (blk_cell BK146.out 3).trans rfl
                      have hcz74_4 : wr.cell? ⟨gb146, 4, none⟩ = some (.int .i64 a0_4) := (blk_cell BK146.out 4).trans rfl
                      have hcz74_5 : wr.cell? ⟨gb146, 5, none⟩ = some (.int .i64 a0_5) := (blk_cell BK146.out 5).trans rfl
                      have hcz74_6 : wr.cell? ⟨gb146, 6, none⟩ = some (.string a0_6) := (blk_cell BK146.out 6).trans rfl
                      have hcz74_7 : wr.cell? ⟨gb146, 7, none⟩ = some (.int .i64 a0_7) := (blk_cell BK146.out 7).trans rfl
                      have hcz74_8 : wr.cell? ⟨gb146, 8, none⟩ = some (.int .i64 a0_8) := (blk_cell BK146.out 8).trans rfl
                      have hfz74_0 := blk_frozen BK146.out 0
                      have hfz74_1 := blk_frozen BK146.out 1
                      have hfz74_2 := blk_frozen BK146.out 2
                      have hfz74_3 := blk_frozen BK146.out 3
                      have hfz74_4 := blk_frozen BK146.out 4
                      have hfz74_5 := blk_frozen BK146.out 5
                      have hfz74_6 := blk_frozen BK146.out 6
                      have hfz74_7 := blk_frozen BK146.out 7
                      have hfz74_8 := blk_frozen BK146.out 8
                      go_wp2_with (first | ((with_reducible refine gate_callee (f := 10) rfl ?_); refine goesL_ (some 102) rfl rfl Try.func10 (by kernel_rfl) rfl #[.agg #[.string a0_0, .int .i64 a0_1, .bool a0_2, .bool a0_3, .int .i64 a0_4, .int .i64 a0_5, .string a0_6, .int .i64 0, .int .i64 0], .slice A1 l1.length c1, .int .u64 a3] rfl (by (try simp only [List.map_toArray, List.map_cons, List.map_nil]); first | done | rfl | (simp only [List.length_drop, List.length_take]; rfl)) ?_; (with_reducible refine (expiry_Due.calls a0_0 a0_1 a0_2 a0_3 a0_4 a0_5 a0_6 0 0 _ _ l1 a3 t157 _ ?side1 ?side2 A71.out).mono ?_); (case side1 => exact Kd.C_below HR1.out (by repeat (first | (with_reducible first | exact HB.out | apply below_alloc | apply pw_below_drewN | apply below_drew1 | refine below_set ?_ GE146.out) | exact HB.out))); (case side2 => exact HC1.out); rintro e w75 ⟨v158, rfl, ho0, hb⟩; refine ⟨_, rfl, ?_⟩; have n0_ := Aside0.mk (Kd.R_elder' (by (with_reducible repeat (first | apply Kd.R_alloc | apply Kd.R_drewN | apply Kd.R_drew)); exact (Kd.R_mono (Kd.R_far (p := ⟨gb146, 8, none⟩) (Kd.R_far (p := ⟨gb146, 7, none⟩) (Kd.R_types HO_11.out BK146.out (by decide)) (fun _ hk => hk.2) (.int .i64 0)) (fun _ hk => hk.2) (.int .i64 0)) (fun _ h_ => h_.1))) (Kd.R_base ho0) hb); have n1_ := Aside0.mk (Kd.R_elder' (by (with_reducible repeat (first | apply Kd.R_alloc | apply Kd.R_drewN | apply Kd.R_drew)); exact (Kd.R_mono (Kd.R_far (p := ⟨gb146, 8, none⟩) (Kd.R_far (p := ⟨gb146, 7, none⟩) (Kd.R_types HO_12.out BK146.out (by decide)) (fun _ hk => hk.2) (.int .i64 0)) (fun _ hk => hk.2) (.int .i64 0)) (fun _ h_ => h_.1))) (Kd.R_base ho0) hb); have n2_ := Aside0.mk (Kd.R_lower (Kd.R_new' (Kd.R_new' ho0 (Kd.R_lt (by (with_reducible repeat (first | apply Kd.R_alloc | apply Kd.R_drewN | apply Kd.R_drew)); exact (Kd.R_mono (Kd.R_far (p := ⟨gb146, 8, none⟩) (Kd.R_far (p := ⟨gb146, 7, none⟩) (Kd.R_types HO_11.out BK146.out (by decide)) (fun _ hk => hk.2) (.int .i64 0)) (fun _ hk => hk.2) (.int .i64 0)) (fun _ h_ => h_.1))))) (Kd.R_lt (by (with_reducible repeat (first | apply Kd.R_alloc | apply Kd.R_drewN | apply Kd.R_drew)); exact (Kd.R_mono (Kd.R_far (p := ⟨gb146, 8, none⟩) (Kd.R_far (p := ⟨gb146, 7, none⟩) (Kd.R_types HO_12.out BK146.out (by decide)) (fun _ hk => hk.2) (.int .i64 0)) (fun _ hk => hk.2) (.int .i64 0)) (fun _ h_ => h_.1))))) (below_size (by repeat (first | (with_reducible first | exact HB.out | apply below_alloc | apply pw_below_drewN | apply below_drew1 | refine below_set ?_ GE146.out) | exact HB.out)))); have n3_ := Aside0.mk (blk_below (g := gb146) (o := .cells #[.string a0_0, .int .i64 a0_1, .bool a0_2, .bool a0_3, .int .i64 a0_4, .int .i64 a0_5, .string a0_6, .int .i64 0, .int .i64 0] 27 (0, 0)) (by (with_reducible repeat (first | refine blk_drewN ?_ _ | refine blk_drew ?_ | refine blk_alloc ?_ _)); refine blk_put (cs := #[.string a0_0, .int .i64 a0_1, .bool a0_2, .bool a0_3, .int .i64 a0_4, .int .i64 a0_5, .string a0_6, .int .i64 0, .int .i64 a0_8]) ?_ 8 _ rfl; (with_reducible repeat (first | refine blk_drewN ?_ _ | refine blk_drew ?_ | refine blk_alloc ?_ _)); refine blk_put (cs := #[.string a0_0, .int .i64 a0_1, .bool a0_2, .bool a0_3, .int .i64 a0_4, .int .i64 a0_5, .string a0_6, .int .i64 a0_7, .int .i64 a0_8]) ?_ 7 _ rfl; (with_reducible repeat (first | refine blk_drewN ?_ _ | refine blk_drew ?_ | refine blk_alloc ?_ _)); exact BK146.out) hb); have n4_ := Aside0.mk (below_step (by repeat (first | (with_reducible first | exact HB.out | apply below_alloc | apply pw_below_drewN | apply below_drew1 | refine below_set ?_ GE146.out) | exact HB.out)) hb); clear HO_11; clear HO_12; clear BK146; clear HB; have HO_11 := n0_; have HO_12 := n1_; have HO159 := n2_; have BK146 := n3_; have HB := n4_; clear n0_ n1_ n2_ n3_ n4_; (try clear hb); (try clear hb2); (try clear hk); (try clear hi); (try clear ho0); obtain ⟨Ao76, co76, eo76⟩ := Kd.R_slice HO159.out; subst eo76) | (go_at_call 8; (with_reducible refine (stelelaw17_alive.calls  t160 _ A73.out).mono ?_); rintro e w77 ⟨rfl, hb⟩; have n0_ := Aside0.mk (Kd.R_below (by (with_reducible repeat (first | apply Kd.R_alloc | apply Kd.R_drewN | apply Kd.R_drew)); exact HO_11.out) hb); have n1_ := Aside0.mk (Kd.R_below (by (with_reducible repeat (first | apply Kd.R_alloc | apply Kd.R_drewN | apply Kd.R_drew)); exact HO_12.out) hb); have n2_ := Aside0.mk (Kd.R_below (by (with_reducible repeat (first | apply Kd.R_alloc | apply Kd.R_drewN | apply Kd.R_drew)); exact HO159.out) hb); have n3_ := Aside0.mk (blk_below (g := gb146) (o := .cells #[.string a0_0, .int .i64 a0_1, .bool a0_2, .bool a0_3, .int .i64 a0_4, .int .i64 a0_5, .string a0_6, .int .i64 0, .int .i64 0] 27 (0, 0)) (by (with_reducible repeat (first | refine blk_drewN ?_ _ | refine blk_drew ?_ | refine blk_alloc ?_ _)); exact BK146.out) hb); have n4_ := Aside0.mk (below_step (by repeat (first | (with_reducible first | exact HB.out | apply below_alloc | apply pw_below_drewN | apply below_drew1 | refine below_set ?_ GE146.out) | exact HB.out)) hb); clear HO_11; clear HO_12; clear HO159; clear BK146; clear HB; have HO_11 := n0_; have HO_12 := n1_; have HO159 := n2_; have BK146 := n3_; have HB := n4_; clear n0_ n1_ n2_ n3_ n4_; (try clear hb); (try clear hb2); (try clear hk); (try clear hi)))
                      go_ret
                      exact ⟨by first | rfl | (simp [errW_none, errW_some] <;> rfl) | (simp [*, errW_none, errW_some] <;> rfl), by repeat (first | (with_reducible first | exact HB.out | apply below_alloc | apply pw_below_drewN | apply below_drew1 | refine below_set ?_ GE146.out) | exact HB.out)⟩
                    · rw [if_neg c72] at H
                      have c72b0 : ((t157.length : Int) == 0) = false := beq_eq_false_iff_ne.mpr c72
                      have c72b1 : ((t157.length : Int) != 0) = true := bne_iff_ne.mpr c72
                      have c72b2 : ¬ (t157 = []) := fun h_ => c72 (by rw [h_]; rfl)
                      obtain rfl := Option.some.inj H
                      have hcz78_0 : wr.cell? ⟨gb146, 0, none⟩ = some (.string a0_0) := (blk_cell BK146.out 0).trans rfl
                      have hcz78_1 : wr.cell? ⟨gb146, 1, none⟩ = some (.int .i64 a0_1) := (blk_cell BK146.out 1).trans rfl
                      have hcz78_2 : wr.cell? ⟨gb146, 2, none⟩ = some (.bool a0_2) := (blk_cell BK146.out 2).trans rfl
                      have hcz78_3 : wr.cell? ⟨gb146, 3, none⟩ = some (.bool a0_3) := (blk_cell BK146.out 3).trans rfl
                      have hcz78_4 : wr.cell? ⟨gb146, 4, none⟩ = some (.int .i64 a0_4) := (blk_cell BK146.out 4).trans rfl
                      have hcz78_5 : wr.cell? ⟨gb146, 5, none⟩ = some (.int .i64 a0_5) := (blk_cell BK146.out 5).trans rfl
                      have hcz78_6 : wr.cell? ⟨gb146, 6, none⟩ = some (.string a0_6) := (blk_cell BK146.out 6).trans rfl
                      have hcz78_7 : wr.cell? ⟨gb146, 7, none⟩ = some (.int .i64 a0_7) := (blk_cell BK146.out 7).trans rfl
                      have hcz78_8 : wr.cell? ⟨gb146, 8, none⟩ = some (.int .i64 a0_8) := (blk_cell BK146.out 8).trans rfl
                      have hfz78_0 := blk_frozen BK146.out 0
                      have hfz78_1 := blk_frozen BK146.out 1
                      have hfz78_2 := blk_frozen BK146.out 2
                      have hfz78_3 := blk_frozen BK146.out 3
                      have hfz78_4 := blk_frozen BK146.out 4
                      have hfz78_5 := blk_frozen BK146.out 5
                      have hfz78_6 := blk_frozen BK146.out 6
                      have hfz78_7 := blk_frozen BK146.out 7
                      have hfz78_8 := blk_frozen BK146.out 8
                      go_wp2_with (first | ((with_reducible refine gate_callee (f := 10) rfl ?_); refine goesL_ (some 102) rfl rfl Try.func10 (by kernel_rfl) rfl #[.agg #[.string a0_0, .int .i64 a0_1, .bool a0_2, .bool a0_3, .int .i64 a0_4, .int .i64 a0_5, .string a0_6, .int .i64 0, .int .i64 0], .slice A1 l1.length c1, .int .u64 a3] rfl (by (try simp only [List.map_toArray, List.map_cons, List.map_nil]); first | done | rfl | (simp only [List.length_drop, List.length_take]; rfl)) ?_; (with_reducible refine (expiry_Due.calls a0_0 a0_1 a0_2 a0_3 a0_4 a0_5 a0_6 0 0 _ _ l1 a3 t157 _ ?side1 ?side2 A71.out).mono ?_); (case side1 => exact Kd.C_below HR1.out (by repeat (first | (with_reducible first | exact HB.out | apply below_alloc | apply pw_below_drewN | apply below_drew1 | refine below_set ?_ GE146.out) | exact HB.out))); (case side2 => exact HC1.out); rintro e w79 ⟨v158, rfl, ho0, hb⟩; refine ⟨_, rfl, ?_⟩; have n0_ := Aside0.mk (Kd.R_elder' (by (with_reducible repeat (first | apply Kd.R_alloc | apply Kd.R_drewN | apply Kd.R_drew)); exact (Kd.R_mono (Kd.R_far (p := ⟨gb146, 8, none⟩) (Kd.R_far (p := ⟨gb146, 7, none⟩) (Kd.R_types HO_11.out BK146.out (by decide)) (fun _ hk => hk.2) (.int .i64 0)) (fun _ hk => hk.2) (.int .i64 0)) (fun _ h_ => h_.1))) (Kd.R_base ho0) hb); have n1_ := Aside0.mk (Kd.R_elder' (by (with_reducible repeat (first | apply Kd.R_alloc | apply Kd.R_drewN | apply Kd.R_drew)); exact (Kd.R_mono (Kd.R_far (p := ⟨gb146, 8, none⟩) (Kd.R_far (p := ⟨gb146, 7, none⟩) (Kd.R_types HO_12.out BK146.out (by decide)) (fun _ hk => hk.2) (.int .i64 0)) (fun _ hk => hk.2) (.int .i64 0)) (fun _ h_ => h_.1))) (Kd.R_base ho0) hb); have n2_ := Aside0.mk (Kd.R_lower (Kd.R_new' (Kd.R_new' ho0 (Kd.R_lt (by (with_reducible repeat (first | apply Kd.R_alloc | apply Kd.R_drewN | apply Kd.R_drew)); exact (Kd.R_mono (Kd.R_far (p := ⟨gb146, 8, none⟩) (Kd.R_far (p := ⟨gb146, 7, none⟩) (Kd.R_types HO_11.out BK146.out (by decide)) (fun _ hk => hk.2) (.int .i64 0)) (fun _ hk => hk.2) (.int .i64 0)) (fun _ h_ => h_.1))))) (Kd.R_lt (by (with_reducible repeat (first | apply Kd.R_alloc | apply Kd.R_drewN | apply Kd.R_drew)); exact (Kd.R_mono (Kd.R_far (p := ⟨gb146, 8, none⟩) (Kd.R_far (p := ⟨gb146, 7, none⟩) (Kd.R_types HO_12.out BK146.out (by decide)) (fun _ hk => hk.2) (.int .i64 0)) (fun _ hk => hk.2) (.int .i64 0)) (fun _ h_ => h_.1))))) (below_size (by repeat (first | (with_reducible first | exact HB.out | apply below_alloc | apply pw_below_drewN | apply below_drew1 | refine below_set ?_ GE146.out) | exact HB.out)))); have n3_ := Aside0.mk (blk_below (g := gb146) (o := .cells #[.string a0_0, .int .i64 a0_1, .bool a0_2, .bool a0_3, .int .i64 a0_4, .int .i64 a0_5, .string a0_6, .int .i64 0, .int .i64 0] 27 (0, 0)) (by (with_reducible repeat (first | refine blk_drewN ?_ _ | refine blk_drew ?_ | refine blk_alloc ?_ _)); refine blk_put (cs := #[.string a0_0, .int .i64 a0_1, .bool a0_2, .bool a0_3, .int .i64 a0_4, .int .i64 a0_5, .string a0_6, .int .i64 0, .int .i64 a0_8]) ?_ 8 _ rfl; (with_reducible repeat (first | refine blk_drewN ?_ _ | refine blk_drew ?_ | refine blk_alloc ?_ _)); refine blk_put (cs := #[.string a0_0, .int .i64 a0_1, .bool a0_2, .bool a0_3, .int .i64 a0_4, .int .i64 a0_5, .string a0_6, .int .i64 a0_7, .int .i64 a0_8]) ?_ 7 _ rfl; (with_reducible repeat (first | refine blk_drewN ?_ _ | refine blk_drew ?_ | refine blk_alloc ?_ _)); exact BK146.out) hb); have n4_ := Aside0.mk (below_step (by repeat (first | (with_reducible first | exact HB.out | apply below_alloc | apply pw_below_drewN | apply below_drew1 | refine below_set ?_ GE146.out) | exact HB.out)) hb); clear HO_11; clear HO_12; clear BK146; clear HB; have HO_11 := n0_; have HO_12 := n1_; have HO159 := n2_; have BK146 := n3_; have HB := n4_; clear n0_ n1_ n2_ n3_ n4_; (try clear hb); (try clear hb2); (try clear hk); (try clear hi); (try clear ho0); obtain ⟨Ao80, co80, eo80⟩ := Kd.R_slice HO159.out; subst eo80))
                      go_ret
                      exact ⟨by first | rfl | (simp [errW_none, errW_some] <;> rfl) | (simp [*, errW_none, errW_some] <;> rfl), by repeat (first | (with_reducible first | exact HB.out | apply below_alloc | apply pw_below_drewN | apply below_drew1 | refine below_set ?_ GE146.out) | exact HB.out)⟩

end Go.Proofs.Ytioncemogbjklaa.PE
