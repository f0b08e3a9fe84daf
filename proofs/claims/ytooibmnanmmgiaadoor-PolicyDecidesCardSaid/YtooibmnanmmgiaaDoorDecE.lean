/- What Decide, the program's and the document's, answers; Own. -/
import Derived.Test.YtooibmnanmmgiaaDoorPBx4
import Derived.Test.YtooibmnanmmgiaaDoorMatE
namespace Go.Proofs.YtooibmnanmmgiaaDoor.GB
open Go.RowKit Go.Proofs.YtooibmnanmmgiaaDoorW.PrintWords Go.Proofs.YtooibmnanmmgiaaDoorW.PrintLast Go.Proofs.YtooibmnanmmgiaaDoorW.PrintMore Go.Proofs.YtooibmnanmmgiaaDoor.PB Go.Proofs.YtooibmnanmmgiaaDoor.D
set_option linter.unusedVariables false
set_option linter.unusedSimpArgs false
def cv (x : S34) : S43 := ⟨x.f0, x.f1, x.f2, x.f3⟩
def S34.small (x : S34) : Prop := x.f1.size ≤ 140737488351232 ∧ x.f2.size ≤ 140737488351232 ∧ x.f3.size ≤ 140737488351232
/-- the rule speaks of the question -/
noncomputable def hit (u v w : ByteArray) (x : S34) : Bool := gb (Ls x.f1) (Ls u) && gb (Ls x.f2) (Ls v) && gb (Ls x.f3) (Ls w)
noncomputable def dec (u v w : ByteArray) : Int → List S34 → Int
  | acc, [] => acc
  | acc, x :: r => if hit u v w x = true then (if x.f0 = true then 2 else dec u v w 1 r) else dec u v w acc r
theorem rd34 (xs : List S34) (i : Nat) (h : i < xs.length) : rd_T34 xs (i : Int) = xs[i] := by
  unfold rd_T34
  rw [Int.toNat_natCast, List.getD_eq_getElem?_getD, List.getElem?_eq_getElem h]; rfl
theorem rd43 (xs : List S34) (i : Nat) (h : i < xs.length) : rd_T43 (xs.map cv) (i : Int) = cv xs[i] := by
  unfold rd_T43
  rw [Int.toNat_natCast, List.getD_eq_getElem?_getD, List.getElem?_map, List.getElem?_eq_getElem h]; rfl
theorem pD_at {u v w : ByteArray} {acc : Int} {l : List S43} {len i : Int} {r : Int} {n : Nat} (k : Nat) (hk : n ≤ k) (h : policy_Decide.l0 n u v w acc l len i = some r) : policy_Decide.l0 k u v w acc l len i = some r := at_rounds (g := fun k => policy_Decide.l0 k u v w acc l len i) (fun k => (policy_Decide.mono_l k).1 u v w acc l len i) hk h
theorem rD_at {u v w : ByteArray} {acc : Int} {l : List S34} {i : Int} {r : Int} {n : Nat} (k : Nat) (hk : n ≤ k) (h : steleref08_Decide.l0 n l u v w acc i = some r) : steleref08_Decide.l0 k l u v w acc i = some r := at_rounds (g := fun k => steleref08_Decide.l0 k l u v w acc i) (fun k => (steleref08_Decide.mono_l k).1 l u v w acc i) hk h
theorem pD_run (u v w : ByteArray) (hu : u.size ≤ 140737488351232) (hv : v.size ≤ 140737488351232) (hw : w.size ≤ 140737488351232) (xs : List S34) (hl : xs.length ≤ 140737488351232) (hx : ∀ x ∈ xs, S34.small x) :
    ∀ d i acc, d = xs.length - i → ∃ n, policy_Decide.l0 n u v w acc (xs.map cv) (xs.length : Int) (i : Int) = some (dec u v w acc (xs.drop i)) := by
  intro d
  induction d with
  | zero =>
    intro i acc hd
    refine ⟨1, ?_⟩
    unfold policy_Decide.l0
    rw [if_neg (by omega), List.drop_of_length_le (by omega)]; rfl
  | succ d ih =>
    intro i acc hd
    have hi : i < xs.length := by omega
    obtain ⟨s1, s2, s3⟩ := hx xs[i] (List.getElem_mem hi)
    obtain ⟨n1, h1⟩ := pm_ok xs[i].f1 u (by omega) (by omega)
    obtain ⟨n2, h2⟩ := pm_ok xs[i].f2 v (by omega) (by omega)
    obtain ⟨n3, h3⟩ := pm_ok xs[i].f3 w (by omega) (by omega)
    obtain ⟨n4, h4⟩ := ih (i + 1) acc (by omega)
    obtain ⟨n5, h5⟩ := ih (i + 1) 1 (by omega)
    refine ⟨n1 + n2 + n3 + n4 + n5 + 1 + 1, ?_⟩
    have K4 := pD_at (n1 + n2 + n3 + n4 + n5) (by omega) h4
    have K5 := pD_at (n1 + n2 + n3 + n4 + n5) (by omega) h5
    have no : ∀ b1 b2 b3 b4, policy_Decide.j1 (n1 + n2 + n3 + n4 + n5 + 1) u v w acc (xs.map cv) (xs.length : Int) (i : Int) true b1 b2 b3 b4 = some (dec u v w acc (xs.drop (i + 1))) := by
      intro b1 b2 b3 b4
      unfold policy_Decide.j1
      rw [if_pos rfl, w1' i (by omega)]
      exact K4
    unfold policy_Decide.l0
    rw [if_pos (by omega), if_pos (by omega), if_pos (by rw [List.length_map]; omega), rd43 xs i hi]
    unfold cv
    simp only []
    rw [pm_at _ (by omega) h1, pm_at _ (by omega) h2, pm_at _ (by omega) h3]
    simp only [Option.bind_some]
    rw [List.drop_eq_getElem_cons hi]
    unfold dec hit
    cases gb (Ls xs[i].f1) (Ls u) with
    | false => simp only [Bool.false_eq_true, if_false, Bool.false_and]; exact no _ _ _ _
    | true =>
      cases gb (Ls xs[i].f2) (Ls v) with
      | false => simp only [Bool.false_eq_true, if_false, if_true, Bool.false_and, Bool.and_false]; exact no _ _ _ _
      | true =>
        cases gb (Ls xs[i].f3) (Ls w) with
        | false => simp only [Bool.false_eq_true, if_false, if_true, Bool.false_and, Bool.and_false, Bool.not_false]; exact no _ _ _ _
        | true =>
          simp only [if_true, Bool.and_self, Bool.not_true]
          unfold policy_Decide.j1
          rw [if_neg (by decide)]
          split
          · rfl
          · rw [w1' i (by omega)]; exact K5
theorem pD_ok (u v w : ByteArray) (hu : u.size ≤ 140737488351232) (hv : v.size ≤ 140737488351232) (hw : w.size ≤ 140737488351232) (xs : List S34) (hl : xs.length ≤ 140737488351232) (hx : ∀ x ∈ xs, S34.small x) : ∃ n, policy_Decide.f n (xs.map cv) u v w = some (dec u v w 0 xs) := by
  obtain ⟨n, hn⟩ := pD_run u v w hu hv hw xs hl hx xs.length 0 0 (by omega)
  refine ⟨n, ?_⟩
  unfold policy_Decide.f
  rw [List.length_map]
  exact hn
theorem rD_run (u v w : ByteArray) (hu : u.size ≤ 140737488351232) (hv : v.size ≤ 140737488351232) (hw : w.size ≤ 140737488351232) (xs : List S34) (hl : xs.length ≤ 140737488351232) (hx : ∀ x ∈ xs, S34.small x) :
    ∀ d i acc, d = xs.length - i → ∃ n, steleref08_Decide.l0 n xs u v w acc (i : Int) = some (dec u v w acc (xs.drop i)) := by
  intro d
  induction d with
  | zero =>
    intro i acc hd
    refine ⟨1, ?_⟩
    unfold steleref08_Decide.l0
    rw [if_neg (by omega), List.drop_of_length_le (by omega)]; rfl
  | succ d ih =>
    intro i acc hd
    have hi : i < xs.length := by omega
    obtain ⟨s1, s2, s3⟩ := hx xs[i] (List.getElem_mem hi)
    obtain ⟨n1, h1⟩ := rm_ok xs[i].f1 u (by omega) (by omega)
    obtain ⟨n2, h2⟩ := rm_ok xs[i].f2 v (by omega) (by omega)
    obtain ⟨n3, h3⟩ := rm_ok xs[i].f3 w (by omega) (by omega)
    obtain ⟨n4, h4⟩ := ih (i + 1) acc (by omega)
    obtain ⟨n5, h5⟩ := ih (i + 1) 1 (by omega)
    refine ⟨n1 + n2 + n3 + n4 + n5 + 1 + 1, ?_⟩
    have K4 := rD_at (n1 + n2 + n3 + n4 + n5) (by omega) h4
    have K5 := rD_at (n1 + n2 + n3 + n4 + n5) (by omega) h5
    have no : steleref08_Decide.j1 (n1 + n2 + n3 + n4 + n5 + 1) xs u v w acc (i : Int) false = some (dec u v w acc (xs.drop (i + 1))) := by
      unfold steleref08_Decide.j1
      rw [if_neg (by decide), w1' i (by omega)]
      exact K4
    unfold steleref08_Decide.l0
    rw [if_pos (by omega), if_pos (by omega), rd34 xs i hi, rm_at _ (by omega) h1, rm_at _ (by omega) h2, rm_at _ (by omega) h3]
    simp only [Option.bind_some]
    rw [List.drop_eq_getElem_cons hi]
    unfold dec hit
    cases gb (Ls xs[i].f1) (Ls u) with
    | false => simp only [Bool.false_eq_true, if_false, Bool.false_and]; exact no
    | true =>
      cases gb (Ls xs[i].f2) (Ls v) with
      | false => simp only [Bool.false_eq_true, if_false, if_true, Bool.false_and, Bool.and_false]; exact no
      | true =>
        cases gb (Ls xs[i].f3) (Ls w) with
        | false => simp only [Bool.false_eq_true, if_false, if_true, Bool.false_and, Bool.and_false]; exact no
        | true =>
          simp only [if_true, Bool.and_self]
          unfold steleref08_Decide.j1
          rw [if_pos rfl, if_pos (by omega), if_pos (by omega), rd34 xs i hi]
          split
          · rfl
          · rw [w1' i (by omega)]; exact K5
theorem rD_ok (u v w : ByteArray) (hu : u.size ≤ 140737488351232) (hv : v.size ≤ 140737488351232) (hw : w.size ≤ 140737488351232) (xs : List S34) (hl : xs.length ≤ 140737488351232) (hx : ∀ x ∈ xs, S34.small x) : ∃ n, steleref08_Decide.f n xs u v w = some (dec u v w 0 xs) :=
  rD_run u v w hu hv hw xs hl hx xs.length 0 0 (by omega)
theorem own_run (xs : List S34) (hl : xs.length < 2513169434916) : ∀ d i pre, d = xs.length - i → pre = (xs.take i).map cv → i ≤ xs.length → ∃ n, stelelaw08_Own.l0 n xs pre (i : Int) = some (xs.map cv) := by
  intro d
  induction d with
  | zero =>
    intro i pre hd hp hi
    refine ⟨1, ?_⟩
    unfold stelelaw08_Own.l0
    rw [if_neg (by omega), hp, List.take_of_length_le (by omega)]
  | succ d ih =>
    intro i pre hd hp hi
    have hi' : i < xs.length := by omega
    obtain ⟨n, hn⟩ := ih (i + 1) (pre ++ [cv xs[i]]) (by omega) (by rw [hp, List.take_add_one, List.getElem?_eq_getElem hi', List.map_append]; rfl) (by omega)
    refine ⟨n + 1, ?_⟩
    unfold stelelaw08_Own.l0
    have hpl : pre.length = i := by rw [hp, List.length_map, List.length_take]; omega
    rw [if_pos (by omega), if_pos (by omega), if_pos (by omega), rd34 xs i hi', w1' i (by omega)]
    exact hn
theorem own_ok (xs : List S34) (hl : xs.length < 2513169434916) : ∃ n, stelelaw08_Own.f n xs = some (xs.map cv) := own_run xs hl xs.length 0 [] (by omega) (by simp) (by omega)
theorem pDf_at {l : List S43} {u v w : ByteArray} {r : Int} {n : Nat} (k : Nat) (hk : n ≤ k) (h : policy_Decide.f n l u v w = some r) : policy_Decide.f k l u v w = some r := at_rounds (g := fun k => policy_Decide.f k l u v w) (policy_Decide.mono l u v w) hk h
theorem rDf_at {l : List S34} {u v w : ByteArray} {r : Int} {n : Nat} (k : Nat) (hk : n ≤ k) (h : steleref08_Decide.f n l u v w = some r) : steleref08_Decide.f k l u v w = some r := at_rounds (g := fun k => steleref08_Decide.f k l u v w) (steleref08_Decide.mono l u v w) hk h
theorem own_at {l : List S34} {r : List S43} {n : Nat} (k : Nat) (hk : n ≤ k) (h : stelelaw08_Own.f n l = some r) : stelelaw08_Own.f k l = some r := at_rounds (g := fun k => stelelaw08_Own.f k l) (stelelaw08_Own.mono l) hk h
end Go.Proofs.YtooibmnanmmgiaaDoor.GB
