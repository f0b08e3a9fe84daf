/- The plain law of DigestBack: what was written as digits is read as it was, and a text that is read is what is written of it. -/
import Derived.Test.YtpopampcfgpojaaDefDigestBack
import Derived.Test.YtpopampcfgpojaaHexL
namespace Go.Proofs.Ytpopampcfgpojaa.Pure
open Go.RowKit Go.Proofs.YtpopampcfgpojaaW.PrintWords Go.Proofs.YtpopampcfgpojaaW.PrintLast Go.Proofs.YtpopampcfgpojaaW.PrintMore Go.Proofs.Ytpopampcfgpojaa.Opn Go.Proofs.Ytpopampcfgpojaa.PH Go.Proofs.Ytpopampcfgpojaa.PG Go.Proofs.Ytpopampcfgpojaa.HexL
set_option linter.unusedVariables false
set_option linter.unusedSimpArgs false

theorem hx_all : ∀ n : Fin 16, dv (((PG.hx (n.val : Int)).toNat : Nat) : Int) = (n.val : Int) := by decide +kernel
theorem hx_dv (n : Int) (h0 : 0 ≤ n) (h1 : n < 16) : dv ((PG.hx n).toNat : Int) = n := by
  have := hx_all ⟨n.toNat, by omega⟩
  have e : ((n.toNat : Nat) : Int) = n := by omega
  simpa only [e] using this
theorem dv_all : ∀ c : Fin 256, dv (c.val : Int) < 16 → (PG.hx (dv (c.val : Int))).toNat = c.val := by decide +kernel
theorem dv_hx (c : UInt8) (h : dv (c.toNat : Int) < 16) : PG.hx (dv (c.toNat : Int)) = c := by
  apply UInt8.toNat_inj.1
  exact dv_all ⟨c.toNat, c.toNat_lt⟩ h
theorem bt_list (l : List UInt8) (i : Nat) (h : i < l.length) : bt ⟨l.toArray⟩ (i : Int) = ((l[i]'h).toNat : Int) := by
  rw [← bt_at (⟨l.toArray⟩ : ByteArray) (i : Int) (by simpa [ByteArray.size] using h)]
  rfl
theorem hexL_get (l : List Int) : ∀ (i : Nat) (h : i < l.length), (hexL l)[2 * i]? = some (PG.hx (l[i] / 16)) ∧ (hexL l)[2 * i + 1]? = some (PG.hx (l[i] % 16)) := by
  induction l with
  | nil => intro i h; simp at h
  | cons x l ih =>
    intro i h
    have e : hexL (x :: l) = PG.hx (x / 16) :: PG.hx (x % 16) :: hexL l := by simp [hexL, hex1, List.flatMap_cons]
    rw [e]
    cases i with
    | zero => exact ⟨rfl, rfl⟩
    | succ i =>
      have := ih i (by simpa using h)
      have e2 : 2 * (i + 1) = 2 * i + 1 + 1 := by omega
      have e3 : 2 * (i + 1) + 1 = 2 * i + 1 + 1 + 1 := by omega
      rw [e3, e2]
      simpa using this
theorem U_hex (l : List Int) (hb : ∀ x ∈ l, 0 ≤ x ∧ x ≤ 255) : ∀ (d i : Nat), i + d = l.length → U ⟨(hexL l).toArray⟩ d (2 * i) (l.take i) = (l, 0) := by
  intro d
  induction d with
  | zero => intro i h; simp only [U]; rw [List.take_of_length_le (by omega)]
  | succ d ih =>
    intro i h
    have hi : i < l.length := by omega
    obtain ⟨g1, g2⟩ := hexL_get l i hi
    obtain ⟨q1, g1⟩ := List.getElem?_eq_some_iff.1 g1
    obtain ⟨q2, g2⟩ := List.getElem?_eq_some_iff.1 g2
    simp only [U]
    rw [bt_list _ _ q1, bt_list _ _ q2, g1, g2]
    have hx := hb _ (List.getElem_mem hi)
    rw [hx_dv _ (by omega) (by omega), hx_dv _ (by omega) (by omega), if_neg (by omega)]
    have := ih (i + 1) (by omega)
    have e : l[i] / 16 * 16 + l[i] % 16 = l[i] := by omega
    rw [e]
    rw [List.take_add_one, List.getElem?_eq_getElem hi] at this
    exact this
theorem U_back (s : ByteArray) : ∀ (n i : Nat) (acc y : List Int), i + 2 * n = s.size → hexL acc = s.data.toList.take i → U s n i acc = (y, 0) → hexL y = s.data.toList := by
  intro n
  induction n with
  | zero =>
    intro i acc y h ha hu
    simp only [U] at hu
    obtain ⟨rfl, _⟩ := Prod.mk.inj hu
    rw [ha, List.take_of_length_le]
    have : s.data.toList.length = s.size := rfl
    omega
  | succ n ih =>
    intro i acc y h ha hu
    simp only [U] at hu
    by_cases c : dv (bt s (i : Int)) > 15 ∨ dv (bt s ((i + 1 : Nat) : Int)) > 15
    · rw [if_pos c] at hu
      have := (Prod.mk.inj hu).2
      omega
    · rw [if_neg c] at hu
      refine ih (i + 2) _ y (by omega) ?_ hu
      have hsz : s.data.toList.length = s.size := rfl
      have b1 := bt_list s.data.toList i (by omega)
      have b2 := bt_list s.data.toList (i + 1) (by omega)
      have es : (⟨s.data.toList.toArray⟩ : ByteArray) = s := by cases s; simp
      rw [es] at b1 b2
      rw [b1, b2] at c ⊢
      have d1 := dv_hx (s.data.toList[i]'(by omega)) (by omega)
      have d2 := dv_hx (s.data.toList[i + 1]'(by omega)) (by omega)
      have k1 := dv_bd ((s.data.toList[i]'(by omega)).toNat : Int)
      have k2 := dv_bd ((s.data.toList[i + 1]'(by omega)).toNat : Int)
      have e1 : ∀ a b : Int, 0 ≤ b → b < 16 → (a * 16 + b) / 16 = a := by intro a b _ _; omega
      have e2 : ∀ a b : Int, 0 ≤ b → b < 16 → (a * 16 + b) % 16 = b := by intro a b _ _; omega
      have f : hexL (acc ++ [dv ((s.data.toList[i]'(by omega)).toNat : Int) * 16 + dv ((s.data.toList[i + 1]'(by omega)).toNat : Int)]) = hexL acc ++ [s.data.toList[i]'(by omega), s.data.toList[i + 1]'(by omega)] := by
        simp only [hexL, List.flatMap_append, List.flatMap_cons, List.flatMap_nil, List.append_nil, hex1]
        rw [e1 _ _ k2.1 (by omega), e2 _ _ k2.1 (by omega), d1, d2]
      rw [f, ha, List.take_add_one, List.take_add_one, List.getElem?_eq_getElem (by omega), List.getElem?_eq_getElem (by omega)]
      simp
theorem DigestBack : stelelaw01_DigestBack.Pure := by
  intro l s hl hs hbulk
  rw [sum_ones] at hbulk
  have hb : ∀ x ∈ l, 0 ≤ x ∧ x ≤ 255 := fun x hx => by have := u8_ok (hl.2 x hx); omega
  refine ⟨4194304, ?_⟩
  have h240 : digest_Hex.f [240] = some ⟨(hexL [240]).toArray⟩ := hex_eq [240] (by simp) (by simp)
  have hsz : (⟨(hexL l).toArray⟩ : ByteArray).size = 2 * l.length := hexL_len l
  have hun : digest_Unhex.f 4194304 ⟨(hexL l).toArray⟩ = some (l, 0) := by
    rw [unhex_eq _ (by omega) _ (by omega), hsz, if_pos (by omega)]
    have := U_hex l hb l.length 0 (by omega)
    have e : 2 * l.length / 2 = l.length := by omega
    rw [e]
    simpa using this
  have J : ∀ k, k = 4194303 → stelelaw01_DigestBack.j0 (k + 1) s false = some true := by
    intro k hk
    simp only [stelelaw01_DigestBack.j0, Bool.false_eq_true, if_false]
    rw [unhex_eq s hs _ (by omega)]
    simp only [Option.bind_some]
    by_cases c : s.size % 2 = 0
    · rw [if_pos c]
      obtain ⟨y, e, hy⟩ : ∃ y e, U s (s.size / 2) 0 [] = ((y, e) : List Int × Int) := ⟨_, _, rfl⟩
      rw [hy]
      simp only
      by_cases ce : e = 0
      · subst ce
        have bd := U_bd s (s.size / 2) 0 [] (by simp)
        rw [hy] at bd
        simp only [List.length_nil, Nat.zero_add] at bd
        rw [if_pos rfl, hex_eq y (by omega) bd.1]
        simp only [Option.bind_some]
        rw [U_back s (s.size / 2) 0 [] y (by omega) (by simp [hexL]) hy, ByteArray.toList_eq]
        simp
      · rw [if_neg ce]
    · rw [if_neg c]; rfl
  unfold stelelaw01_DigestBack.f
  rw [hex_eq l (by omega) hb]
  simp only [Option.bind_some]
  rw [hun]
  simp only [Option.bind_some, if_true]
  rw [rsame l l (by omega) _ (by omega), h240]
  simp only [Option.bind_some, beq_self_eq_true, if_true]
  exact J 4194303 rfl
end Go.Proofs.Ytpopampcfgpojaa.Pure
