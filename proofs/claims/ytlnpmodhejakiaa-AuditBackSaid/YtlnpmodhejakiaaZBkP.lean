/- AuditBack in plain words: a record that is shown is read as it was, and bytes that are read are what is shown of it. -/
import Derived.Test.YtlnpmodhejakiaaZAudRd
import Derived.Test.YtlnpmodhejakiaaZDecL
namespace Go.Proofs.Ytlnpmodhejakiaa.AV
open Go.RowKit Go.Proofs.YtlnpmodhejakiaaW.PrintWords Go.Proofs.YtlnpmodhejakiaaW.PrintLast Go.Proofs.YtlnpmodhejakiaaW.PrintMore Go.Proofs.Ytlnpmodhejakiaa.Sha Go.Proofs.Ytlnpmodhejakiaa.D Go.Proofs.Ytlnpmodhejakiaa.PC Go.Proofs.Ytlnpmodhejakiaa.CP Go.Proofs.Ytlnpmodhejakiaa.PV
set_option linter.unusedVariables false
set_option linter.unusedSimpArgs false
theorem str_sizeB (l : List Int) : (strOfNums l).size = l.length := by
  unfold strOfNums ByteArray.size
  simp
theorem uint_okB {l : List Int} {bad : Bool} {n : Int} {l' : List Int} {q : Bool} (h : uintS l bad = (n, l', q)) (hl : okL l) : (0 ≤ n ∧ n ≤ 18446744073709551615) ∧ okL l' ∧ l'.length ≤ l.length := by
  unfold uintS at h
  cases hv : headV l bad 117 8 with
  | none => rw [hv] at h; simp only [Prod.mk.injEq] at h; obtain ⟨rfl, rfl, rfl⟩ := h; exact ⟨by omega, hl, Nat.le_refl _⟩
  | some m =>
    rw [hv] at h
    simp only [Prod.mk.injEq] at h
    obtain ⟨rfl, rfl, rfl⟩ := h
    have := headV_bd hl hv
    have h8 : (256 : Int) ^ 8 = 18446744073709551616 := by decide
    refine ⟨⟨this.2.2.2.2.1, by have := this.2.2.2.2.2; omega⟩, okL_drop hl _, by rw [List.length_drop]; omega⟩
theorem some_okB {l : List Int} {bad : Bool} {s : Int} {t l' : List Int} {q : Bool} (h : someS l bad s = (t, l', q)) (hl : okL l) : B255 t ∧ t.length ≤ l.length ∧ okL l' ∧ l'.length ≤ l.length := by
  unfold someS at h
  cases hv : headV l bad s 4 with
  | none => rw [hv] at h; simp only [Prod.mk.injEq] at h; obtain ⟨rfl, rfl, rfl⟩ := h; exact ⟨B255.nil, Nat.zero_le _, hl, Nat.le_refl _⟩
  | some m =>
    rw [hv] at h
    simp only at h
    split at h
    · simp only [Prod.mk.injEq] at h; obtain ⟨rfl, rfl, rfl⟩ := h; exact ⟨B255.nil, Nat.zero_le _, hl, Nat.le_refl _⟩
    · simp only [Prod.mk.injEq] at h
      obtain ⟨rfl, rfl, rfl⟩ := h
      exact ⟨fun y hy => hl.2 y (List.mem_of_mem_drop (List.mem_of_mem_take hy)), by rw [List.length_take, List.length_drop]; omega, okL_drop hl _, by rw [List.length_drop]; omega⟩
theorem numBE_inj : ∀ (n : Nat) (a b : List Int), a.length = n → b.length = n → B255 a → B255 b → numBE a = numBE b → a = b := by
  intro n
  induction n with
  | zero => intro a b ha hb _ _ _; rw [List.length_eq_zero_iff.1 ha, List.length_eq_zero_iff.1 hb]
  | succ n ih =>
    intro a b ha hb ba bb h
    rcases List.eq_nil_or_concat a with rfl | ⟨a', x, rfl⟩
    · cases ha
    · rcases List.eq_nil_or_concat b with rfl | ⟨b', y, rfl⟩
      · cases hb
      · simp only [List.concat_eq_append] at *
        rw [List.length_append, List.length_singleton] at ha hb
        rw [numBE_snoc, numBE_snoc] at h
        have hx := ba x (by simp)
        have hy := bb y (by simp)
        have e : x = y := by omega
        subst e
        rw [ih a' b' (by omega) (by omega) (fun z hz => ba z (by simp [hz])) (fun z hz => bb z (by simp [hz])) (by omega)]
theorem longL_back {v : List Int} {m : Nat} (hv : v.length = m) (hb : B255 v) (h0 : 0 ≤ numBE v) (h1 : numBE v < 256 ^ m) : longL (numBE v) m = v := by
  obtain ⟨N, hN⟩ := Int.eq_ofNat_of_zero_le h0
  refine numBE_inj m _ _ (longL_len _ _) hv (longL_bd _ _) hb ?_
  rw [hN]
  refine longL_num N m ?_
  rw [hN] at h1
  have e : ((256 : Int) ^ m) = ((256 ^ m : Nat) : Int) := by rw [Int.natCast_pow]; rfl
  rw [e] at h1
  exact Int.ofNat_lt.1 h1
theorem headV_back {l : List Int} {bad : Bool} {s n : Int} {m : Nat} (h : okL l) (hv : headV l bad s m = some n) : bad = false ∧ m < l.length ∧ l = s :: (longL n m ++ l.drop (m + 1)) := by
  obtain ⟨h1, h2, h3, h4, h5, h6⟩ := headV_bd h hv
  refine ⟨h1, h2, ?_⟩
  cases l with
  | nil => rw [List.length_nil] at h2; omega
  | cons a t =>
    have e : a = s := by simpa using h3
    subst e
    rw [List.length_cons] at h2
    rw [List.drop_one, List.tail_cons] at h4
    subst h4
    have hl : (t.take m).length = m := by rw [List.length_take]; omega
    rw [longL_back hl (fun y hy => h.2 y (List.mem_cons_of_mem _ (List.mem_of_mem_take hy))) h5 h6, List.drop_succ_cons, List.take_append_drop]
def puL (n : Int) : List Int := 117 :: longL n 8
def psL (s : Int) (t : List Int) : List Int := s :: (longL (t.length : Int) 4 ++ t)
theorem uint_back {l : List Int} {bad : Bool} {n : Int} {l' : List Int} (h : okL l) (hv : uintS l bad = (n, l', false)) : bad = false ∧ l = puL n ++ l' := by
  unfold uintS at hv
  cases hh : headV l bad 117 8 with
  | none => rw [hh] at hv; simp at hv
  | some m =>
    rw [hh] at hv
    simp only [Prod.mk.injEq] at hv
    obtain ⟨rfl, rfl, -⟩ := hv
    obtain ⟨h1, -, h3⟩ := headV_back h hh
    exact ⟨h1, h3⟩
theorem some_back {l : List Int} {bad : Bool} {s : Int} {t l' : List Int} (h : okL l) (hv : someS l bad s = (t, l', false)) : bad = false ∧ l = psL s t ++ l' := by
  unfold someS at hv
  cases hh : headV l bad s 4 with
  | none => rw [hh] at hv; simp at hv
  | some m =>
    rw [hh] at hv
    simp only at hv
    split at hv
    · simp at hv
    · rename_i hm
      simp only [Prod.mk.injEq] at hv
      obtain ⟨rfl, rfl, -⟩ := hv
      obtain ⟨h1, h2, h3⟩ := headV_back h hh
      have h0 := (headV_bd h hh).2.2.2.2.1
      refine ⟨h1, ?_⟩
      have e : (((l.drop 5).take m.toNat).length : Int) = m := by rw [List.length_take, List.length_drop]; omega
      unfold psL
      rw [e, List.cons_append, List.append_assoc, ← List.drop_drop, List.take_append_drop]
      exact h3
theorem done_back {l : List Int} {q : Bool} (h : doneS l q = 0) : q = false ∧ l = [] := by
  unfold doneS at h
  split at h
  · cases h
  · rename_i hh
    refine ⟨?_, ?_⟩
    · cases q with
      | false => rfl
      | true => exact absurd (Or.inl rfl) hh
    · exact Classical.not_not.1 (fun hn => hh (Or.inr hn))
theorem showP_eq (x : S69) : showP x = puL x.f0 ++ (puL x.f1 ++ (psL 115 (bytesOf x.f2) ++ (puL (pos x.f3) ++ (psL 115 (bytesOf x.f4) ++ (psL 115 (bytesOf x.f5) ++ (puL x.f6 ++ (puL (pos x.f7) ++ (psL 98 x.f8 ++ (psL 98 x.f9 ++ []))))))))) := by
  unfold showP bytesL uintL textL puL psL
  simp only [List.append_assoc, List.cons_append, List.nil_append, List.append_nil, bytesOf_length]
theorem str_bytes (s : ByteArray) : strOfNums (bytesOf s) = s := by
  unfold strOfNums bytesOf
  cases s with
  | mk a =>
    simp only [List.map_map]
    congr 1
    have e : (a.toList.map ((fun n : Int => UInt8.ofNat n.toNat) ∘ fun (c : UInt8) => (c.toNat : Int))) = a.toList := by
      conv => rhs; rw [← List.map_id a.toList]
      apply List.map_congr_left
      intro c _
      show UInt8.ofNat ((c.toNat : Int).toNat) = id c
      rw [Int.toNat_natCast]
      exact UInt8.ofNat_toNat
    simp [e]
theorem right_mn (f0 f1 : Int) (f2 : ByteArray) (f3 : Int) (f4 f5 : ByteArray) (f6 f7 : Int) (f8 f9 : List Int) : rightP ⟨f0, f1, f2, mn f3 20, f4, f5, f6, mn f7 10000, f8, f9⟩ = rightP ⟨f0, f1, f2, f3, f4, f5, f6, f7, f8, f9⟩ := by
  unfold rightP
  have e1 : decide (0 ≤ mn f3 20) = decide (0 ≤ f3) := decide_eq_decide.2 (by unfold mn; split <;> omega)
  have e2 : decide (mn f3 20 ≤ 19) = decide (f3 ≤ 19) := decide_eq_decide.2 (by unfold mn; split <;> omega)
  have e3 : decide (0 ≤ mn f7 10000) = decide (0 ≤ f7) := decide_eq_decide.2 (by unfold mn; split <;> omega)
  have e4 : decide (mn f7 10000 ≤ 9999) = decide (f7 ≤ 9999) := decide_eq_decide.2 (by unfold mn; split <;> omega)
  simp only [e1, e2, e3, e4]
theorem right_le {x : S69} (h : rightP x = true) : (0 ≤ x.f3 ∧ x.f3 ≤ 19) ∧ 0 ≤ x.f7 ∧ x.f7 ≤ 9999 := by
  unfold rightP at h
  simp only [Bool.and_eq_true, decide_eq_true_eq] at h
  exact ⟨⟨h.1.1.1.1.1.1.2, h.1.1.1.1.1.2⟩, h.1.1.1.1.2, h.1.1.1.2⟩
theorem RdPost_congr {x y : S69} {good : Bool} {w w' : World} {e : Ending} (h : RdPost x good w e w') (hx : good = true → x = y) : RdPost y good w e w' := by
  cases good with
  | true => rw [← hx rfl]; exact h
  | false =>
    unfold RdPost at *
    rw [if_neg (by decide)] at h ⊢
    exact h
theorem back1 (x : S69) (hx : okX x) (h3 : 0 ≤ x.f3) (h7 : 0 ≤ x.f7) (hb : x.f2.size + x.f4.size + x.f5.size + x.f8.length + x.f9.length ≤ 5000) (A : Option Addr) (c : Nat) (w : World)
    (hC : Kd.C (Kd.int .u8) w A (showP x).length (showP x)) (hc : (showP x).length ≤ c) :
    Calls Try.prog 88 #[.slice A (showP x).length c] w fun e w' => RdPost x (rightP x) w e w' := by
  have hx' := hx
  obtain ⟨f0, f1, f2, f3, f4, f5, f6, f7, f8, f9⟩ := x
  obtain ⟨s0, s1, s6, s3, s7, bulk, b8, b9⟩ := hx
  simp only at h3 h7 hb s0 s1 s6 s3 s7 bulk b8 b9
  have p3 : pos f3 = f3 := by unfold pos mx; split <;> omega
  have p7 : pos f7 = f7 := by unfold pos mx; split <;> omega
  have ok8 : okL (showP ⟨f0, f1, f2, f3, f4, f5, f6, f7, f8, f9⟩) := ⟨by rw [showP_len]; show f2.size + f4.size + f5.size + f8.length + f9.length + 70 ≤ _; omega, showP_bd _ hx'⟩
  have hln : (showP ⟨f0, f1, f2, f3, f4, f5, f6, f7, f8, f9⟩).length ≤ 10000 := by rw [showP_len]; show f2.size + f4.size + f5.size + f8.length + f9.length + 70 ≤ _; omega
  have hE := showP_eq ⟨f0, f1, f2, f3, f4, f5, f6, f7, f8, f9⟩
  simp only [p3, p7] at hE
  have z2 : (bytesOf f2).length ≤ 4294967295 := by rw [bytesOf_length]; omega
  have z4 : (bytesOf f4).length ≤ 4294967295 := by rw [bytesOf_length]; omega
  have z5 : (bytesOf f5).length ≤ 4294967295 := by rw [bytesOf_length]; omega
  have okd : ∀ {a b : List Int}, okL (a ++ b) → okL b := fun {a b} h => ⟨by have := h.1; rw [List.length_append] at this; omega, fun y hy => h.2 y (List.mem_append_right _ hy)⟩
  have o0 := ok8
  rw [hE] at o0
  have o1 := okd o0
  have o2 := okd o1
  have o3 := okd o2
  have o4 := okd o3
  have o5 := okd o4
  have o6 := okd o5
  have o7 := okd o6
  have o8 := okd o7
  have o9 := okd o8
  have hX : okX ⟨f0, f1, strOfNums (bytesOf f2), mn f3 20, strOfNums (bytesOf f4), strOfNums (bytesOf f5), f6, mn f7 10000, f8, f9⟩ := ⟨s0, s1, s6, by show _ ≤ mn f3 20 ∧ mn f3 20 ≤ _; unfold mn; split <;> omega, by show _ ≤ mn f7 10000 ∧ mn f7 10000 ≤ _; unfold mn; split <;> omega, by rw [str_bytes, str_bytes, str_bytes]; exact bulk, b8, b9⟩
  have hd : (decide (doneS [] false = 0)) = true := by decide
  have hr : rightP (⟨f0, f1, strOfNums (bytesOf f2), mn f3 20, strOfNums (bytesOf f4), strOfNums (bytesOf f5), f6, mn f7 10000, f8, f9⟩ : S69) = rightP ⟨f0, f1, f2, f3, f4, f5, f6, f7, f8, f9⟩ := by rw [right_mn, str_bytes, str_bytes, str_bytes]
  refine (aread_any A c _ w hC hc hln f0 f1 f3 f6 f7 (bytesOf f2) (bytesOf f4) (bytesOf f5) f8 f9 _ _ _ _ _ _ _ _ _ _ [] false false false false false false false false false false false hE.symm rfl
    (d_uint f0 _ s0) o0 (d_uint f1 _ s1) o1 (d_some 115 _ _ z2) o2 (d_uint f3 _ ⟨h3, by omega⟩) o3 (d_some 115 _ _ z4) o4 (d_some 115 _ _ z5) o5 (d_uint f6 _ s6) o6 (d_uint f7 _ ⟨h7, by omega⟩) o7 (d_some 98 _ _ (by omega)) o8 (d_some 98 _ _ (by omega)) o9
    ⟨h3, by omega⟩ ⟨h7, by omega⟩ hX (rightP ⟨f0, f1, f2, f3, f4, f5, f6, f7, f8, f9⟩) (by rw [hd, hr, Bool.true_and])).mono fun e w' h => RdPost_congr h ?_
  intro hg
  have := right_le hg
  simp only at this
  rw [str_bytes, str_bytes, str_bytes, show mn f3 20 = f3 by unfold mn; split <;> omega, show mn f7 10000 = f7 by unfold mn; split <;> omega]
theorem back2 (b : List Int) (hb : okL b) (hl : b.length ≤ 10000) : ∃ (y : S69) (good : Bool), okX y ∧ (good = true → showP y = b) ∧
    ∀ (A : Option Addr) (c : Nat) (w : World), Kd.C (Kd.int .u8) w A b.length b → b.length ≤ c → Calls Try.prog 88 #[.slice A b.length c] w fun e w' => RdPost y good w e w' := by
  obtain ⟨⟨n0, l1, q1⟩, H0⟩ : ∃ r, uintS b false = r := ⟨_, rfl⟩
  have b0 := uint_okB H0 hb
  have e1 : l1.length ≤ 10000 := Nat.le_trans b0.2.2 hl
  obtain ⟨⟨n1, l2, q2⟩, H1⟩ : ∃ r, uintS l1 q1 = r := ⟨_, rfl⟩
  have b1 := uint_okB H1 b0.2.1
  have e2 : l2.length ≤ 10000 := Nat.le_trans b1.2.2 e1
  obtain ⟨⟨t2, l3, q3⟩, H2⟩ : ∃ r, someS l2 q2 115 = r := ⟨_, rfl⟩
  have b2 := some_okB H2 b1.2.1
  have e3 : l3.length ≤ 10000 := Nat.le_trans b2.2.2.2 e2
  obtain ⟨⟨n3, l4, q4⟩, H3⟩ : ∃ r, uintS l3 q3 = r := ⟨_, rfl⟩
  have b3 := uint_okB H3 b2.2.2.1
  have e4 : l4.length ≤ 10000 := Nat.le_trans b3.2.2 e3
  obtain ⟨⟨t4, l5, q5⟩, H4⟩ : ∃ r, someS l4 q4 115 = r := ⟨_, rfl⟩
  have b4 := some_okB H4 b3.2.1
  have e5 : l5.length ≤ 10000 := Nat.le_trans b4.2.2.2 e4
  obtain ⟨⟨t5, l6, q6⟩, H5⟩ : ∃ r, someS l5 q5 115 = r := ⟨_, rfl⟩
  have b5 := some_okB H5 b4.2.2.1
  have e6 : l6.length ≤ 10000 := Nat.le_trans b5.2.2.2 e5
  obtain ⟨⟨n6, l7, q7⟩, H6⟩ : ∃ r, uintS l6 q6 = r := ⟨_, rfl⟩
  have b6 := uint_okB H6 b5.2.2.1
  have e7 : l7.length ≤ 10000 := Nat.le_trans b6.2.2 e6
  obtain ⟨⟨n7, l8, q8⟩, H7⟩ : ∃ r, uintS l7 q7 = r := ⟨_, rfl⟩
  have b7 := uint_okB H7 b6.2.1
  have e8 : l8.length ≤ 10000 := Nat.le_trans b7.2.2 e7
  obtain ⟨⟨s8, l9, q9⟩, H8⟩ : ∃ r, someS l8 q8 98 = r := ⟨_, rfl⟩
  have b8 := some_okB H8 b7.2.1
  have e9 : l9.length ≤ 10000 := Nat.le_trans b8.2.2.2 e8
  obtain ⟨⟨s9, l10, q10⟩, H9⟩ : ∃ r, someS l9 q9 98 = r := ⟨_, rfl⟩
  have b9 := some_okB H9 b8.2.2.1
  have e10 : l10.length ≤ 10000 := Nat.le_trans b9.2.2.2 e9
  have x2 := b2.2.1
  have x4 := b4.2.1
  have x5 := b5.2.1
  have x8 := b8.2.1
  have x9 := b9.2.1
  have bulk : (strOfNums t2).size + (strOfNums t4).size + (strOfNums t5).size + s8.length + s9.length ≤ 1000000 := by rw [str_sizeB, str_sizeB, str_sizeB]; omega
  have okA : okX ⟨n0, n1, strOfNums t2, mn n3 20, strOfNums t4, strOfNums t5, n6, mn n7 10000, s8, s9⟩ := ⟨b0.1, b1.1, b6.1, by show _ ≤ mn n3 20 ∧ mn n3 20 ≤ _; unfold mn; split <;> omega, by show _ ≤ mn n7 10000 ∧ mn n7 10000 ≤ _; unfold mn; split <;> omega, bulk, b8.1, b9.1⟩
  refine ⟨⟨n0, n1, strOfNums t2, mn n3 20, strOfNums t4, strOfNums t5, n6, mn n7 10000, s8, s9⟩, (decide (doneS l10 q10 = 0) && rightP ⟨n0, n1, strOfNums t2, mn n3 20, strOfNums t4, strOfNums t5, n6, mn n7 10000, s8, s9⟩), okA, ?_, fun A c w hC hc => aread_any A c b w hC hc hl n0 n1 n3 n6 n7 t2 t4 t5 s8 s9 b l1 l2 l3 l4 l5 l6 l7 l8 l9 l10 false q1 q2 q3 q4 q5 q6 q7 q8 q9 q10 rfl rfl H0 hb H1 b0.2.1 H2 b1.2.1 H3 b2.2.2.1 H4 b3.2.1 H5 b4.2.2.1 H6 b5.2.2.1 H7 b6.2.1 H8 b7.2.1 H9 b8.2.2.1 b3.1 b7.1 okA _ rfl⟩
  intro hg
  rw [Bool.and_eq_true, decide_eq_true_eq] at hg
  obtain ⟨hd, hr⟩ := hg
  obtain ⟨rfl, rfl⟩ := done_back hd
  rw [right_mn] at hr
  have hle := right_le hr
  simp only at hle
  obtain ⟨rfl, e_9⟩ := some_back b8.2.2.1 H9
  obtain ⟨rfl, e_8⟩ := some_back b7.2.1 H8
  obtain ⟨rfl, e_7⟩ := uint_back b6.2.1 H7
  obtain ⟨rfl, e_6⟩ := uint_back b5.2.2.1 H6
  obtain ⟨rfl, e_5⟩ := some_back b4.2.2.1 H5
  obtain ⟨rfl, e_4⟩ := some_back b3.2.1 H4
  obtain ⟨rfl, e_3⟩ := uint_back b2.2.2.1 H3
  obtain ⟨rfl, e_2⟩ := some_back b1.2.1 H2
  obtain ⟨rfl, e_1⟩ := uint_back b0.2.1 H1
  obtain ⟨-, e_0⟩ := uint_back hb H0
  rw [showP_eq]
  simp only
  rw [bytes_str t2 b2.1, bytes_str t4 b4.1, bytes_str t5 b5.1, show pos (mn n3 20) = n3 by unfold pos mx mn; (repeat' split) <;> omega, show pos (mn n7 10000) = n7 by unfold pos mx mn; (repeat' split) <;> omega]
  rw [← e_9, ← e_8, ← e_7, ← e_6, ← e_5, ← e_4, ← e_3, ← e_2, ← e_1, ← e_0]
end Go.Proofs.Ytlnpmodhejakiaa.AV
