/- The audit's contracts in plain words; a literal row of records; stelelaw14.alive. -/
import Derived.Test.YtlnpmodhejakiaaZAudP
import Derived.Test.YtlnpmodhejakiaaZQCall
namespace Go.Proofs.Ytlnpmodhejakiaa.AV
open Go.RowKit Go.Proofs.YtlnpmodhejakiaaW.PrintWords Go.Proofs.YtlnpmodhejakiaaW.PrintLast Go.Proofs.YtlnpmodhejakiaaW.PrintMore Go.Proofs.Ytlnpmodhejakiaa.Sha Go.Proofs.Ytlnpmodhejakiaa.D Go.Proofs.Ytlnpmodhejakiaa.PC Go.Proofs.Ytlnpmodhejakiaa.CP Go.Proofs.Ytlnpmodhejakiaa.PV
set_option linter.unusedVariables false
set_option linter.unusedSimpArgs false
structure RecC (w : World) (x : S69) (A8 : Option Addr) (c8 : Nat) (A9 : Option Addr) (c9 : Nat) : Prop where
  C8 : Kd.C (Kd.int .u8) w A8 x.f8.length x.f8
  h8 : x.f8.length ≤ c8
  C9 : Kd.C (Kd.int .u8) w A9 x.f9.length x.f9
  h9 : x.f9.length ≤ c9
theorem RecC.below {w w' : World} {x : S69} {A8 A9 : Option Addr} {c8 c9 : Nat} (h : RecC w x A8 c8 A9 c9) (hb : Below w.heap.size w w') : RecC w' x A8 c8 A9 c9 := ⟨Kd.C_below h.C8 hb, h.h8, Kd.C_below h.C9 hb, h.h9⟩
theorem RecC.k {w : World} {x : S69} {A8 A9 : Option Addr} {c8 c9 : Nat} (h : RecC w x A8 c8 A9 c9) : k69.K w x [.int .u64 x.f0, .int .u64 x.f1, .string x.f2, .int .i64 x.f3, .string x.f4, .string x.f5, .int .u64 x.f6, .int .i64 x.f7, .slice A8 x.f8.length c8, .slice A9 x.f9.length c9] := k69_mk w x h.h8 h.C8 h.h9 h.C9
theorem C_recs (w : World) (g : Nat) (T : TypeId) : ∀ (xs : List S69) (css : List (List Value)) (pre : List Value) (all : Array Value), xs.length = css.length → w.heap[g]? = some (.cells all T (0, 0)) → all = (pre ++ css.flatten).toArray →
    (∀ (j : Nat) (x : S69), xs[j]? = some x → ∃ cs : List Value, css[j]? = some cs ∧ k69.K w x cs) → ∀ (j : Nat) (x : S69), xs[j]? = some x → ∃ c : List Value, c.length = 10 ∧ k69.K w x c ∧ ∀ (i : Nat) (u : Value), c[i]? = some u → w.cell? ⟨g, pre.length + (j * 10 + i), none⟩ = some u
  | [], _, _, _, _, _, _, _, j, x, hj => by simp at hj
  | y :: ys, [], _, _, hl, _, _, _, _, _, _ => by simp at hl
  | y :: ys, cs :: css, pre, all, hl, hg, ha, hK, j, x, hj => by
    obtain ⟨cs0, e0, K0⟩ := hK 0 y rfl
    obtain rfl : cs = cs0 := by simpa using e0
    have h10 : cs.length = 10 := k69.K_len K0
    cases j with
    | zero =>
      obtain rfl : y = x := by simpa using hj
      refine ⟨cs, h10, K0, fun i u hu => ?_⟩
      rw [blk_cell hg, ha]
      have hi := (List.getElem?_eq_some_iff.1 hu).1
      rw [List.getElem?_toArray, List.getElem?_append_right (by omega), List.flatten_cons, List.getElem?_append_left (by omega)]
      rw [show pre.length + (0 * 10 + i) - pre.length = i by omega]
      exact hu
    | succ j =>
      obtain ⟨c, hc, hk, hcell⟩ := C_recs w g T ys css (pre ++ cs) all (by simpa using hl) hg (by rw [ha, List.flatten_cons, List.append_assoc]) (fun j x hj => hK (j + 1) x (by simpa using hj)) j x (by simpa using hj)
      refine ⟨c, hc, hk, fun i u hu => ?_⟩
      have := hcell i u hu
      rw [List.length_append, h10] at this
      rw [show pre.length + ((j + 1) * 10 + i) = pre.length + 10 + (j * 10 + i) by omega]
      exact this
theorem C_recsL (w : World) (g : Nat) (T : TypeId) (xs : List S69) (css : List (List Value)) (all : Array Value) (hl : xs.length = css.length) (hg : w.heap[g]? = some (.cells all T (0, 0))) (ha : all = css.flatten.toArray) (hK : ∀ (j : Nat) (x : S69), xs[j]? = some x → ∃ cs : List Value, css[j]? = some cs ∧ k69.K w x cs) (n : Nat) (hn : xs.length = n) (hn' : n ≤ 100) : Kd.C k69 w (some ⟨g, 0, none⟩) n xs := by
  refine ⟨hn, by omega, fun _ => ⟨_, rfl, fun j p hj => ?_⟩⟩
  obtain ⟨c, h1, h2, h3⟩ := C_recs w g T xs css [] all hl hg ha hK j p hj
  refine ⟨c, h1, h2, fun i u hu => ?_⟩
  have := h3 i u hu
  rw [List.length_nil, Nat.zero_add] at this
  rw [addr_add, Nat.zero_add]
  exact this
theorem show_c (x : S69) (A8 : Option Addr) (c8 : Nat) (A9 : Option Addr) (c9 : Nat) (w : World) (h : RecC w x A8 c8 A9 c9) (hx : okX x) :
    Calls Try.prog 84 #[.agg #[.int .u64 x.f0, .int .u64 x.f1, .string x.f2, .int .i64 x.f3, .string x.f4, .string x.f5, .int .u64 x.f6, .int .i64 x.f7, .slice A8 x.f8.length c8, .slice A9 x.f9.length c9]] w fun e w' => ∃ v0_ : Value, e = .returned v0_ ∧ Kd.R (Kd.int .u8) 5 w' w.heap.size (fun _ => True) v0_ (showP x) ∧ Below w.heap.size w w' :=
  audit_Show.calls 9 x.f0 x.f1 x.f2 x.f3 x.f4 x.f5 x.f6 x.f7 A8 c8 x.f8 A9 c9 x.f9 _ w h.C8 h.h8 h.C9 h.h9 (a_show x hx 9 (Nat.le_refl _))
theorem dig_c (x : S69) (A8 : Option Addr) (c8 : Nat) (A9 : Option Addr) (c9 : Nat) (w : World) (h : RecC w x A8 c8 A9 c9) (hx : okX x) :
    Calls Try.prog 81 #[.agg #[.int .u64 x.f0, .int .u64 x.f1, .string x.f2, .int .i64 x.f3, .string x.f4, .string x.f5, .int .u64 x.f6, .int .i64 x.f7, .slice A8 x.f8.length c8, .slice A9 x.f9.length c9]] w fun e w' => ∃ v0_ : Value, e = .returned v0_ ∧ Kd.R (Kd.int .u8) 5 w' w.heap.size (fun _ => True) v0_ (digP x) ∧ Below w.heap.size w w' :=
  audit_Digest.calls 9 x.f0 x.f1 x.f2 x.f3 x.f4 x.f5 x.f6 x.f7 A8 c8 x.f8 A9 c9 x.f9 _ w h.C8 h.h8 h.C9 h.h9 (a_digest x hx 9 (Nat.le_refl _))
theorem rdig_c (x : S69) (A8 : Option Addr) (c8 : Nat) (A9 : Option Addr) (c9 : Nat) (w : World) (h : RecC w x A8 c8 A9 c9) (hx : okX x) :
    Calls Try.prog 82 #[.agg #[.int .u64 x.f0, .int .u64 x.f1, .string x.f2, .int .i64 x.f3, .string x.f4, .string x.f5, .int .u64 x.f6, .int .i64 x.f7, .slice A8 x.f8.length c8, .slice A9 x.f9.length c9]] w fun e w' => ∃ v0_ : Value, e = .returned v0_ ∧ Kd.R (Kd.int .u8) 5 w' w.heap.size (fun _ => True) v0_ (digP x) ∧ Below w.heap.size w w' :=
  steleref14_Digest.calls 9 x.f0 x.f1 x.f2 x.f3 x.f4 x.f5 x.f6 x.f7 A8 c8 x.f8 A9 c9 x.f9 _ w h.C8 h.h8 h.C9 h.h9 (r_digest x hx 9 (Nat.le_refl _))
theorem right_c (x : S69) (A8 : Option Addr) (c8 : Nat) (A9 : Option Addr) (c9 : Nat) (w : World) (h : RecC w x A8 c8 A9 c9) (hx : okX x) :
    Calls Try.prog 145 #[.agg #[.int .u64 x.f0, .int .u64 x.f1, .string x.f2, .int .i64 x.f3, .string x.f4, .string x.f5, .int .u64 x.f6, .int .i64 x.f7, .slice A8 x.f8.length c8, .slice A9 x.f9.length c9]] w fun e w' => e = .returned (.bool (rightP x)) ∧ Below w.heap.size w w' :=
  audit_right.calls 1 x.f0 x.f1 x.f2 x.f3 x.f4 x.f5 x.f6 x.f7 A8 c8 x.f8 A9 c9 x.f9 _ w h.C8 h.h8 h.C9 h.h9 (a_right x 1 (Nat.le_refl _))
theorem rright_c (x : S69) (A8 : Option Addr) (c8 : Nat) (A9 : Option Addr) (c9 : Nat) (w : World) (h : RecC w x A8 c8 A9 c9) (hx : okX x) :
    Calls Try.prog 80 #[.agg #[.int .u64 x.f0, .int .u64 x.f1, .string x.f2, .int .i64 x.f3, .string x.f4, .string x.f5, .int .u64 x.f6, .int .i64 x.f7, .slice A8 x.f8.length c8, .slice A9 x.f9.length c9]] w fun e w' => e = .returned (.bool (rightP x)) ∧ Below w.heap.size w w' :=
  by
  rw [← right_eq x hx]
  exact steleref14_Right.calls x.f0 x.f1 x.f2 x.f3 x.f4 x.f5 x.f6 x.f7 A8 c8 x.f8 A9 c9 x.f9 _ w h.C8 h.h8 h.C9 h.h9 rfl
theorem same_c (x : S69) (A8 : Option Addr) (c8 : Nat) (A9 : Option Addr) (c9 : Nat) (y : S69) (B8 : Option Addr) (d8 : Nat) (B9 : Option Addr) (d9 : Nat) (w : World) (h : RecC w x A8 c8 A9 c9) (hx : okX x) (h' : RecC w y B8 d8 B9 d9) (hy : okX y) :
    Calls Try.prog 86 #[.agg #[.int .u64 x.f0, .int .u64 x.f1, .string x.f2, .int .i64 x.f3, .string x.f4, .string x.f5, .int .u64 x.f6, .int .i64 x.f7, .slice A8 x.f8.length c8, .slice A9 x.f9.length c9], .agg #[.int .u64 y.f0, .int .u64 y.f1, .string y.f2, .int .i64 y.f3, .string y.f4, .string y.f5, .int .u64 y.f6, .int .i64 y.f7, .slice B8 y.f8.length d8, .slice B9 y.f9.length d9]] w fun e w' => e = .returned (.bool (sameP x y)) ∧ Below w.heap.size w w' :=
  audit_Same.calls 1000001 x.f0 x.f1 x.f2 x.f3 x.f4 x.f5 x.f6 x.f7 A8 c8 x.f8 A9 c9 x.f9 y.f0 y.f1 y.f2 y.f3 y.f4 y.f5 y.f6 y.f7 B8 d8 y.f8 B9 d9 y.f9 _ w h.C8 h.h8 h.C9 h.h9 h'.C8 h'.h8 h'.C9 h'.h9 (a_same x y hx hy 1000001 (Nat.le_refl _))
theorem rsame_c (x : S69) (A8 : Option Addr) (c8 : Nat) (A9 : Option Addr) (c9 : Nat) (y : S69) (B8 : Option Addr) (d8 : Nat) (B9 : Option Addr) (d9 : Nat) (w : World) (h : RecC w x A8 c8 A9 c9) (hx : okX x) (h' : RecC w y B8 d8 B9 d9) (hy : okX y) :
    Calls Try.prog 75 #[.agg #[.int .u64 x.f0, .int .u64 x.f1, .string x.f2, .int .i64 x.f3, .string x.f4, .string x.f5, .int .u64 x.f6, .int .i64 x.f7, .slice A8 x.f8.length c8, .slice A9 x.f9.length c9], .agg #[.int .u64 y.f0, .int .u64 y.f1, .string y.f2, .int .i64 y.f3, .string y.f4, .string y.f5, .int .u64 y.f6, .int .i64 y.f7, .slice B8 y.f8.length d8, .slice B9 y.f9.length d9]] w fun e w' => e = .returned (.bool (sameP x y)) ∧ Below w.heap.size w w' :=
  steleref14_Same.calls 1000001 x.f0 x.f1 x.f2 x.f3 x.f4 x.f5 x.f6 x.f7 A8 c8 x.f8 A9 c9 x.f9 y.f0 y.f1 y.f2 y.f3 y.f4 y.f5 y.f6 y.f7 B8 d8 y.f8 B9 d9 y.f9 _ w h.C8 h.h8 h.C9 h.h9 h'.C8 h'.h8 h'.C9 h'.h9 (r_same x y hx 1000001 (Nat.le_refl _))
theorem ver_c (A : Option Addr) (c : Nat) (l : List S69) (A1 : Option Addr) (c1 : Nat) (head : List Int) (w : World) (hC : Kd.C k69 w A l.length l) (hc : l.length ≤ c) (hC1 : Kd.C (Kd.int .u8) w A1 head.length head) (hc1 : head.length ≤ c1) (hl : l.length ≤ 1000) (hs : ∀ y ∈ l, okX y) (hh : B255 head) :
    Calls Try.prog 78 #[.slice A l.length c, .slice A1 head.length c1] w fun e w' => e = .returned (.int .i64 (verP l 0 [] head)) ∧ Below w.heap.size w w' :=
  audit_Verify.calls (l.length + 1000002) A c l A1 c1 head _ w hC hc hC1 hc1 (a_verify l hl hs head hh _ (by omega))
theorem bsame_c (A : Option Addr) (c : Nat) (l : List Int) (A1 : Option Addr) (c1 : Nat) (m : List Int) (w : World) (hC : Kd.C (Kd.int .u8) w A l.length l) (hc : l.length ≤ c) (hC1 : Kd.C (Kd.int .u8) w A1 m.length m) (hc1 : m.length ≤ c1) (hl : l.length ≤ 140737488355328) :
    Calls Try.prog 29 #[.slice A l.length c, .slice A1 m.length c1] w fun e w' => e = .returned (.bool (l == m)) ∧ Below w.heap.size w w' :=
  (steleref01_Same.calls (l.length + 1) A c l A1 c1 m _ w hC hc hC1 hc1 (rsame l m (by omega) _ (by omega))).mono fun e w' ⟨he, hd⟩ => ⟨he, hd.below⟩
theorem light_c (A : Option Addr) (c : Nat) (l : List S69) (w : World) (hC : Kd.C k69 w A l.length l) (hc : l.length ≤ c) (hl : l.length ≤ 140737488355328) (hs : ∀ y ∈ l, smallX y) :
    Calls Try.prog 73 #[.slice A l.length c] w fun e w' => e = .returned (.bool (lightP l)) ∧ Below w.heap.size w w' :=
  stelelaw14_light.calls (l.length + 1) A c l _ w hC hc (a_light l hl hs _ (by omega))
def annS : ByteArray := ⟨#[97, 110, 110]⟩
def bobS : ByteArray := ⟨#[98, 111, 98]⟩
def xA : S69 := ⟨1, 0, annS, 7, ⟨#[]⟩, ⟨#[]⟩, 0, 0, [], []⟩
def xB : S69 := ⟨1, 0, bobS, 7, ⟨#[]⟩, ⟨#[]⟩, 0, 0, [], []⟩
theorem ok_ann : okX xA := ⟨by decide, by decide, by decide, by decide, by decide, by decide, (fun _ h => by cases h), (fun _ h => by cases h)⟩
theorem ok_bob : okX xB := ⟨by decide, by decide, by decide, by decide, by decide, by decide, (fun _ h => by cases h), (fun _ h => by cases h)⟩
theorem ex_ab : digP xB ≠ digP xA := by
  have h : (digP xB).getD 0 0 ≠ (digP xA).getD 0 0 := by decide +kernel
  exact fun e => h (by rw [e])
theorem ex_va : verP [xA] 0 [] (digP xA) = 0 := by
  have h : rightP xA = true := by decide +kernel
  unfold verP
  rw [if_pos ⟨h, rfl, rfl⟩]
  unfold verP
  rw [if_pos rfl]
theorem ex_vb : verP [xB] 0 [] (digP xA) = 53 := by
  have h : rightP xB = true := by decide +kernel
  unfold verP
  rw [if_pos ⟨h, rfl, rfl⟩]
  unfold verP
  rw [if_neg ex_ab]
theorem C_none (w : World) (A : Option Addr) : Kd.C (Kd.int .u8) w A 0 [] := ⟨rfl, by omega, fun h => absurd h (by omega)⟩
theorem ex_next : audit_Next.f 0 [] 0 0 annS 7 ⟨#[]⟩ ⟨#[]⟩ 0 0 [] [] = some (1, 0, annS, 7, ⟨#[]⟩, ⟨#[]⟩, 0, 0, [], []) := rfl
theorem next0 (w : World) : Calls Try.prog 76 #[.slice none 0 0, .agg #[.int .u64 0, .int .u64 0, .string ⟨#[97, 110, 110]⟩, .int .i64 7, .string ⟨#[]⟩, .string ⟨#[]⟩, .int .u64 0, .int .i64 0, .slice none 0 0, .slice none 0 0]] w fun e w' => ∃ A8 c8 A9 c9, e = .returned (.agg #[.int .u64 1, .int .u64 0, .string ⟨#[97, 110, 110]⟩, .int .i64 7, .string ⟨#[]⟩, .string ⟨#[]⟩, .int .u64 0, .int .i64 0, .slice A8 0 c8, .slice A9 0 c9]) ∧ Below w.heap.size w w' :=
  (audit_Next.calls 0 none 0 [] 0 0 annS 7 ⟨#[]⟩ ⟨#[]⟩ 0 0 none 0 [] none 0 [] _ _ _ _ _ _ _ _ _ _ w (Kd.C_nil _ _) (Nat.le_refl _) (C_none _ _) (Nat.le_refl _) (C_none _ _) (Nat.le_refl _) ex_next).mono fun e w' ⟨v8, v9, he, h8, h9, hb⟩ => by
    obtain ⟨A8, c8, rfl, _, _⟩ := Kd.R_reads h8
    obtain ⟨A9, c9, rfl, _, _⟩ := Kd.R_reads h9
    exact ⟨A8, c8, A9, c9, he, hb⟩
theorem dig_ann (A8 : Option Addr) (c8 : Nat) (A9 : Option Addr) (c9 : Nat) (w : World) : Calls Try.prog 81 #[.agg #[.int .u64 1, .int .u64 0, .string ⟨#[97, 110, 110]⟩, .int .i64 7, .string ⟨#[]⟩, .string ⟨#[]⟩, .int .u64 0, .int .i64 0, .slice A8 0 c8, .slice A9 0 c9]] w fun e w' => ∃ A c, e = .returned (.slice A 32 c) ∧ 32 ≤ c ∧ Kd.C (Kd.int .u8) w' A 32 (digP xA) ∧ Below w.heap.size w w' := (dig_c xA A8 c8 A9 c9 w ⟨C_none _ _, Nat.zero_le _, C_none _ _, Nat.zero_le _⟩ ok_ann).mono fun e w' ⟨v, he, hr, hb⟩ => by
    obtain ⟨A, c, rfl, hc, hC⟩ := Kd.R_reads hr
    rw [digP_len] at *
    exact ⟨A, c, he, hc, hC, hb⟩
theorem lit_ann (w : World) (g : Nat) (T : TypeId) (A8 : Option Addr) (c8 : Nat) (A9 : Option Addr) (c9 : Nat) (hg : w.heap[g]? = some (.cells #[.int .u64 1, .int .u64 0, .string ⟨#[97, 110, 110]⟩, .int .i64 7, .string ⟨#[]⟩, .string ⟨#[]⟩, .int .u64 0, .int .i64 0, .slice A8 0 c8, .slice A9 0 c9] T (0, 0))) : Kd.C k69 w (some ⟨g, 0, none⟩) 1 [xA] :=
  C_recsL w g T [xA] [[.int .u64 1, .int .u64 0, .string ⟨#[97, 110, 110]⟩, .int .i64 7, .string ⟨#[]⟩, .string ⟨#[]⟩, .int .u64 0, .int .i64 0, .slice A8 0 c8, .slice A9 0 c9]] _ rfl hg rfl (fun j x hj => by
    cases j with
    | zero => obtain rfl : xA = x := by simpa using hj
              exact ⟨_, rfl, (RecC.k (x := xA) ⟨C_none _ _, Nat.zero_le _, C_none _ _, Nat.zero_le _⟩)⟩
    | succ j => simp at hj) 1 rfl (by omega)
theorem lit_bob (w : World) (g : Nat) (T : TypeId) (A8 : Option Addr) (c8 : Nat) (A9 : Option Addr) (c9 : Nat) (hg : w.heap[g]? = some (.cells #[.int .u64 1, .int .u64 0, .string ⟨#[98, 111, 98]⟩, .int .i64 7, .string ⟨#[]⟩, .string ⟨#[]⟩, .int .u64 0, .int .i64 0, .slice A8 0 c8, .slice A9 0 c9] T (0, 0))) : Kd.C k69 w (some ⟨g, 0, none⟩) 1 [xB] :=
  C_recsL w g T [xB] [[.int .u64 1, .int .u64 0, .string ⟨#[98, 111, 98]⟩, .int .i64 7, .string ⟨#[]⟩, .string ⟨#[]⟩, .int .u64 0, .int .i64 0, .slice A8 0 c8, .slice A9 0 c9]] _ rfl hg rfl (fun j x hj => by
    cases j with
    | zero => obtain rfl : xB = x := by simpa using hj
              exact ⟨_, rfl, (RecC.k (x := xB) ⟨C_none _ _, Nat.zero_le _, C_none _ _, Nat.zero_le _⟩)⟩
    | succ j => simp at hj) 1 rfl (by omega)
theorem ver_ann (g : Nat) (Ah : Option Addr) (ch : Nat) (w : World) (hC : Kd.C k69 w (some ⟨g, 0, none⟩) 1 [xA]) (hH : Kd.C (Kd.int .u8) w Ah 32 (digP xA)) (hc : 32 ≤ ch) :
    Calls Try.prog 78 #[.slice (some ⟨g, 0, none⟩) 1 1, .slice Ah 32 ch] w fun e w' => e = .returned (.int .i64 0) ∧ Below w.heap.size w w' := by
  rw [← ex_va]
  exact ver_c (some ⟨g, 0, none⟩) 1 [xA] Ah ch (digP xA) w hC (Nat.le_refl _) hH hc (by simp) (by intro y hy; obtain rfl := List.mem_singleton.1 hy; exact ok_ann) (sha256_bd' _)
theorem ver_bob (g : Nat) (Ah : Option Addr) (ch : Nat) (w : World) (hC : Kd.C k69 w (some ⟨g, 0, none⟩) 1 [xB]) (hH : Kd.C (Kd.int .u8) w Ah 32 (digP xA)) (hc : 32 ≤ ch) :
    Calls Try.prog 78 #[.slice (some ⟨g, 0, none⟩) 1 1, .slice Ah 32 ch] w fun e w' => e = .returned (.int .i64 53) ∧ Below w.heap.size w w' := by
  rw [← ex_vb]
  exact ver_c (some ⟨g, 0, none⟩) 1 [xB] Ah ch (digP xA) w hC (Nat.le_refl _) hH hc (by simp) (by intro y hy; obtain rfl := List.mem_singleton.1 hy; exact ok_bob) (sha256_bd' _)
set_option maxHeartbeats 16000000 in
set_option maxRecDepth 100000 in
theorem alive14 (w : World) : Calls Try.prog 74 #[] w fun e w' => e = .returned (.bool true) ∧ Below w.heap.size w w' := by
  have hu69 := Try.underlying69
  have HB := Aside0.mk (Below.refl w.heap.size w)
  go_enter Try.func74, Try.ntmps74
  go_upto_region 1 with (fail)
  go_cut [1] (fun v1 wc => ∃ g1 A8 c8 A9 c9, v1 = .pointer (some ⟨g1, 0, none⟩) ∧ Aside0 (wc.heap[g1]? = some (.cells #[.int .u64 1, .int .u64 0, .string ⟨#[97, 110, 110]⟩, .int .i64 7, .string ⟨#[]⟩, .string ⟨#[]⟩, .int .u64 0, .int .i64 0, .slice A8 0 c8, .slice A9 0 c9] 69 (0, 0))) ∧ Aside0 (w.heap.size ≤ g1) ∧ Aside0 (Below w.heap.size w wc))
  case first =>
    go_wp2_with (first
      | (go_at_call 76; (with_reducible refine (next0 _).mono ?_); rintro e w1 ⟨A8, c8, A9, c9, rfl, hb⟩; have HB1 := Aside0.mk (below_step HB.out hb); clear HB hb; have HB := HB1; clear HB1)
      | ((with_reducible refine gate_dst (N := 1) rfl ?_); refine box_event ?hg (N := 1) ?hd (cs := #[.int .u64 0, .int .u64 0, .string ⟨#[]⟩, .int .i64 0, .string ⟨#[]⟩, .string ⟨#[]⟩, .int .u64 0, .int .i64 0, .slice none 0 0, .slice none 0 0]) (t := 69) ?hr ?_; (case hd => rfl); (case hg => rfl); (case hr => first | (go_simp; done) | (go_simp; rfl)); intro g1 hg w2 hbox hb; have n0_ := Aside0.mk (below_step HB.out hb); have BK := Aside0.mk hbox; have GE1 := Aside0.mk (by rw [hg]; exact below_size HB.out : w.heap.size ≤ g1); clear HB; have HB := n0_; clear n0_ hb hbox hg; have hz0 : w2.cell? ⟨g1, 0, none⟩ = some (.int .u64 0) := (blk_cell BK.out 0).trans rfl; have hz1 : w2.cell? ⟨g1, 1, none⟩ = some (.int .u64 0) := (blk_cell BK.out 1).trans rfl; have hz2 : w2.cell? ⟨g1, 2, none⟩ = some (.string ⟨#[]⟩) := (blk_cell BK.out 2).trans rfl; have hz3 : w2.cell? ⟨g1, 3, none⟩ = some (.int .i64 0) := (blk_cell BK.out 3).trans rfl; have hz4 : w2.cell? ⟨g1, 4, none⟩ = some (.string ⟨#[]⟩) := (blk_cell BK.out 4).trans rfl; have hz5 : w2.cell? ⟨g1, 5, none⟩ = some (.string ⟨#[]⟩) := (blk_cell BK.out 5).trans rfl; have hz6 : w2.cell? ⟨g1, 6, none⟩ = some (.int .u64 0) := (blk_cell BK.out 6).trans rfl; have hz7 : w2.cell? ⟨g1, 7, none⟩ = some (.int .i64 0) := (blk_cell BK.out 7).trans rfl; have hz8 : w2.cell? ⟨g1, 8, none⟩ = some (.slice none 0 0) := (blk_cell BK.out 8).trans rfl; have hz9 : w2.cell? ⟨g1, 9, none⟩ = some (.slice none 0 0) := (blk_cell BK.out 9).trans rfl; have fz0 := blk_frozen BK.out 0; have fz1 := blk_frozen BK.out 1; have fz2 := blk_frozen BK.out 2; have fz3 := blk_frozen BK.out 3; have fz4 := blk_frozen BK.out 4; have fz5 := blk_frozen BK.out 5; have fz6 := blk_frozen BK.out 6; have fz7 := blk_frozen BK.out 7; have fz8 := blk_frozen BK.out 8; have fz9 := blk_frozen BK.out 9))
    go_meet
    case rel => exact ⟨g1, A8, c8, A9, c9, rfl, ⟨by refine blk_put (cs := #[.int .u64 1, .int .u64 0, .string ⟨#[97, 110, 110]⟩, .int .i64 7, .string ⟨#[]⟩, .string ⟨#[]⟩, .int .u64 0, .int .i64 0, .slice A8 0 c8, .slice none 0 0]) ?_ 9 _ rfl; refine blk_put (cs := #[.int .u64 1, .int .u64 0, .string ⟨#[97, 110, 110]⟩, .int .i64 7, .string ⟨#[]⟩, .string ⟨#[]⟩, .int .u64 0, .int .i64 0, .slice none 0 0, .slice none 0 0]) ?_ 8 _ rfl; refine blk_put (cs := #[.int .u64 1, .int .u64 0, .string ⟨#[97, 110, 110]⟩, .int .i64 7, .string ⟨#[]⟩, .string ⟨#[]⟩, .int .u64 0, .int .i64 0, .slice none 0 0, .slice none 0 0]) ?_ 7 _ rfl; refine blk_put (cs := #[.int .u64 1, .int .u64 0, .string ⟨#[97, 110, 110]⟩, .int .i64 7, .string ⟨#[]⟩, .string ⟨#[]⟩, .int .u64 0, .int .i64 0, .slice none 0 0, .slice none 0 0]) ?_ 6 _ rfl; refine blk_put (cs := #[.int .u64 1, .int .u64 0, .string ⟨#[97, 110, 110]⟩, .int .i64 7, .string ⟨#[]⟩, .string ⟨#[]⟩, .int .u64 0, .int .i64 0, .slice none 0 0, .slice none 0 0]) ?_ 5 _ rfl; refine blk_put (cs := #[.int .u64 1, .int .u64 0, .string ⟨#[97, 110, 110]⟩, .int .i64 7, .string ⟨#[]⟩, .string ⟨#[]⟩, .int .u64 0, .int .i64 0, .slice none 0 0, .slice none 0 0]) ?_ 4 _ rfl; refine blk_put (cs := #[.int .u64 1, .int .u64 0, .string ⟨#[97, 110, 110]⟩, .int .i64 0, .string ⟨#[]⟩, .string ⟨#[]⟩, .int .u64 0, .int .i64 0, .slice none 0 0, .slice none 0 0]) ?_ 3 _ rfl; refine blk_put (cs := #[.int .u64 1, .int .u64 0, .string ⟨#[]⟩, .int .i64 0, .string ⟨#[]⟩, .string ⟨#[]⟩, .int .u64 0, .int .i64 0, .slice none 0 0, .slice none 0 0]) ?_ 2 _ rfl; refine blk_put (cs := #[.int .u64 1, .int .u64 0, .string ⟨#[]⟩, .int .i64 0, .string ⟨#[]⟩, .string ⟨#[]⟩, .int .u64 0, .int .i64 0, .slice none 0 0, .slice none 0 0]) ?_ 1 _ rfl; refine blk_put (cs := #[.int .u64 0, .int .u64 0, .string ⟨#[]⟩, .int .i64 0, .string ⟨#[]⟩, .string ⟨#[]⟩, .int .u64 0, .int .i64 0, .slice none 0 0, .slice none 0 0]) ?_ 0 _ rfl; exact BK.out⟩, GE1, ⟨by repeat (first | (with_reducible first | exact HB.out | apply below_alloc | apply pw_below_drewN | apply below_drew1 | refine below_set ?_ GE1.out | refine below_set ?_ GE2.out) | exact HB.out)⟩⟩
  case rest =>
    obtain ⟨g1, A8, c8, A9, c9, rfl, BK1, GE1, HB⟩ := hcut
    have hp0 : wc.cell? ⟨g1, 0, none⟩ = some (.int .u64 1) := (blk_cell BK1.out 0).trans rfl
    have hp1 : wc.cell? ⟨g1, 1, none⟩ = some (.int .u64 0) := (blk_cell BK1.out 1).trans rfl
    have hp2 : wc.cell? ⟨g1, 2, none⟩ = some (.string ⟨#[97, 110, 110]⟩) := (blk_cell BK1.out 2).trans rfl
    have hp3 : wc.cell? ⟨g1, 3, none⟩ = some (.int .i64 7) := (blk_cell BK1.out 3).trans rfl
    have hp4 : wc.cell? ⟨g1, 4, none⟩ = some (.string ⟨#[]⟩) := (blk_cell BK1.out 4).trans rfl
    have hp5 : wc.cell? ⟨g1, 5, none⟩ = some (.string ⟨#[]⟩) := (blk_cell BK1.out 5).trans rfl
    have hp6 : wc.cell? ⟨g1, 6, none⟩ = some (.int .u64 0) := (blk_cell BK1.out 6).trans rfl
    have hp7 : wc.cell? ⟨g1, 7, none⟩ = some (.int .i64 0) := (blk_cell BK1.out 7).trans rfl
    have hp8 : wc.cell? ⟨g1, 8, none⟩ = some (.slice A8 0 c8) := (blk_cell BK1.out 8).trans rfl
    have hp9 : wc.cell? ⟨g1, 9, none⟩ = some (.slice A9 0 c9) := (blk_cell BK1.out 9).trans rfl
    have fp0 := blk_frozen BK1.out 0
    have fp1 := blk_frozen BK1.out 1
    have fp2 := blk_frozen BK1.out 2
    have fp3 := blk_frozen BK1.out 3
    have fp4 := blk_frozen BK1.out 4
    have fp5 := blk_frozen BK1.out 5
    have fp6 := blk_frozen BK1.out 6
    have fp7 := blk_frozen BK1.out 7
    have fp8 := blk_frozen BK1.out 8
    have fp9 := blk_frozen BK1.out 9
    go_upto_region 2 with (fail)
    go_cut [2] (fun v2 wc => ∃ g2, v2 = .pointer (some ⟨g2, 0, none⟩) ∧ Aside0 (wc.heap[g1]? = some (.cells #[.int .u64 1, .int .u64 0, .string ⟨#[97, 110, 110]⟩, .int .i64 7, .string ⟨#[]⟩, .string ⟨#[]⟩, .int .u64 0, .int .i64 0, .slice A8 0 c8, .slice A9 0 c9] 69 (0, 0))) ∧ Aside0 (wc.heap[g2]? = some (.cells #[.int .u64 1, .int .u64 0, .string ⟨#[97, 110, 110]⟩, .int .i64 7, .string ⟨#[]⟩, .string ⟨#[]⟩, .int .u64 0, .int .i64 0, .slice A8 0 c8, .slice A9 0 c9] 69 (0, 0))) ∧ Aside0 (g1 ≠ g2) ∧ Aside0 (w.heap.size ≤ g2) ∧ Aside0 (Below w.heap.size w wc))
    case first =>
      go_wp2_with (first
        | ((with_reducible refine gate_dst (N := 2) rfl ?_); refine box_event ?hg (N := 2) ?hd (cs := #[.int .u64 0, .int .u64 0, .string ⟨#[]⟩, .int .i64 0, .string ⟨#[]⟩, .string ⟨#[]⟩, .int .u64 0, .int .i64 0, .slice none 0 0, .slice none 0 0]) (t := 69) ?hr ?_; (case hd => rfl); (case hg => rfl); (case hr => first | (go_simp; done) | (go_simp; rfl)); intro g2 hg w2 hbox hb; have n0_ := Aside0.mk (below_step HB.out hb); have NE := Aside0.mk (by rw [hg]; exact Nat.ne_of_lt (blk_lt BK1.out) : g1 ≠ g2); have BK1' := Aside0.mk (blk_below BK1.out hb); have BK := Aside0.mk hbox; have GE2 := Aside0.mk (by rw [hg]; exact below_size HB.out : w.heap.size ≤ g2); clear HB; have HB := n0_; clear n0_ hb hbox hg; have hz0 : w2.cell? ⟨g2, 0, none⟩ = some (.int .u64 0) := (blk_cell BK.out 0).trans rfl; have hz1 : w2.cell? ⟨g2, 1, none⟩ = some (.int .u64 0) := (blk_cell BK.out 1).trans rfl; have hz2 : w2.cell? ⟨g2, 2, none⟩ = some (.string ⟨#[]⟩) := (blk_cell BK.out 2).trans rfl; have hz3 : w2.cell? ⟨g2, 3, none⟩ = some (.int .i64 0) := (blk_cell BK.out 3).trans rfl; have hz4 : w2.cell? ⟨g2, 4, none⟩ = some (.string ⟨#[]⟩) := (blk_cell BK.out 4).trans rfl; have hz5 : w2.cell? ⟨g2, 5, none⟩ = some (.string ⟨#[]⟩) := (blk_cell BK.out 5).trans rfl; have hz6 : w2.cell? ⟨g2, 6, none⟩ = some (.int .u64 0) := (blk_cell BK.out 6).trans rfl; have hz7 : w2.cell? ⟨g2, 7, none⟩ = some (.int .i64 0) := (blk_cell BK.out 7).trans rfl; have hz8 : w2.cell? ⟨g2, 8, none⟩ = some (.slice none 0 0) := (blk_cell BK.out 8).trans rfl; have hz9 : w2.cell? ⟨g2, 9, none⟩ = some (.slice none 0 0) := (blk_cell BK.out 9).trans rfl; have fz0 := blk_frozen BK.out 0; have fz1 := blk_frozen BK.out 1; have fz2 := blk_frozen BK.out 2; have fz3 := blk_frozen BK.out 3; have fz4 := blk_frozen BK.out 4; have fz5 := blk_frozen BK.out 5; have fz6 := blk_frozen BK.out 6; have fz7 := blk_frozen BK.out 7; have fz8 := blk_frozen BK.out 8; have fz9 := blk_frozen BK.out 9))
      go_meet
      case rel => exact ⟨g2, rfl, ⟨by (repeat (refine blk_far ?_ NE.out _)); exact BK1'.out⟩, ⟨by refine blk_put (cs := #[.int .u64 1, .int .u64 0, .string ⟨#[97, 110, 110]⟩, .int .i64 7, .string ⟨#[]⟩, .string ⟨#[]⟩, .int .u64 0, .int .i64 0, .slice A8 0 c8, .slice none 0 0]) ?_ 9 _ rfl; refine blk_put (cs := #[.int .u64 1, .int .u64 0, .string ⟨#[97, 110, 110]⟩, .int .i64 7, .string ⟨#[]⟩, .string ⟨#[]⟩, .int .u64 0, .int .i64 0, .slice none 0 0, .slice none 0 0]) ?_ 8 _ rfl; refine blk_put (cs := #[.int .u64 1, .int .u64 0, .string ⟨#[97, 110, 110]⟩, .int .i64 7, .string ⟨#[]⟩, .string ⟨#[]⟩, .int .u64 0, .int .i64 0, .slice none 0 0, .slice none 0 0]) ?_ 7 _ rfl; refine blk_put (cs := #[.int .u64 1, .int .u64 0, .string ⟨#[97, 110, 110]⟩, .int .i64 7, .string ⟨#[]⟩, .string ⟨#[]⟩, .int .u64 0, .int .i64 0, .slice none 0 0, .slice none 0 0]) ?_ 6 _ rfl; refine blk_put (cs := #[.int .u64 1, .int .u64 0, .string ⟨#[97, 110, 110]⟩, .int .i64 7, .string ⟨#[]⟩, .string ⟨#[]⟩, .int .u64 0, .int .i64 0, .slice none 0 0, .slice none 0 0]) ?_ 5 _ rfl; refine blk_put (cs := #[.int .u64 1, .int .u64 0, .string ⟨#[97, 110, 110]⟩, .int .i64 7, .string ⟨#[]⟩, .string ⟨#[]⟩, .int .u64 0, .int .i64 0, .slice none 0 0, .slice none 0 0]) ?_ 4 _ rfl; refine blk_put (cs := #[.int .u64 1, .int .u64 0, .string ⟨#[97, 110, 110]⟩, .int .i64 0, .string ⟨#[]⟩, .string ⟨#[]⟩, .int .u64 0, .int .i64 0, .slice none 0 0, .slice none 0 0]) ?_ 3 _ rfl; refine blk_put (cs := #[.int .u64 1, .int .u64 0, .string ⟨#[]⟩, .int .i64 0, .string ⟨#[]⟩, .string ⟨#[]⟩, .int .u64 0, .int .i64 0, .slice none 0 0, .slice none 0 0]) ?_ 2 _ rfl; refine blk_put (cs := #[.int .u64 1, .int .u64 0, .string ⟨#[]⟩, .int .i64 0, .string ⟨#[]⟩, .string ⟨#[]⟩, .int .u64 0, .int .i64 0, .slice none 0 0, .slice none 0 0]) ?_ 1 _ rfl; refine blk_put (cs := #[.int .u64 0, .int .u64 0, .string ⟨#[]⟩, .int .i64 0, .string ⟨#[]⟩, .string ⟨#[]⟩, .int .u64 0, .int .i64 0, .slice none 0 0, .slice none 0 0]) ?_ 0 _ rfl; exact BK.out⟩, NE, GE2, ⟨by repeat (first | (with_reducible first | exact HB.out | apply below_alloc | apply pw_below_drewN | apply below_drew1 | refine below_set ?_ GE1.out | refine below_set ?_ GE2.out) | exact HB.out)⟩⟩
    case rest =>
      obtain ⟨g2, rfl, BK1, BK2, NE, GE2, HB⟩ := hcut
      have hp0 : wc.cell? ⟨g1, 0, none⟩ = some (.int .u64 1) := (blk_cell BK1.out 0).trans rfl
      have hp1 : wc.cell? ⟨g1, 1, none⟩ = some (.int .u64 0) := (blk_cell BK1.out 1).trans rfl
      have hp2 : wc.cell? ⟨g1, 2, none⟩ = some (.string ⟨#[97, 110, 110]⟩) := (blk_cell BK1.out 2).trans rfl
      have hp3 : wc.cell? ⟨g1, 3, none⟩ = some (.int .i64 7) := (blk_cell BK1.out 3).trans rfl
      have hp4 : wc.cell? ⟨g1, 4, none⟩ = some (.string ⟨#[]⟩) := (blk_cell BK1.out 4).trans rfl
      have hp5 : wc.cell? ⟨g1, 5, none⟩ = some (.string ⟨#[]⟩) := (blk_cell BK1.out 5).trans rfl
      have hp6 : wc.cell? ⟨g1, 6, none⟩ = some (.int .u64 0) := (blk_cell BK1.out 6).trans rfl
      have hp7 : wc.cell? ⟨g1, 7, none⟩ = some (.int .i64 0) := (blk_cell BK1.out 7).trans rfl
      have hp8 : wc.cell? ⟨g1, 8, none⟩ = some (.slice A8 0 c8) := (blk_cell BK1.out 8).trans rfl
      have hp9 : wc.cell? ⟨g1, 9, none⟩ = some (.slice A9 0 c9) := (blk_cell BK1.out 9).trans rfl
      have fp0 := blk_frozen BK1.out 0
      have fp1 := blk_frozen BK1.out 1
      have fp2 := blk_frozen BK1.out 2
      have fp3 := blk_frozen BK1.out 3
      have fp4 := blk_frozen BK1.out 4
      have fp5 := blk_frozen BK1.out 5
      have fp6 := blk_frozen BK1.out 6
      have fp7 := blk_frozen BK1.out 7
      have fp8 := blk_frozen BK1.out 8
      have fp9 := blk_frozen BK1.out 9
      have hq0 : wc.cell? ⟨g2, 0, none⟩ = some (.int .u64 1) := (blk_cell BK2.out 0).trans rfl
      have hq1 : wc.cell? ⟨g2, 1, none⟩ = some (.int .u64 0) := (blk_cell BK2.out 1).trans rfl
      have hq2 : wc.cell? ⟨g2, 2, none⟩ = some (.string ⟨#[97, 110, 110]⟩) := (blk_cell BK2.out 2).trans rfl
      have hq3 : wc.cell? ⟨g2, 3, none⟩ = some (.int .i64 7) := (blk_cell BK2.out 3).trans rfl
      have hq4 : wc.cell? ⟨g2, 4, none⟩ = some (.string ⟨#[]⟩) := (blk_cell BK2.out 4).trans rfl
      have hq5 : wc.cell? ⟨g2, 5, none⟩ = some (.string ⟨#[]⟩) := (blk_cell BK2.out 5).trans rfl
      have hq6 : wc.cell? ⟨g2, 6, none⟩ = some (.int .u64 0) := (blk_cell BK2.out 6).trans rfl
      have hq7 : wc.cell? ⟨g2, 7, none⟩ = some (.int .i64 0) := (blk_cell BK2.out 7).trans rfl
      have hq8 : wc.cell? ⟨g2, 8, none⟩ = some (.slice A8 0 c8) := (blk_cell BK2.out 8).trans rfl
      have hq9 : wc.cell? ⟨g2, 9, none⟩ = some (.slice A9 0 c9) := (blk_cell BK2.out 9).trans rfl
      have fq0 := blk_frozen BK2.out 0
      have fq1 := blk_frozen BK2.out 1
      have fq2 := blk_frozen BK2.out 2
      have fq3 := blk_frozen BK2.out 3
      have fq4 := blk_frozen BK2.out 4
      have fq5 := blk_frozen BK2.out 5
      have fq6 := blk_frozen BK2.out 6
      have fq7 := blk_frozen BK2.out 7
      have fq8 := blk_frozen BK2.out 8
      have fq9 := blk_frozen BK2.out 9
      have hne := NE.out
      have hne' := Ne.symm NE.out
      go_upto_region 4 with (fail)
      go_cut [3] (fun v3 wc => ∃ Ah ch, v3 = .slice Ah 32 ch ∧ Aside0 (Kd.C (Kd.int .u8) wc Ah 32 (digP xA)) ∧ Aside0 (32 ≤ ch) ∧ Aside0 (wc.heap[g1]? = some (.cells #[.int .u64 1, .int .u64 0, .string ⟨#[97, 110, 110]⟩, .int .i64 7, .string ⟨#[]⟩, .string ⟨#[]⟩, .int .u64 0, .int .i64 0, .slice A8 0 c8, .slice A9 0 c9] 69 (0, 0))) ∧ Aside0 (wc.heap[g2]? = some (.cells #[.int .u64 1, .int .u64 0, .string ⟨#[98, 111, 98]⟩, .int .i64 7, .string ⟨#[]⟩, .string ⟨#[]⟩, .int .u64 0, .int .i64 0, .slice A8 0 c8, .slice A9 0 c9] 69 (0, 0))) ∧ Aside0 (Below w.heap.size w wc))
      case first =>
        go_wp2_with (first
          | (go_at_call 81; go_loud ((with_reducible refine (dig_ann A8 c8 A9 c9 _).mono ?_); rintro e w1 ⟨Ah, ch, rfl, hch, hC, hb⟩; have BKa := Aside0.mk (blk_below (g := g1) (o := .cells #[.int .u64 1, .int .u64 0, .string ⟨#[97, 110, 110]⟩, .int .i64 7, .string ⟨#[]⟩, .string ⟨#[]⟩, .int .u64 0, .int .i64 0, .slice A8 0 c8, .slice A9 0 c9] 69 (0, 0)) (by refine blk_far ?_ NE.out _; exact BK1.out) hb); have BKb := Aside0.mk (blk_below (g := g2) (o := .cells #[.int .u64 1, .int .u64 0, .string ⟨#[98, 111, 98]⟩, .int .i64 7, .string ⟨#[]⟩, .string ⟨#[]⟩, .int .u64 0, .int .i64 0, .slice A8 0 c8, .slice A9 0 c9] 69 (0, 0)) (by refine blk_put (cs := #[.int .u64 1, .int .u64 0, .string ⟨#[97, 110, 110]⟩, .int .i64 7, .string ⟨#[]⟩, .string ⟨#[]⟩, .int .u64 0, .int .i64 0, .slice A8 0 c8, .slice A9 0 c9]) ?_ 2 _ rfl; exact BK2.out) hb); have HB1 := Aside0.mk (below_step (below_set HB.out GE2.out) hb); have HC := Aside0.mk hC; have HCH := Aside0.mk hch; clear hb hC hch)))
        go_meet
        case rel => exact ⟨Ah, ch, rfl, HC, HCH, BKa, BKb, HB1⟩
      case rest =>
        obtain ⟨Ah, ch, rfl, HC, HCH, BK1, BK2, HB⟩ := hcut
        have hp0 : wc.cell? ⟨g1, 0, none⟩ = some (.int .u64 1) := (blk_cell BK1.out 0).trans rfl
        have hp1 : wc.cell? ⟨g1, 1, none⟩ = some (.int .u64 0) := (blk_cell BK1.out 1).trans rfl
        have hp2 : wc.cell? ⟨g1, 2, none⟩ = some (.string ⟨#[97, 110, 110]⟩) := (blk_cell BK1.out 2).trans rfl
        have hp3 : wc.cell? ⟨g1, 3, none⟩ = some (.int .i64 7) := (blk_cell BK1.out 3).trans rfl
        have hp4 : wc.cell? ⟨g1, 4, none⟩ = some (.string ⟨#[]⟩) := (blk_cell BK1.out 4).trans rfl
        have hp5 : wc.cell? ⟨g1, 5, none⟩ = some (.string ⟨#[]⟩) := (blk_cell BK1.out 5).trans rfl
        have hp6 : wc.cell? ⟨g1, 6, none⟩ = some (.int .u64 0) := (blk_cell BK1.out 6).trans rfl
        have hp7 : wc.cell? ⟨g1, 7, none⟩ = some (.int .i64 0) := (blk_cell BK1.out 7).trans rfl
        have hp8 : wc.cell? ⟨g1, 8, none⟩ = some (.slice A8 0 c8) := (blk_cell BK1.out 8).trans rfl
        have hp9 : wc.cell? ⟨g1, 9, none⟩ = some (.slice A9 0 c9) := (blk_cell BK1.out 9).trans rfl
        have fp0 := blk_frozen BK1.out 0
        have fp1 := blk_frozen BK1.out 1
        have fp2 := blk_frozen BK1.out 2
        have fp3 := blk_frozen BK1.out 3
        have fp4 := blk_frozen BK1.out 4
        have fp5 := blk_frozen BK1.out 5
        have fp6 := blk_frozen BK1.out 6
        have fp7 := blk_frozen BK1.out 7
        have fp8 := blk_frozen BK1.out 8
        have fp9 := blk_frozen BK1.out 9
        have hq0 : wc.cell? ⟨g2, 0, none⟩ = some (.int .u64 1) := (blk_cell BK2.out 0).trans rfl
        have hq1 : wc.cell? ⟨g2, 1, none⟩ = some (.int .u64 0) := (blk_cell BK2.out 1).trans rfl
        have hq2 : wc.cell? ⟨g2, 2, none⟩ = some (.string ⟨#[98, 111, 98]⟩) := (blk_cell BK2.out 2).trans rfl
        have hq3 : wc.cell? ⟨g2, 3, none⟩ = some (.int .i64 7) := (blk_cell BK2.out 3).trans rfl
        have hq4 : wc.cell? ⟨g2, 4, none⟩ = some (.string ⟨#[]⟩) := (blk_cell BK2.out 4).trans rfl
        have hq5 : wc.cell? ⟨g2, 5, none⟩ = some (.string ⟨#[]⟩) := (blk_cell BK2.out 5).trans rfl
        have hq6 : wc.cell? ⟨g2, 6, none⟩ = some (.int .u64 0) := (blk_cell BK2.out 6).trans rfl
        have hq7 : wc.cell? ⟨g2, 7, none⟩ = some (.int .i64 0) := (blk_cell BK2.out 7).trans rfl
        have hq8 : wc.cell? ⟨g2, 8, none⟩ = some (.slice A8 0 c8) := (blk_cell BK2.out 8).trans rfl
        have hq9 : wc.cell? ⟨g2, 9, none⟩ = some (.slice A9 0 c9) := (blk_cell BK2.out 9).trans rfl
        have fq0 := blk_frozen BK2.out 0
        have fq1 := blk_frozen BK2.out 1
        have fq2 := blk_frozen BK2.out 2
        have fq3 := blk_frozen BK2.out 3
        have fq4 := blk_frozen BK2.out 4
        have fq5 := blk_frozen BK2.out 5
        have fq6 := blk_frozen BK2.out 6
        have fq7 := blk_frozen BK2.out 7
        have fq8 := blk_frozen BK2.out 8
        have fq9 := blk_frozen BK2.out 9
        go_wp2_with (first
          | ((with_reducible refine gate_dst (N := 20) rfl ?_); (try (refine gate_guard (by rfl) ?_; dsimp only)); refine lit_event rfl (N := 20) rfl (cs := #[.int .u64 1, .int .u64 0, .string ⟨#[97, 110, 110]⟩, .int .i64 7, .string ⟨#[]⟩, .string ⟨#[]⟩, .int .u64 0, .int .i64 0, .slice A8 0 c8, .slice A9 0 c9]) (t := 69) (n := 1) ?hr ?_; (case hr => first | (go_simp; done) | (go_simp; rfl)); intro g3 hg3 w3 hbox hb; have n0_ := Aside0.mk (below_step HB.out hb); have K3 := Aside0.mk (lit_ann _ _ _ _ _ _ _ hbox); have BK2' := Aside0.mk (blk_below BK2.out hb); have HC' := Aside0.mk (Kd.C_below HC.out hb); clear HB BK2 HC; have HB := n0_; have BK2 := BK2'; have HC := HC'; clear n0_ BK2' HC' hg3 hbox hb)
          | (go_at_call 78; have _t := K3; go_loud ((with_reducible refine (ver_ann g3 Ah ch _ K3.out HC.out HCH.out).mono ?_)); rintro e w4 ⟨rfl, hb⟩; have n0_ := Aside0.mk (below_step HB.out hb); have BK2' := Aside0.mk (blk_below BK2.out hb); have HC' := Aside0.mk (Kd.C_below HC.out hb); clear HB BK2 HC; have HB := n0_; have BK2 := BK2'; have HC := HC'; clear n0_ BK2' HC' hb K3; have hr0 : w4.cell? ⟨g2, 0, none⟩ = some (.int .u64 1) := (blk_cell BK2.out 0).trans rfl; have hr1 : w4.cell? ⟨g2, 1, none⟩ = some (.int .u64 0) := (blk_cell BK2.out 1).trans rfl; have hr2 : w4.cell? ⟨g2, 2, none⟩ = some (.string ⟨#[98, 111, 98]⟩) := (blk_cell BK2.out 2).trans rfl; have hr3 : w4.cell? ⟨g2, 3, none⟩ = some (.int .i64 7) := (blk_cell BK2.out 3).trans rfl; have hr4 : w4.cell? ⟨g2, 4, none⟩ = some (.string ⟨#[]⟩) := (blk_cell BK2.out 4).trans rfl; have hr5 : w4.cell? ⟨g2, 5, none⟩ = some (.string ⟨#[]⟩) := (blk_cell BK2.out 5).trans rfl; have hr6 : w4.cell? ⟨g2, 6, none⟩ = some (.int .u64 0) := (blk_cell BK2.out 6).trans rfl; have hr7 : w4.cell? ⟨g2, 7, none⟩ = some (.int .i64 0) := (blk_cell BK2.out 7).trans rfl; have hr8 : w4.cell? ⟨g2, 8, none⟩ = some (.slice A8 0 c8) := (blk_cell BK2.out 8).trans rfl; have hr9 : w4.cell? ⟨g2, 9, none⟩ = some (.slice A9 0 c9) := (blk_cell BK2.out 9).trans rfl; have fr0 := blk_frozen BK2.out 0; have fr1 := blk_frozen BK2.out 1; have fr2 := blk_frozen BK2.out 2; have fr3 := blk_frozen BK2.out 3; have fr4 := blk_frozen BK2.out 4; have fr5 := blk_frozen BK2.out 5; have fr6 := blk_frozen BK2.out 6; have fr7 := blk_frozen BK2.out 7; have fr8 := blk_frozen BK2.out 8; have fr9 := blk_frozen BK2.out 9)
          | ((with_reducible refine gate_dst (N := 27) rfl ?_); (try (refine gate_guard (by rfl) ?_; dsimp only)); refine lit_event rfl (N := 27) rfl (cs := #[.int .u64 1, .int .u64 0, .string ⟨#[98, 111, 98]⟩, .int .i64 7, .string ⟨#[]⟩, .string ⟨#[]⟩, .int .u64 0, .int .i64 0, .slice A8 0 c8, .slice A9 0 c9]) (t := 69) (n := 1) ?hr ?_; (case hr => first | (go_simp; done) | (go_simp; rfl)); intro g4 hg4 w5 hbox hb; have n0_ := Aside0.mk (below_step HB.out hb); have K4 := Aside0.mk (lit_bob _ _ _ _ _ _ _ hbox); have HC' := Aside0.mk (Kd.C_below HC.out hb); clear HB HC; have HB := n0_; have HC := HC'; clear n0_ HC' hg4 hbox hb)
          | (go_at_call 78; (with_reducible refine (ver_bob g4 Ah ch _ K4.out HC.out HCH.out).mono ?_); rintro e w6 ⟨rfl, hb⟩; have n0_ := Aside0.mk (below_step HB.out hb); clear HB; have HB := n0_; clear n0_ hb))
        go_ret
        exact ⟨rfl, HB.out⟩
end Go.Proofs.Ytlnpmodhejakiaa.AV
