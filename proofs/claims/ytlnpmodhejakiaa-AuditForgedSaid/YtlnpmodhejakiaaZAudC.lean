/- steleref14.Collision: what it computes. -/
import Derived.OwnWalk
import Derived.Deep.CutRange
import Derived.Test.YtlnpmodhejakiaaZAudX
import Derived.Test.YtlnpmodhejakiaaZCells
import Derived.Test.YtlnpmodhejakiaaZWb
import Derived.Test.YtlnpmodhejakiaaZShab
import Derived.Test.YtlnpmodhejakiaaZAudBb
namespace Go.Proofs.Ytlnpmodhejakiaa.AV
open Go.RowKit Go.Proofs.YtlnpmodhejakiaaW.PrintWords Go.Proofs.YtlnpmodhejakiaaW.PrintLast Go.Proofs.YtlnpmodhejakiaaW.PrintMore Go.Proofs.Ytlnpmodhejakiaa.Sha Go.Proofs.Ytlnpmodhejakiaa.D Go.Proofs.Ytlnpmodhejakiaa.PC Go.Proofs.Ytlnpmodhejakiaa.CP Go.Proofs.Ytlnpmodhejakiaa.PV
set_option linter.unusedVariables false
set_option linter.unusedSimpArgs false
def collR : List S69 → List S69 → Option (S69 × S69)
  | x :: a, y :: b => if sameP x y = true then collR a b else some (x, y)
  | _, _ => none
def collP (a b : List S69) : Option (S69 × S69) := collR a.reverse b.reverse
def foundP (a b : List S69) : Bool := match collP a b with
  | some (p, q) => digP p == digP q
  | none => false
theorem rev_drop (a : List S69) (i : Nat) (h1 : 1 ≤ i) (h : i ≤ a.length) : a.reverse.drop (i - 1) = rd_T69 a ((a.length : Int) - (i : Int)) :: a.reverse.drop i := by
  rw [List.drop_eq_getElem_cons (by rw [List.length_reverse]; omega), show i - 1 + 1 = i by omega, List.getElem_reverse]
  congr 1
  rw [show (a.length : Int) - (i : Int) = ((a.length - i : Nat) : Int) by omega, rdT a _ (by omega)]
  congr 1
  omega
theorem stepI (i n : Nat) (h : i ≤ n) (hn : n ≤ 1000) : Value.int .i64 (wrap64 ((i : Int) + 1)) = .int .i64 ((i + 1 : Nat) : Int) := by
  rw [show wrap64 ((i : Int) + 1) = ((i + 1 : Nat) : Int) from by unfold wrap64; omega]
theorem stepM (i n : Nat) (h : i ≤ n) (hn : n ≤ 1000) : n + 1 - (intOf (.int .i64 (wrap64 ((i : Int) + 1)))).toNat < n + 1 - (intOf (.int .i64 (i : Int))).toNat := by
  rw [stepI i n h hn]
  show n + 1 - (((i + 1 : Nat) : Int)).toNat < n + 1 - ((i : Int)).toNat
  rw [Int.toNat_natCast, Int.toNat_natCast]
  omega
theorem collR_nil (a : List S69) : collR a [] = none := by cases a <;> rfl
theorem collR_nil' (a : List S69) : collR [] a = none := by cases a <;> rfl
theorem coll_step {a b a1 b1 a2 b2 : List S69} {p q : S69} (h : collP a b = collR a1 b1) (ra : a1 = p :: a2) (rb : b1 = q :: b2) : collP a b = if sameP p q = true then collR a2 b2 else some (p, q) := by
  rw [h, ra, rb, collR]
theorem coll_go {a b a2 b2 : List S69} {p q : S69} {s : Bool} (h : collP a b = if s = true then collR a2 b2 else some (p, q)) (hs : s = true) : collP a b = collR a2 b2 := by rw [h, if_pos hs]
theorem coll_stop {a b a2 b2 : List S69} {p q : S69} {s : Bool} (h : collP a b = if s = true then collR a2 b2 else some (p, q)) (hs : s = false) : collP a b = some (p, q) := by rw [h, if_neg (by rw [hs]; decide)]
theorem coll_next {a b : List S69} {i : Nat} (h : collP a b = collR (a.reverse.drop i) (b.reverse.drop i)) : collP a b = collR (a.reverse.drop (i + 1 - 1)) (b.reverse.drop (i + 1 - 1)) := by rw [Nat.add_sub_cancel]; exact h
theorem coll_end_a {a b : List S69} {i : Nat} (h : collP a b = collR (a.reverse.drop (i - 1)) (b.reverse.drop (i - 1))) (hi : a.length ≤ i - 1) : collP a b = none := by
  rw [h, List.drop_of_length_le (show a.reverse.length ≤ i - 1 by rw [List.length_reverse]; exact hi), collR_nil']
theorem coll_end_b {a b : List S69} {i : Nat} (h : collP a b = collR (a.reverse.drop (i - 1)) (b.reverse.drop (i - 1))) (hi : b.length ≤ i - 1) : collP a b = none := by
  rw [h, List.drop_of_length_le (show b.reverse.length ≤ i - 1 by rw [List.length_reverse]; exact hi), collR_nil]
theorem rdigC (y : S69) (A8 : Option Addr) (c8 : Nat) (A9 : Option Addr) (c9 : Nat) (w : World) (h : RecC w y A8 c8 A9 c9) (hy : okX y) :
    Calls Try.prog 82 #[.agg #[.int .u64 y.f0, .int .u64 y.f1, .string y.f2, .int .i64 y.f3, .string y.f4, .string y.f5, .int .u64 y.f6, .int .i64 y.f7, .slice A8 y.f8.length c8, .slice A9 y.f9.length c9]] w fun e w' => ∃ B d, e = .returned (.slice B 32 d) ∧ Kd.C (Kd.int .u8) w' B 32 (digP y) ∧ 32 ≤ d ∧ Below w.heap.size w w' :=
  (rdig_c y A8 c8 A9 c9 w h hy).mono fun e w' ⟨v, he, hr, hb⟩ => by
    obtain ⟨A, c, rfl, hc, hC⟩ := Kd.R_reads hr; rw [digP_len] at *
    exact ⟨A, c, he, hC, hc, hb⟩
theorem rshowC (y : S69) (A8 : Option Addr) (c8 : Nat) (A9 : Option Addr) (c9 : Nat) (w : World) (h : RecC w y A8 c8 A9 c9) (hy : okX y) :
    Calls Try.prog 85 #[.agg #[.int .u64 y.f0, .int .u64 y.f1, .string y.f2, .int .i64 y.f3, .string y.f4, .string y.f5, .int .u64 y.f6, .int .i64 y.f7, .slice A8 y.f8.length c8, .slice A9 y.f9.length c9]] w fun e w' => ∃ B d, e = .returned (.slice B (showP y).length d) ∧ Kd.C (Kd.int .u8) w' B (showP y).length (showP y) ∧ (showP y).length ≤ d ∧ Below w.heap.size w w' :=
  (rshow_c y A8 c8 A9 c9 w h hy).mono fun e w' ⟨v, he, hr, hb⟩ => by
    obtain ⟨A, c, rfl, hc, hC⟩ := Kd.R_reads hr
    exact ⟨A, c, he, hC, hc, hb⟩
theorem rdsame (p q : S69) (t : Bool) (ht : (digP p == digP q) = t) (A : Option Addr) (c : Nat) (A1 : Option Addr) (c1 : Nat) (w : World) (hC : Kd.C (Kd.int .u8) w A 32 (digP p)) (hc : 32 ≤ c) (hC1 : Kd.C (Kd.int .u8) w A1 32 (digP q)) (hc1 : 32 ≤ c1) :
    Calls Try.prog 29 #[.slice A 32 c, .slice A1 32 c1] w fun e w' => e = .returned (.bool t) ∧ Below w.heap.size w w' := by
  have h := bsame_c A c (digP p) A1 c1 (digP q) w
  rw [digP_len, digP_len, ht] at h
  exact h hC hc hC1 hc1 (by omega)
def CollPost (a b : List S69) (w : World) (e : Ending) (w' : World) : Prop :=
  (match collP a b with
    | some (p, q) => if (digP p == digP q) = true then ∃ A c B d, e = .returned (.tuple #[.slice A (showP p).length c, .slice B (showP q).length d, .bool true]) ∧ Kd.C (Kd.int .u8) w' A (showP p).length (showP p) ∧ (showP p).length ≤ c ∧ Kd.C (Kd.int .u8) w' B (showP q).length (showP q) ∧ (showP q).length ≤ d
        else e = .returned (.tuple #[.slice none 0 0, .slice none 0 0, .bool false])
    | none => e = .returned (.tuple #[.slice none 0 0, .slice none 0 0, .bool false])) ∧ Below w.heap.size w w'
theorem CollPost_none {a b : List S69} {w : World} {w' : World} (hn : collP a b = none) (hb : Below w.heap.size w w') : CollPost a b w (.returned (.tuple #[.slice none 0 0, .slice none 0 0, .bool false])) w' := by
  refine ⟨?_, hb⟩
  rw [hn]
theorem CollPost_differ {a b : List S69} {p q : S69} {w : World} {w' : World} (hn : collP a b = some (p, q)) (hd : (digP p == digP q) = false) (hb : Below w.heap.size w w') : CollPost a b w (.returned (.tuple #[.slice none 0 0, .slice none 0 0, .bool false])) w' := by
  refine ⟨?_, hb⟩
  rw [hn]
  show (if (digP p == digP q) = true then _ else _)
  rw [if_neg (by rw [hd]; decide)]
theorem CollPost_same {a b : List S69} {p q : S69} {A B : Option Addr} {c d : Nat} {w : World} {w' : World} (hn : collP a b = some (p, q)) (hd : (digP p == digP q) = true) (h1 : Kd.C (Kd.int .u8) w' A (showP p).length (showP p)) (h2 : (showP p).length ≤ c) (h3 : Kd.C (Kd.int .u8) w' B (showP q).length (showP q)) (h4 : (showP q).length ≤ d) (hb : Below w.heap.size w w') :
    CollPost a b w (.returned (.tuple #[.slice A (showP p).length c, .slice B (showP q).length d, .bool true])) w' := by
  refine ⟨?_, hb⟩
  rw [hn]
  show (if (digP p == digP q) = true then _ else _)
  rw [if_pos hd]
  exact ⟨A, c, B, d, rfl, h1, h2, h3, h4⟩
set_option maxHeartbeats 64000000 in
set_option maxRecDepth 100000 in
theorem rcoll_c (A : Option Addr) (ca : Nat) (a : List S69) (B : Option Addr) (cb : Nat) (b : List S69) (w : World) (hC : Kd.C k69 w A a.length a) (hc : a.length ≤ ca) (hD : Kd.C k69 w B b.length b) (hd : b.length ≤ cb) (hla : a.length ≤ 1000) (hlb : b.length ≤ 1000) (hsa : ∀ y ∈ a, okX y) (hsb : ∀ y ∈ b, okX y) :
    Calls Try.prog 83 #[.slice A a.length ca, .slice B b.length cb] w fun e w' => CollPost a b w e w' := by
  have hu69 := Try.underlying69
  have HB := Aside0.mk (Below.refl w.heap.size w)
  have HC := Aside0.mk hC
  have HD := Aside0.mk hD
  have LA := Aside0.mk hla
  have LB := Aside0.mk hlb
  have SA := Aside0.mk hsa
  have SB := Aside0.mk hsb
  clear hC hc hD hd hla hlb hsa hsb
  go_enter Try.func83, Try.ntmps83
  go_wp2
  go_loopw [7] (fun v7 wr => ∃ i : Nat, v7 = .int .i64 (i : Int) ∧ 1 ≤ i ∧ i ≤ a.length + 1 ∧ i ≤ b.length + 1 ∧ Aside0 (collP a b = collR (a.reverse.drop (i - 1)) (b.reverse.drop (i - 1))) ∧ Aside0 (Below w.heap.size w wr)) (fun v _ => a.length + 1 - (intOf v).toNat)
  case atStart => exact ⟨1, rfl, by omega, by omega, by omega, ⟨rfl⟩, HB⟩
  case round =>
    clear HB; obtain ⟨i, rfl, hi1, hia, hib, HE, HB⟩ := hrel
    by_cases h0 : i ≤ a.length
    · by_cases h1 : i ≤ b.length
      · have d0 : decide ((i : Int) ≤ (a.length : Int)) = true := decide_eq_true (by omega)
        have d1 : decide ((i : Int) ≤ (b.length : Int)) = true := decide_eq_true (by omega); have d2 : decide (i ≤ a.length) = true := decide_eq_true h0; have d3 : decide (i ≤ b.length) = true := decide_eq_true h1; obtain ⟨ad, P8, c8, P9, c9, hA, hx0, hx1, hx2, hx3, hx4, hx5, hx6, hx7, hx8, hx9, l8, C8, l9, C9⟩ := at_T69 HC.out ((a.length : Int) - (i : Int)) (by omega) (by omega)
        subst hA
        obtain ⟨bd, Q8, d8, Q9, d9, hB, hy0, hy1, hy2, hy3, hy4, hy5, hy6, hy7, hy8, hy9, m8, E8, m9, E9⟩ := at_T69 HD.out ((b.length : Int) - (i : Int)) (by omega) (by omega)
        subst hB
        have ra := rev_drop a i hi1 h0; have rb := rev_drop b i hi1 h1; have ka := SA.out (rd_T69 a ((a.length : Int) - (i : Int))) (by rw [show (a.length : Int) - (i : Int) = ((a.length - i : Nat) : Int) by omega, rdT a _ (by omega)]; exact List.getElem_mem _); have kb := SB.out (rd_T69 b ((b.length : Int) - (i : Int))) (by rw [show (b.length : Int) - (i : Int) = ((b.length - i : Nat) : Int) by omega, rdT b _ (by omega)]; exact List.getElem_mem _); rw [show ((a.length : Int) - (i : Int)).toNat = a.length - i by omega] at hx0 hx1 hx2 hx3 hx4 hx5 hx6 hx7 hx8 hx9; rw [show ((b.length : Int) - (i : Int)).toNat = b.length - i by omega] at hy0 hy1 hy2 hy3 hy4 hy5 hy6 hy7 hy8 hy9; obtain ⟨p, hp⟩ : ∃ p, rd_T69 a ((a.length : Int) - (i : Int)) = p := ⟨_, rfl⟩; obtain ⟨q, hq⟩ : ∃ q, rd_T69 b ((b.length : Int) - (i : Int)) = q := ⟨_, rfl⟩; rw [hp] at hx0 hx1 hx2 hx3 hx4 hx5 hx6 hx7 hx8 hx9 l8 C8 l9 C9 ra ka; rw [hq] at hy0 hy1 hy2 hy3 hy4 hy5 hy6 hy7 hy8 hy9 m8 E8 m9 E9 rb kb; have PR := Aside0.mk (show RecC w p P8 c8 P9 c9 from ⟨C8, l8, C9, l9⟩); have QR := Aside0.mk (show RecC w q Q8 d8 Q9 d9 from ⟨E8, m8, E9, m9⟩); have PK := Aside0.mk ka; have QK := Aside0.mk kb; have HP0 := Aside0.mk hx0; have HP1 := Aside0.mk hx1; have HP2 := Aside0.mk hx2; have HP3 := Aside0.mk hx3; have HP4 := Aside0.mk hx4; have HP5 := Aside0.mk hx5; have HP6 := Aside0.mk hx6; have HP7 := Aside0.mk hx7; have HP8 := Aside0.mk hx8; have HP9 := Aside0.mk hx9; have HQ0 := Aside0.mk hy0; have HQ1 := Aside0.mk hy1; have HQ2 := Aside0.mk hy2; have HQ3 := Aside0.mk hy3; have HQ4 := Aside0.mk hy4; have HQ5 := Aside0.mk hy5; have HQ6 := Aside0.mk hy6; have HQ7 := Aside0.mk hy7; have HQ8 := Aside0.mk hy8; have HQ9 := Aside0.mk hy9
        have HPQ := Aside0.mk (fun (w' : World) (h : Below w.heap.size w w') => (show w'.cell? (ad.add ((a.length - i) * 10)) = some (.int .u64 p.f0) ∧ w'.cell? ⟨(ad.add ((a.length - i) * 10)).block, (ad.add ((a.length - i) * 10)).off + 1, none⟩ = some (.int .u64 p.f1) ∧ w'.cell? ⟨(ad.add ((a.length - i) * 10)).block, (ad.add ((a.length - i) * 10)).off + 2, none⟩ = some (.string p.f2) ∧ w'.cell? ⟨(ad.add ((a.length - i) * 10)).block, (ad.add ((a.length - i) * 10)).off + 3, none⟩ = some (.int .i64 p.f3) ∧ w'.cell? ⟨(ad.add ((a.length - i) * 10)).block, (ad.add ((a.length - i) * 10)).off + 4, none⟩ = some (.string p.f4) ∧ w'.cell? ⟨(ad.add ((a.length - i) * 10)).block, (ad.add ((a.length - i) * 10)).off + 5, none⟩ = some (.string p.f5) ∧ w'.cell? ⟨(ad.add ((a.length - i) * 10)).block, (ad.add ((a.length - i) * 10)).off + 6, none⟩ = some (.int .u64 p.f6) ∧ w'.cell? ⟨(ad.add ((a.length - i) * 10)).block, (ad.add ((a.length - i) * 10)).off + 7, none⟩ = some (.int .i64 p.f7) ∧ w'.cell? ⟨(ad.add ((a.length - i) * 10)).block, (ad.add ((a.length - i) * 10)).off + 8, none⟩ = some (.slice P8 p.f8.length c8) ∧ w'.cell? ⟨(ad.add ((a.length - i) * 10)).block, (ad.add ((a.length - i) * 10)).off + 9, none⟩ = some (.slice P9 p.f9.length c9) ∧ w'.cell? (bd.add ((b.length - i) * 10)) = some (.int .u64 q.f0) ∧ w'.cell? ⟨(bd.add ((b.length - i) * 10)).block, (bd.add ((b.length - i) * 10)).off + 1, none⟩ = some (.int .u64 q.f1) ∧ w'.cell? ⟨(bd.add ((b.length - i) * 10)).block, (bd.add ((b.length - i) * 10)).off + 2, none⟩ = some (.string q.f2) ∧ w'.cell? ⟨(bd.add ((b.length - i) * 10)).block, (bd.add ((b.length - i) * 10)).off + 3, none⟩ = some (.int .i64 q.f3) ∧ w'.cell? ⟨(bd.add ((b.length - i) * 10)).block, (bd.add ((b.length - i) * 10)).off + 4, none⟩ = some (.string q.f4) ∧ w'.cell? ⟨(bd.add ((b.length - i) * 10)).block, (bd.add ((b.length - i) * 10)).off + 5, none⟩ = some (.string q.f5) ∧ w'.cell? ⟨(bd.add ((b.length - i) * 10)).block, (bd.add ((b.length - i) * 10)).off + 6, none⟩ = some (.int .u64 q.f6) ∧ w'.cell? ⟨(bd.add ((b.length - i) * 10)).block, (bd.add ((b.length - i) * 10)).off + 7, none⟩ = some (.int .i64 q.f7) ∧ w'.cell? ⟨(bd.add ((b.length - i) * 10)).block, (bd.add ((b.length - i) * 10)).off + 8, none⟩ = some (.slice Q8 q.f8.length d8) ∧ w'.cell? ⟨(bd.add ((b.length - i) * 10)).block, (bd.add ((b.length - i) * 10)).off + 9, none⟩ = some (.slice Q9 q.f9.length d9) from ⟨(h.cell (World.block_lt_of_cell? w _ HP0.out)).trans HP0.out, (h.cell (World.block_lt_of_cell? w _ HP1.out)).trans HP1.out, (h.cell (World.block_lt_of_cell? w _ HP2.out)).trans HP2.out, (h.cell (World.block_lt_of_cell? w _ HP3.out)).trans HP3.out, (h.cell (World.block_lt_of_cell? w _ HP4.out)).trans HP4.out, (h.cell (World.block_lt_of_cell? w _ HP5.out)).trans HP5.out, (h.cell (World.block_lt_of_cell? w _ HP6.out)).trans HP6.out, (h.cell (World.block_lt_of_cell? w _ HP7.out)).trans HP7.out, (h.cell (World.block_lt_of_cell? w _ HP8.out)).trans HP8.out, (h.cell (World.block_lt_of_cell? w _ HP9.out)).trans HP9.out, (h.cell (World.block_lt_of_cell? w _ HQ0.out)).trans HQ0.out, (h.cell (World.block_lt_of_cell? w _ HQ1.out)).trans HQ1.out, (h.cell (World.block_lt_of_cell? w _ HQ2.out)).trans HQ2.out, (h.cell (World.block_lt_of_cell? w _ HQ3.out)).trans HQ3.out, (h.cell (World.block_lt_of_cell? w _ HQ4.out)).trans HQ4.out, (h.cell (World.block_lt_of_cell? w _ HQ5.out)).trans HQ5.out, (h.cell (World.block_lt_of_cell? w _ HQ6.out)).trans HQ6.out, (h.cell (World.block_lt_of_cell? w _ HQ7.out)).trans HQ7.out, (h.cell (World.block_lt_of_cell? w _ HQ8.out)).trans HQ8.out, (h.cell (World.block_lt_of_cell? w _ HQ9.out)).trans HQ9.out⟩))
        have HE2 := Aside0.mk (show collP a b = if sameP p q = true then collR (a.reverse.drop i) (b.reverse.drop i) else some (p, q) from coll_step HE.out ra rb); obtain ⟨s, hs⟩ : ∃ s, sameP p q = s := ⟨_, rfl⟩; obtain ⟨t, ht⟩ : ∃ t, (digP p == digP q) = t := ⟨_, rfl⟩; have HT := Aside0.mk ht; have DS := Aside0.mk (fun A c A1 c1 W h1 h2 h3 h4 => rdsame p q t HT.out A c A1 c1 W h1 h2 h3 h4); have NS := Aside0.mk (fun W h1 h2 => rsame_c p P8 c8 P9 c9 q Q8 d8 Q9 d9 W h1 PK.out h2 QK.out); rw [hs] at HE2 NS
        have p1 : (0 : Int) ≤ (a.length : Int) - (i : Int) := by omega
        have p2 : (0 : Int) ≤ (b.length : Int) - (i : Int) := by omega
        have q1 : (a.length : Int) - (i : Int) < (a.length : Int) := by omega
        have q2 : (b.length : Int) - (i : Int) < (b.length : Int) := by omega
        have j1 : IntKind.i64.wrap ((a.length : Int) - (i : Int)) = (a.length : Int) - (i : Int) := IntWalk.i64_in _ (by have := LA.out; omega); have j2 : IntKind.i64.wrap ((b.length : Int) - (i : Int)) = (b.length : Int) - (i : Int) := IntWalk.i64_in _ (by have := LB.out; omega)
        have p1' : (i : Int) ≤ (a.length : Int) := by omega
        have p2' : (i : Int) ≤ (b.length : Int) := by omega
        have i0 : (0 : Int) < (i : Int) := by omega
        have i1 : 0 < i := by omega
        have n1 : 0 < a.length := by omega
        have n2 : 0 < b.length := by omega
        have t1 : ((a.length : Int) - (i : Int)).toNat = a.length - i := by omega
        have t2 : ((b.length : Int) - (i : Int)).toNat = b.length - i := by omega
        clear hs ht ra rb ka kb hp hq l8 C8 l9 C9 m8 E8 m9 E9 hx0 hx1 hx2 hx3 hx4 hx5 hx6 hx7 hx8 hx9 hy0 hy1 hy2 hy3 hy4 hy5 hy6 hy7 hy8 hy9 HE; go_wp2
        go_cut [8, 9] from 10 to 48 (fun v8 v9 wc => ∃ g8 g9, v8 = .pointer (some ⟨g8, 0, none⟩) ∧ v9 = .pointer (some ⟨g9, 0, none⟩) ∧ Aside0 (wc.heap[g8]? = some (.cells #[.int .u64 p.f0, .int .u64 p.f1, .string p.f2, .int .i64 p.f3, .string p.f4, .string p.f5, .int .u64 p.f6, .int .i64 p.f7, .slice P8 p.f8.length c8, .slice P9 p.f9.length c9] 69 (0, 0))) ∧ Aside0 (wc.heap[g9]? = some (.cells #[.int .u64 q.f0, .int .u64 q.f1, .string q.f2, .int .i64 q.f3, .string q.f4, .string q.f5, .int .u64 q.f6, .int .i64 q.f7, .slice Q8 q.f8.length d8, .slice Q9 q.f9.length d9] 69 (0, 0))) ∧ Aside0 (Below w.heap.size w wc))
        case first =>
          have hb_ := Aside0.mk (below_drew1 HB.out); clear HB; have HB := hb_; clear hb_
          refine start_ (n := 18) (S := fun w' => w'.cell? (ad.add ((a.length - i) * 10)) = some (.int .u64 p.f0) ∧ w'.cell? ⟨(ad.add ((a.length - i) * 10)).block, (ad.add ((a.length - i) * 10)).off + 1, none⟩ = some (.int .u64 p.f1) ∧ w'.cell? ⟨(ad.add ((a.length - i) * 10)).block, (ad.add ((a.length - i) * 10)).off + 2, none⟩ = some (.string p.f2) ∧ w'.cell? ⟨(ad.add ((a.length - i) * 10)).block, (ad.add ((a.length - i) * 10)).off + 3, none⟩ = some (.int .i64 p.f3) ∧ w'.cell? ⟨(ad.add ((a.length - i) * 10)).block, (ad.add ((a.length - i) * 10)).off + 4, none⟩ = some (.string p.f4) ∧ w'.cell? ⟨(ad.add ((a.length - i) * 10)).block, (ad.add ((a.length - i) * 10)).off + 5, none⟩ = some (.string p.f5) ∧ w'.cell? ⟨(ad.add ((a.length - i) * 10)).block, (ad.add ((a.length - i) * 10)).off + 6, none⟩ = some (.int .u64 p.f6) ∧ w'.cell? ⟨(ad.add ((a.length - i) * 10)).block, (ad.add ((a.length - i) * 10)).off + 7, none⟩ = some (.int .i64 p.f7) ∧ w'.cell? ⟨(ad.add ((a.length - i) * 10)).block, (ad.add ((a.length - i) * 10)).off + 8, none⟩ = some (.slice P8 p.f8.length c8) ∧ w'.cell? ⟨(ad.add ((a.length - i) * 10)).block, (ad.add ((a.length - i) * 10)).off + 9, none⟩ = some (.slice P9 p.f9.length c9) ∧ w'.cell? (bd.add ((b.length - i) * 10)) = some (.int .u64 q.f0) ∧ w'.cell? ⟨(bd.add ((b.length - i) * 10)).block, (bd.add ((b.length - i) * 10)).off + 1, none⟩ = some (.int .u64 q.f1) ∧ w'.cell? ⟨(bd.add ((b.length - i) * 10)).block, (bd.add ((b.length - i) * 10)).off + 2, none⟩ = some (.string q.f2) ∧ w'.cell? ⟨(bd.add ((b.length - i) * 10)).block, (bd.add ((b.length - i) * 10)).off + 3, none⟩ = some (.int .i64 q.f3) ∧ w'.cell? ⟨(bd.add ((b.length - i) * 10)).block, (bd.add ((b.length - i) * 10)).off + 4, none⟩ = some (.string q.f4) ∧ w'.cell? ⟨(bd.add ((b.length - i) * 10)).block, (bd.add ((b.length - i) * 10)).off + 5, none⟩ = some (.string q.f5) ∧ w'.cell? ⟨(bd.add ((b.length - i) * 10)).block, (bd.add ((b.length - i) * 10)).off + 6, none⟩ = some (.int .u64 q.f6) ∧ w'.cell? ⟨(bd.add ((b.length - i) * 10)).block, (bd.add ((b.length - i) * 10)).off + 7, none⟩ = some (.int .i64 q.f7) ∧ w'.cell? ⟨(bd.add ((b.length - i) * 10)).block, (bd.add ((b.length - i) * 10)).off + 8, none⟩ = some (.slice Q8 q.f8.length d8) ∧ w'.cell? ⟨(bd.add ((b.length - i) * 10)).block, (bd.add ((b.length - i) * 10)).off + 9, none⟩ = some (.slice Q9 q.f9.length d9)) (ds := []) #[false, false, false, false, false, false, false, false, false, false, false, false, false, false, false, false, false, false] (by kernel_rfl) rfl rfl (HPQ.out _ HB.out) (fun hHeld => ?_)
          generalize World.drew wr = wd at HB hHeld ⊢; refine pure_ (i := 0) (N := some 22) (v := ?_) (a' := ?_) #[true, false, false, false, false, false, false, false, false, false, false, false, false, false, false, false, false, false] rfl rfl (by kernel_rfl) (fun _ _ _ h => h) (Or.inl ⟨by rfl, ?_⟩) ?_ ?_; rotate_left
          · intro w'
            go_simp
            with_reducible rfl
          rotate_left
          · simp only [Act.put, List.setIfInBounds_toArray, List.set_cons_zero, List.set_cons_succ, i64_w, i32_w]
            rfl
          refine pure_ (i := 1) (N := some 23) (v := ?_) (a' := ?_) #[true, true, false, false, false, false, false, false, false, false, false, false, false, false, false, false, false, false] rfl rfl (by kernel_rfl) (fun _ _ _ h => h) (Or.inl ⟨by rfl, ?_⟩) ?_ ?_; rotate_left
          · intro w'
            go_simp
            with_reducible rfl
          rotate_left
          · simp only [Act.put, List.setIfInBounds_toArray, List.set_cons_zero, List.set_cons_succ, i64_w, i32_w]
            rfl
          refine pure_ (i := 2) (N := some 24) (v := ?_) (a' := ?_) #[true, true, true, false, false, false, false, false, false, false, false, false, false, false, false, false, false, false] rfl rfl (by kernel_rfl) (fun _ _ _ h => h) (Or.inl ⟨by rfl, ?_⟩) ?_ ?_; rotate_left
          · intro w'
            go_simp
            with_reducible rfl
          rotate_left
          · simp only [Act.put, List.setIfInBounds_toArray, List.set_cons_zero, List.set_cons_succ, i64_w, i32_w]
            rfl
          refine pure_ (i := 3) (N := some 25) (v := ?_) (a' := ?_) #[true, true, true, true, false, false, false, false, false, false, false, false, false, false, false, false, false, false] rfl rfl (by kernel_rfl) (fun _ _ _ h => h) (Or.inl ⟨by rfl, ?_⟩) ?_ ?_; rotate_left
          · intro w'
            go_simp
            with_reducible rfl
          rotate_left
          · simp only [Act.put, List.setIfInBounds_toArray, List.set_cons_zero, List.set_cons_succ, i64_w, i32_w]
            rfl
          refine pure_ (i := 4) (N := some 26) (v := ?_) (a' := ?_) #[true, true, true, true, true, false, false, false, false, false, false, false, false, false, false, false, false, false] rfl rfl (by kernel_rfl) (fun _ _ _ h => h) (Or.inl ⟨by rfl, ?_⟩) ?_ ?_; rotate_left
          · intro w'
            go_simp
            with_reducible rfl
          rotate_left
          · simp only [Act.put, List.setIfInBounds_toArray, List.set_cons_zero, List.set_cons_succ, i64_w, i32_w]
            rfl
          refine pure_ (i := 5) (N := some 27) (v := ?_) (a' := ?_) #[true, true, true, true, true, true, false, false, false, false, false, false, false, false, false, false, false, false] rfl rfl (by kernel_rfl) (fun _ _ _ h => h) (Or.inl ⟨by rfl, ?_⟩) ?_ ?_; rotate_left
          · intro w'
            go_simp
            with_reducible rfl
          rotate_left
          · simp only [Act.put, List.setIfInBounds_toArray, List.set_cons_zero, List.set_cons_succ, i64_w, i32_w]
            rfl
          refine pure_ (i := 7) (N := some 29) (v := ?_) (a' := ?_) #[true, true, true, true, true, true, false, true, false, false, false, false, false, false, false, false, false, false] rfl rfl (by kernel_rfl) (fun _ _ _ h => h) (Or.inl ⟨by rfl, ?_⟩) ?_ ?_; rotate_left
          · intro w'
            go_simp
            with_reducible rfl
          rotate_left
          · simp only [Act.put, List.setIfInBounds_toArray, List.set_cons_zero, List.set_cons_succ, i64_w, i32_w]
            rfl
          refine pure_ (i := 8) (N := some 30) (v := ?_) (a' := ?_) #[true, true, true, true, true, true, false, true, true, false, false, false, false, false, false, false, false, false] rfl rfl (by kernel_rfl) (fun _ _ _ h => h) (Or.inl ⟨by rfl, ?_⟩) ?_ ?_; rotate_left
          · intro w'
            go_simp
            with_reducible rfl
          rotate_left
          · simp only [Act.put, List.setIfInBounds_toArray, List.set_cons_zero, List.set_cons_succ, i64_w, i32_w]
            rfl
          refine pure_ (i := 9) (N := some 31) (v := ?_) (a' := ?_) #[true, true, true, true, true, true, false, true, true, true, false, false, false, false, false, false, false, false] rfl rfl (by kernel_rfl) (fun _ _ _ h => h) (Or.inl ⟨by rfl, ?_⟩) ?_ ?_; rotate_left
          · intro w'
            go_simp
            with_reducible rfl
          rotate_left
          · simp only [Act.put, List.setIfInBounds_toArray, List.set_cons_zero, List.set_cons_succ, i64_w, i32_w]
            rfl
          refine pure_ (i := 10) (N := some 32) (v := ?_) (a' := ?_) #[true, true, true, true, true, true, false, true, true, true, true, false, false, false, false, false, false, false] rfl rfl (by kernel_rfl) (fun _ _ _ h => h) (Or.inl ⟨by rfl, ?_⟩) ?_ ?_; rotate_left
          · intro w'
            go_simp
            with_reducible rfl
          rotate_left
          · simp only [Act.put, List.setIfInBounds_toArray, List.set_cons_zero, List.set_cons_succ, i64_w, i32_w]
            rfl
          refine pure_ (i := 11) (N := some 33) (v := ?_) (a' := ?_) #[true, true, true, true, true, true, false, true, true, true, true, true, false, false, false, false, false, false] rfl rfl (by kernel_rfl) (fun _ _ _ h => h) (Or.inl ⟨by rfl, ?_⟩) ?_ ?_; rotate_left
          · intro w'
            go_simp
            with_reducible rfl
          rotate_left
          · simp only [Act.put, List.setIfInBounds_toArray, List.set_cons_zero, List.set_cons_succ, i64_w, i32_w]
            rfl
          refine pure_ (i := 12) (N := some 34) (v := ?_) (a' := ?_) #[true, true, true, true, true, true, false, true, true, true, true, true, true, false, false, false, false, false] rfl rfl (by kernel_rfl) (fun _ _ _ h => h) (Or.inl ⟨by rfl, ?_⟩) ?_ ?_; rotate_left
          · intro w'
            go_simp
            with_reducible rfl
          rotate_left
          · simp only [Act.put, List.setIfInBounds_toArray, List.set_cons_zero, List.set_cons_succ, i64_w, i32_w]
            rfl
          refine take_ (i := 6) (N := some 28) (v := ?_) (a' := ?_) #[true, true, true, true, true, true, true, true, true, true, true, true, true, false, false, false, false, false] rfl rfl (by kernel_rfl) (fun _ _ _ h => h) (Or.inl ⟨by rfl, ?_⟩) hHeld ?_ ?_; rotate_left
          · rintro w' ⟨s0, s1, s2, s3, s4, s5, s6, s7, s8, s9, s10, s11, s12, s13, s14, s15, s16, s17, s18, s19⟩
            go_simp
            with_reducible rfl
          rotate_left
          · simp only [Act.put, List.setIfInBounds_toArray, List.set_cons_zero, List.set_cons_succ, i64_w, i32_w]
            rfl
          refine take_ (i := 13) (N := some 35) (v := ?_) (a' := ?_) #[true, true, true, true, true, true, true, true, true, true, true, true, true, true, false, false, false, false] rfl rfl (by kernel_rfl) (fun _ _ _ h => h) (Or.inl ⟨by rfl, ?_⟩) hHeld ?_ ?_; rotate_left
          · rintro w' ⟨s0, s1, s2, s3, s4, s5, s6, s7, s8, s9, s10, s11, s12, s13, s14, s15, s16, s17, s18, s19⟩
            go_simp
            with_reducible rfl
          rotate_left
          · simp only [Act.put, List.setIfInBounds_toArray, List.set_cons_zero, List.set_cons_succ, i64_w, i32_w]
            rfl
          refine join_ (σ := Nat × Nat) 2 #[true, true, true, true, true, true, true, true, true, true, true, true, true, true, true, true, false, false] (fun s => [(8, .pointer (some ⟨s.1, 0, none⟩)), (9, .pointer (some ⟨s.2, 0, none⟩))]) (fun s w' => w'.heap[s.1]? = some (.cells #[.int .u64 0, .int .u64 0, .string ⟨#[]⟩, .int .i64 0, .string ⟨#[]⟩, .string ⟨#[]⟩, .int .u64 0, .int .i64 0, .slice none 0 0, .slice none 0 0] 69 (0, 0)) ∧ w'.heap[s.2]? = some (.cells #[.int .u64 0, .int .u64 0, .string ⟨#[]⟩, .int .i64 0, .string ⟨#[]⟩, .string ⟨#[]⟩, .int .u64 0, .int .i64 0, .slice none 0 0, .slice none 0 0] 69 (0, 0)) ∧ s.1 ≠ s.2 ∧ w.heap.size ≤ s.1 ∧ w.heap.size ≤ s.2 ∧ Below w.heap.size w w') ?_ ?_; rotate_left
          · intro hCont
            refine two_ (i := 14) (j := 15) (Ni := some 8) (Nj := some 9) #[true, true, true, true, true, true, true, true, true, true, true, true, true, true, true, false, false, false] #[true, true, true, true, true, true, true, true, true, true, true, true, true, true, false, true, false, false] rfl rfl rfl rfl (by kernel_rfl) (by decide) (by decide) (fun K hK => ?_) (fun K hK => ?_)
            · skip
              refine value_ (w1 := wd.alloc (.cells #[.int .u64 0, .int .u64 0, .string ⟨#[]⟩, .int .i64 0, .string ⟨#[]⟩, .string ⟨#[]⟩, .int .u64 0, .int .i64 0, .slice none 0 0, .slice none 0 0] 69)) (v := .pointer (some ⟨wd.heap.size, 0, none⟩)) (by rfl) rfl ?_ ?_
              · go_simp
                try rfl
              have hbx := blk_new wd (.cells #[.int .u64 0, .int .u64 0, .string ⟨#[]⟩, .int .i64 0, .string ⟨#[]⟩, .string ⟨#[]⟩, .int .u64 0, .int .i64 0, .slice none 0 0, .slice none 0 0] 69); have hbb := below_alloc (Below.refl wd.heap.size wd) (.cells #[.int .u64 0, .int .u64 0, .string ⟨#[]⟩, .int .i64 0, .string ⟨#[]⟩, .string ⟨#[]⟩, .int .u64 0, .int .i64 0, .slice none 0 0, .slice none 0 0] 69); generalize wd.alloc (.cells #[.int .u64 0, .int .u64 0, .string ⟨#[]⟩, .int .i64 0, .string ⟨#[]⟩, .string ⟨#[]⟩, .int .u64 0, .int .i64 0, .slice none 0 0, .slice none 0 0] 69) = wa14 at hbx hbb ⊢; have GE8 := Aside0.mk (show w.heap.size ≤ wd.heap.size from below_size HB.out); have nb_ := Aside0.mk (below_step HB.out hbb); clear HB; have HB := nb_; clear nb_; obtain ⟨g8, hg8⟩ : ∃ g, wd.heap.size = g := ⟨_, rfl⟩; rw [hg8] at hbx GE8 ⊢; have BK8 := Aside0.mk hbx; clear hbx hbb hg8; refine hK.out _ _ (HPQ.out _ HB.out) (fun hHeld => ?_); clear hK K; refine norm_ (a' := ?_) ?_ ?_; rotate_left
              · show Act.put _ (some 8) _ = _
                simp only [Act.put, List.setIfInBounds_toArray, List.set_cons_zero, List.set_cons_succ, i64_w, i32_w]
                rfl
              refine one_ (i := 15) (N := some 9) #[true, true, true, true, true, true, true, true, true, true, true, true, true, true, true, true, false, false] rfl rfl (by kernel_rfl) (by decide) (fun K hK => ?_); refine value_ (w1 := wa14.alloc (.cells #[.int .u64 0, .int .u64 0, .string ⟨#[]⟩, .int .i64 0, .string ⟨#[]⟩, .string ⟨#[]⟩, .int .u64 0, .int .i64 0, .slice none 0 0, .slice none 0 0] 69)) (v := .pointer (some ⟨wa14.heap.size, 0, none⟩)) (by rfl) rfl ?_ ?_
              · go_simp
                try rfl
              have hbx := blk_new wa14 (.cells #[.int .u64 0, .int .u64 0, .string ⟨#[]⟩, .int .i64 0, .string ⟨#[]⟩, .string ⟨#[]⟩, .int .u64 0, .int .i64 0, .slice none 0 0, .slice none 0 0] 69); have hbb := below_alloc (Below.refl wa14.heap.size wa14) (.cells #[.int .u64 0, .int .u64 0, .string ⟨#[]⟩, .int .i64 0, .string ⟨#[]⟩, .string ⟨#[]⟩, .int .u64 0, .int .i64 0, .slice none 0 0, .slice none 0 0] 69); generalize wa14.alloc (.cells #[.int .u64 0, .int .u64 0, .string ⟨#[]⟩, .int .i64 0, .string ⟨#[]⟩, .string ⟨#[]⟩, .int .u64 0, .int .i64 0, .slice none 0 0, .slice none 0 0] 69) = wb15 at hbx hbb ⊢; have GE9 := Aside0.mk (show w.heap.size ≤ wa14.heap.size from below_size HB.out); have NE9 := Aside0.mk (show g8 ≠ wa14.heap.size from Nat.ne_of_lt (blk_lt BK8.out)); have o_ := Aside0.mk (blk_below BK8.out hbb); clear BK8; have BK8 := o_; clear o_; have nb_ := Aside0.mk (below_step HB.out hbb); clear HB; have HB := nb_; clear nb_; obtain ⟨g9, hg9⟩ : ∃ g, wa14.heap.size = g := ⟨_, rfl⟩; rw [hg9] at hbx GE9 NE9 ⊢; have BK9 := Aside0.mk hbx; clear hbx hbb hg9; refine hK.out _ _ (HPQ.out _ HB.out) (fun hHeld => ?_); clear hK K; refine norm_ (a' := ?_) ?_ ?_; rotate_left
              · show Act.put _ (some 9) _ = _
                simp only [Act.put, List.setIfInBounds_toArray, List.set_cons_zero, List.set_cons_succ, i64_w, i32_w]
                rfl
              exact norm_ (by simp only [putAll, Act.put, List.setIfInBounds_toArray, List.set_cons_zero, List.set_cons_succ]) (hCont (g8, g9) _ ⟨BK8.out, BK9.out, NE9.out, GE8.out, GE9.out, HB.out⟩)
            · skip
              refine value_ (w1 := wd.alloc (.cells #[.int .u64 0, .int .u64 0, .string ⟨#[]⟩, .int .i64 0, .string ⟨#[]⟩, .string ⟨#[]⟩, .int .u64 0, .int .i64 0, .slice none 0 0, .slice none 0 0] 69)) (v := .pointer (some ⟨wd.heap.size, 0, none⟩)) (by rfl) rfl ?_ ?_
              · go_simp
                try rfl
              have hbx := blk_new wd (.cells #[.int .u64 0, .int .u64 0, .string ⟨#[]⟩, .int .i64 0, .string ⟨#[]⟩, .string ⟨#[]⟩, .int .u64 0, .int .i64 0, .slice none 0 0, .slice none 0 0] 69); have hbb := below_alloc (Below.refl wd.heap.size wd) (.cells #[.int .u64 0, .int .u64 0, .string ⟨#[]⟩, .int .i64 0, .string ⟨#[]⟩, .string ⟨#[]⟩, .int .u64 0, .int .i64 0, .slice none 0 0, .slice none 0 0] 69); generalize wd.alloc (.cells #[.int .u64 0, .int .u64 0, .string ⟨#[]⟩, .int .i64 0, .string ⟨#[]⟩, .string ⟨#[]⟩, .int .u64 0, .int .i64 0, .slice none 0 0, .slice none 0 0] 69) = wa15 at hbx hbb ⊢; have GE9 := Aside0.mk (show w.heap.size ≤ wd.heap.size from below_size HB.out); have nb_ := Aside0.mk (below_step HB.out hbb); clear HB; have HB := nb_; clear nb_; obtain ⟨g9, hg9⟩ : ∃ g, wd.heap.size = g := ⟨_, rfl⟩; rw [hg9] at hbx GE9 ⊢; have BK9 := Aside0.mk hbx; clear hbx hbb hg9; refine hK.out _ _ (HPQ.out _ HB.out) (fun hHeld => ?_); clear hK K; refine norm_ (a' := ?_) ?_ ?_; rotate_left
              · show Act.put _ (some 9) _ = _
                simp only [Act.put, List.setIfInBounds_toArray, List.set_cons_zero, List.set_cons_succ, i64_w, i32_w]
                rfl
              refine one_ (i := 14) (N := some 8) #[true, true, true, true, true, true, true, true, true, true, true, true, true, true, true, true, false, false] rfl rfl (by kernel_rfl) (by decide) (fun K hK => ?_); refine value_ (w1 := wa15.alloc (.cells #[.int .u64 0, .int .u64 0, .string ⟨#[]⟩, .int .i64 0, .string ⟨#[]⟩, .string ⟨#[]⟩, .int .u64 0, .int .i64 0, .slice none 0 0, .slice none 0 0] 69)) (v := .pointer (some ⟨wa15.heap.size, 0, none⟩)) (by rfl) rfl ?_ ?_
              · go_simp
                try rfl
              have hbx := blk_new wa15 (.cells #[.int .u64 0, .int .u64 0, .string ⟨#[]⟩, .int .i64 0, .string ⟨#[]⟩, .string ⟨#[]⟩, .int .u64 0, .int .i64 0, .slice none 0 0, .slice none 0 0] 69); have hbb := below_alloc (Below.refl wa15.heap.size wa15) (.cells #[.int .u64 0, .int .u64 0, .string ⟨#[]⟩, .int .i64 0, .string ⟨#[]⟩, .string ⟨#[]⟩, .int .u64 0, .int .i64 0, .slice none 0 0, .slice none 0 0] 69); generalize wa15.alloc (.cells #[.int .u64 0, .int .u64 0, .string ⟨#[]⟩, .int .i64 0, .string ⟨#[]⟩, .string ⟨#[]⟩, .int .u64 0, .int .i64 0, .slice none 0 0, .slice none 0 0] 69) = wb14 at hbx hbb ⊢; have GE8 := Aside0.mk (show w.heap.size ≤ wa15.heap.size from below_size HB.out); have NE8 := Aside0.mk (show g9 ≠ wa15.heap.size from Nat.ne_of_lt (blk_lt BK9.out)); have o_ := Aside0.mk (blk_below BK9.out hbb); clear BK9; have BK9 := o_; clear o_; have nb_ := Aside0.mk (below_step HB.out hbb); clear HB; have HB := nb_; clear nb_; obtain ⟨g8, hg8⟩ : ∃ g, wa15.heap.size = g := ⟨_, rfl⟩; rw [hg8] at hbx GE8 NE8 ⊢; have BK8 := Aside0.mk hbx; clear hbx hbb hg8; refine hK.out _ _ (HPQ.out _ HB.out) (fun hHeld => ?_); clear hK K; refine norm_ (a' := ?_) ?_ ?_; rotate_left
              · show Act.put _ (some 8) _ = _
                simp only [Act.put, List.setIfInBounds_toArray, List.set_cons_zero, List.set_cons_succ, i64_w, i32_w]
                rfl
              exact norm_ (by simp only [putAll, Act.put, List.setIfInBounds_toArray, List.set_cons_zero, List.set_cons_succ]) (hCont (g8, g9) _ ⟨BK8.out, BK9.out, Ne.symm NE8.out, GE8.out, GE9.out, HB.out⟩)
          rintro ⟨g8, g9⟩ we ⟨h8, h9, hne, hge8, hge9, hb⟩; have BK8 := Aside0.mk h8; have BK9 := Aside0.mk h9; have NE := Aside0.mk (show g8 ≠ g9 from hne); have GE8 := Aside0.mk (show w.heap.size ≤ g8 from hge8); have GE9 := Aside0.mk (show w.heap.size ≤ g9 from hge9); clear HB; have HB := Aside0.mk hb; clear h8 h9 hne hge8 hge9 hb; obtain ⟨ha0, ha1, ha2, ha3, ha4, ha5, ha6, ha7, ha8, ha9, fa0, fa1, fa2, fa3, fa4, fa5, fa6, fa7, fa8, fa9⟩ := cells10 BK8.out
          have hHeld : we.cell? (ad.add ((a.length - i) * 10)) = some (.int .u64 p.f0) ∧ we.cell? ⟨(ad.add ((a.length - i) * 10)).block, (ad.add ((a.length - i) * 10)).off + 1, none⟩ = some (.int .u64 p.f1) ∧ we.cell? ⟨(ad.add ((a.length - i) * 10)).block, (ad.add ((a.length - i) * 10)).off + 2, none⟩ = some (.string p.f2) ∧ we.cell? ⟨(ad.add ((a.length - i) * 10)).block, (ad.add ((a.length - i) * 10)).off + 3, none⟩ = some (.int .i64 p.f3) ∧ we.cell? ⟨(ad.add ((a.length - i) * 10)).block, (ad.add ((a.length - i) * 10)).off + 4, none⟩ = some (.string p.f4) ∧ we.cell? ⟨(ad.add ((a.length - i) * 10)).block, (ad.add ((a.length - i) * 10)).off + 5, none⟩ = some (.string p.f5) ∧ we.cell? ⟨(ad.add ((a.length - i) * 10)).block, (ad.add ((a.length - i) * 10)).off + 6, none⟩ = some (.int .u64 p.f6) ∧ we.cell? ⟨(ad.add ((a.length - i) * 10)).block, (ad.add ((a.length - i) * 10)).off + 7, none⟩ = some (.int .i64 p.f7) ∧ we.cell? ⟨(ad.add ((a.length - i) * 10)).block, (ad.add ((a.length - i) * 10)).off + 8, none⟩ = some (.slice P8 p.f8.length c8) ∧ we.cell? ⟨(ad.add ((a.length - i) * 10)).block, (ad.add ((a.length - i) * 10)).off + 9, none⟩ = some (.slice P9 p.f9.length c9) ∧ we.cell? (bd.add ((b.length - i) * 10)) = some (.int .u64 q.f0) ∧ we.cell? ⟨(bd.add ((b.length - i) * 10)).block, (bd.add ((b.length - i) * 10)).off + 1, none⟩ = some (.int .u64 q.f1) ∧ we.cell? ⟨(bd.add ((b.length - i) * 10)).block, (bd.add ((b.length - i) * 10)).off + 2, none⟩ = some (.string q.f2) ∧ we.cell? ⟨(bd.add ((b.length - i) * 10)).block, (bd.add ((b.length - i) * 10)).off + 3, none⟩ = some (.int .i64 q.f3) ∧ we.cell? ⟨(bd.add ((b.length - i) * 10)).block, (bd.add ((b.length - i) * 10)).off + 4, none⟩ = some (.string q.f4) ∧ we.cell? ⟨(bd.add ((b.length - i) * 10)).block, (bd.add ((b.length - i) * 10)).off + 5, none⟩ = some (.string q.f5) ∧ we.cell? ⟨(bd.add ((b.length - i) * 10)).block, (bd.add ((b.length - i) * 10)).off + 6, none⟩ = some (.int .u64 q.f6) ∧ we.cell? ⟨(bd.add ((b.length - i) * 10)).block, (bd.add ((b.length - i) * 10)).off + 7, none⟩ = some (.int .i64 q.f7) ∧ we.cell? ⟨(bd.add ((b.length - i) * 10)).block, (bd.add ((b.length - i) * 10)).off + 8, none⟩ = some (.slice Q8 q.f8.length d8) ∧ we.cell? ⟨(bd.add ((b.length - i) * 10)).block, (bd.add ((b.length - i) * 10)).off + 9, none⟩ = some (.slice Q9 q.f9.length d9) := (HPQ.out _ HB.out)
          refine norm_ (a' := ?_) ?_ ?_; rotate_left
          · simp only [putAll, Act.put, List.setIfInBounds_toArray, List.set_cons_zero, List.set_cons_succ]
            rfl
          refine one_ (i := 16) (N := none) #[true, true, true, true, true, true, true, true, true, true, true, true, true, true, true, true, true, false] rfl rfl (by kernel_rfl) (by decide) (fun K hK => ?_); refine skip_ (w1 := ((((((((((we.setCell ⟨g8, 0, none⟩ (.int .u64 p.f0)).setCell ⟨g8, 1, none⟩ (.int .u64 p.f1)).setCell ⟨g8, 2, none⟩ (.string p.f2)).setCell ⟨g8, 3, none⟩ (.int .i64 p.f3)).setCell ⟨g8, 4, none⟩ (.string p.f4)).setCell ⟨g8, 5, none⟩ (.string p.f5)).setCell ⟨g8, 6, none⟩ (.int .u64 p.f6)).setCell ⟨g8, 7, none⟩ (.int .i64 p.f7)).setCell ⟨g8, 8, none⟩ (.slice P8 p.f8.length c8)).setCell ⟨g8, 9, none⟩ (.slice P9 p.f9.length c9))) (by rfl) rfl ?_ ?_
          · go_simp
            try rfl
          have b8_ := Aside0.mk (show ((((((((((we.setCell ⟨g8, 0, none⟩ (.int .u64 p.f0)).setCell ⟨g8, 1, none⟩ (.int .u64 p.f1)).setCell ⟨g8, 2, none⟩ (.string p.f2)).setCell ⟨g8, 3, none⟩ (.int .i64 p.f3)).setCell ⟨g8, 4, none⟩ (.string p.f4)).setCell ⟨g8, 5, none⟩ (.string p.f5)).setCell ⟨g8, 6, none⟩ (.int .u64 p.f6)).setCell ⟨g8, 7, none⟩ (.int .i64 p.f7)).setCell ⟨g8, 8, none⟩ (.slice P8 p.f8.length c8)).setCell ⟨g8, 9, none⟩ (.slice P9 p.f9.length c9)).heap[g8]? = some (.cells #[.int .u64 p.f0, .int .u64 p.f1, .string p.f2, .int .i64 p.f3, .string p.f4, .string p.f5, .int .u64 p.f6, .int .i64 p.f7, .slice P8 p.f8.length c8, .slice P9 p.f9.length c9] 69 (0, 0)) from (by refine blk_put (cs := #[.int .u64 p.f0, .int .u64 p.f1, .string p.f2, .int .i64 p.f3, .string p.f4, .string p.f5, .int .u64 p.f6, .int .i64 p.f7, .slice P8 p.f8.length c8, .slice none 0 0]) ?_ 9 _ rfl; refine blk_put (cs := #[.int .u64 p.f0, .int .u64 p.f1, .string p.f2, .int .i64 p.f3, .string p.f4, .string p.f5, .int .u64 p.f6, .int .i64 p.f7, .slice none 0 0, .slice none 0 0]) ?_ 8 _ rfl; refine blk_put (cs := #[.int .u64 p.f0, .int .u64 p.f1, .string p.f2, .int .i64 p.f3, .string p.f4, .string p.f5, .int .u64 p.f6, .int .i64 0, .slice none 0 0, .slice none 0 0]) ?_ 7 _ rfl; refine blk_put (cs := #[.int .u64 p.f0, .int .u64 p.f1, .string p.f2, .int .i64 p.f3, .string p.f4, .string p.f5, .int .u64 0, .int .i64 0, .slice none 0 0, .slice none 0 0]) ?_ 6 _ rfl; refine blk_put (cs := #[.int .u64 p.f0, .int .u64 p.f1, .string p.f2, .int .i64 p.f3, .string p.f4, .string ⟨#[]⟩, .int .u64 0, .int .i64 0, .slice none 0 0, .slice none 0 0]) ?_ 5 _ rfl; refine blk_put (cs := #[.int .u64 p.f0, .int .u64 p.f1, .string p.f2, .int .i64 p.f3, .string ⟨#[]⟩, .string ⟨#[]⟩, .int .u64 0, .int .i64 0, .slice none 0 0, .slice none 0 0]) ?_ 4 _ rfl; refine blk_put (cs := #[.int .u64 p.f0, .int .u64 p.f1, .string p.f2, .int .i64 0, .string ⟨#[]⟩, .string ⟨#[]⟩, .int .u64 0, .int .i64 0, .slice none 0 0, .slice none 0 0]) ?_ 3 _ rfl; refine blk_put (cs := #[.int .u64 p.f0, .int .u64 p.f1, .string ⟨#[]⟩, .int .i64 0, .string ⟨#[]⟩, .string ⟨#[]⟩, .int .u64 0, .int .i64 0, .slice none 0 0, .slice none 0 0]) ?_ 2 _ rfl; refine blk_put (cs := #[.int .u64 p.f0, .int .u64 0, .string ⟨#[]⟩, .int .i64 0, .string ⟨#[]⟩, .string ⟨#[]⟩, .int .u64 0, .int .i64 0, .slice none 0 0, .slice none 0 0]) ?_ 1 _ rfl; refine blk_put (cs := #[.int .u64 0, .int .u64 0, .string ⟨#[]⟩, .int .i64 0, .string ⟨#[]⟩, .string ⟨#[]⟩, .int .u64 0, .int .i64 0, .slice none 0 0, .slice none 0 0]) ?_ 0 _ rfl; exact BK8.out))
          have b9_ := Aside0.mk (show ((((((((((we.setCell ⟨g8, 0, none⟩ (.int .u64 p.f0)).setCell ⟨g8, 1, none⟩ (.int .u64 p.f1)).setCell ⟨g8, 2, none⟩ (.string p.f2)).setCell ⟨g8, 3, none⟩ (.int .i64 p.f3)).setCell ⟨g8, 4, none⟩ (.string p.f4)).setCell ⟨g8, 5, none⟩ (.string p.f5)).setCell ⟨g8, 6, none⟩ (.int .u64 p.f6)).setCell ⟨g8, 7, none⟩ (.int .i64 p.f7)).setCell ⟨g8, 8, none⟩ (.slice P8 p.f8.length c8)).setCell ⟨g8, 9, none⟩ (.slice P9 p.f9.length c9)).heap[g9]? = some (.cells #[.int .u64 0, .int .u64 0, .string ⟨#[]⟩, .int .i64 0, .string ⟨#[]⟩, .string ⟨#[]⟩, .int .u64 0, .int .i64 0, .slice none 0 0, .slice none 0 0] 69 (0, 0)) from (by (iterate 10 (refine blk_far ?_ (Ne.symm NE.out) _)); exact BK9.out)); have nb_ := Aside0.mk (show Below w.heap.size w ((((((((((we.setCell ⟨g8, 0, none⟩ (.int .u64 p.f0)).setCell ⟨g8, 1, none⟩ (.int .u64 p.f1)).setCell ⟨g8, 2, none⟩ (.string p.f2)).setCell ⟨g8, 3, none⟩ (.int .i64 p.f3)).setCell ⟨g8, 4, none⟩ (.string p.f4)).setCell ⟨g8, 5, none⟩ (.string p.f5)).setCell ⟨g8, 6, none⟩ (.int .u64 p.f6)).setCell ⟨g8, 7, none⟩ (.int .i64 p.f7)).setCell ⟨g8, 8, none⟩ (.slice P8 p.f8.length c8)).setCell ⟨g8, 9, none⟩ (.slice P9 p.f9.length c9)) from (by (iterate 10 (refine below_set ?_ GE8.out)); exact HB.out)); clear BK8 BK9 HB ha0 fa0 ha1 fa1 ha2 fa2 ha3 fa3 ha4 fa4 ha5 fa5 ha6 fa6 ha7 fa7 ha8 fa8 ha9 fa9
          generalize ((((((((((we.setCell ⟨g8, 0, none⟩ (.int .u64 p.f0)).setCell ⟨g8, 1, none⟩ (.int .u64 p.f1)).setCell ⟨g8, 2, none⟩ (.string p.f2)).setCell ⟨g8, 3, none⟩ (.int .i64 p.f3)).setCell ⟨g8, 4, none⟩ (.string p.f4)).setCell ⟨g8, 5, none⟩ (.string p.f5)).setCell ⟨g8, 6, none⟩ (.int .u64 p.f6)).setCell ⟨g8, 7, none⟩ (.int .i64 p.f7)).setCell ⟨g8, 8, none⟩ (.slice P8 p.f8.length c8)).setCell ⟨g8, 9, none⟩ (.slice P9 p.f9.length c9)) = wf at b8_ b9_ nb_ ⊢; have BK8 := b8_; have BK9 := b9_; have HB := nb_; clear b8_ b9_ nb_; obtain ⟨hb0, hb1, hb2, hb3, hb4, hb5, hb6, hb7, hb8, hb9, fb0, fb1, fb2, fb3, fb4, fb5, fb6, fb7, fb8, fb9⟩ := cells10 BK9.out; refine hK.out _ _ (HPQ.out _ HB.out) (fun hHeld => ?_); clear hK K; refine one_ (i := 17) (N := none) #[true, true, true, true, true, true, true, true, true, true, true, true, true, true, true, true, true, true] rfl rfl (by kernel_rfl) (by decide) (fun K hK => ?_); refine skip_ (w1 := ((((((((((wf.setCell ⟨g9, 0, none⟩ (.int .u64 q.f0)).setCell ⟨g9, 1, none⟩ (.int .u64 q.f1)).setCell ⟨g9, 2, none⟩ (.string q.f2)).setCell ⟨g9, 3, none⟩ (.int .i64 q.f3)).setCell ⟨g9, 4, none⟩ (.string q.f4)).setCell ⟨g9, 5, none⟩ (.string q.f5)).setCell ⟨g9, 6, none⟩ (.int .u64 q.f6)).setCell ⟨g9, 7, none⟩ (.int .i64 q.f7)).setCell ⟨g9, 8, none⟩ (.slice Q8 q.f8.length d8)).setCell ⟨g9, 9, none⟩ (.slice Q9 q.f9.length d9))) (by rfl) rfl ?_ ?_
          · go_simp
            try rfl
          have b9_ := Aside0.mk (show ((((((((((wf.setCell ⟨g9, 0, none⟩ (.int .u64 q.f0)).setCell ⟨g9, 1, none⟩ (.int .u64 q.f1)).setCell ⟨g9, 2, none⟩ (.string q.f2)).setCell ⟨g9, 3, none⟩ (.int .i64 q.f3)).setCell ⟨g9, 4, none⟩ (.string q.f4)).setCell ⟨g9, 5, none⟩ (.string q.f5)).setCell ⟨g9, 6, none⟩ (.int .u64 q.f6)).setCell ⟨g9, 7, none⟩ (.int .i64 q.f7)).setCell ⟨g9, 8, none⟩ (.slice Q8 q.f8.length d8)).setCell ⟨g9, 9, none⟩ (.slice Q9 q.f9.length d9)).heap[g9]? = some (.cells #[.int .u64 q.f0, .int .u64 q.f1, .string q.f2, .int .i64 q.f3, .string q.f4, .string q.f5, .int .u64 q.f6, .int .i64 q.f7, .slice Q8 q.f8.length d8, .slice Q9 q.f9.length d9] 69 (0, 0)) from (by refine blk_put (cs := #[.int .u64 q.f0, .int .u64 q.f1, .string q.f2, .int .i64 q.f3, .string q.f4, .string q.f5, .int .u64 q.f6, .int .i64 q.f7, .slice Q8 q.f8.length d8, .slice none 0 0]) ?_ 9 _ rfl; refine blk_put (cs := #[.int .u64 q.f0, .int .u64 q.f1, .string q.f2, .int .i64 q.f3, .string q.f4, .string q.f5, .int .u64 q.f6, .int .i64 q.f7, .slice none 0 0, .slice none 0 0]) ?_ 8 _ rfl; refine blk_put (cs := #[.int .u64 q.f0, .int .u64 q.f1, .string q.f2, .int .i64 q.f3, .string q.f4, .string q.f5, .int .u64 q.f6, .int .i64 0, .slice none 0 0, .slice none 0 0]) ?_ 7 _ rfl; refine blk_put (cs := #[.int .u64 q.f0, .int .u64 q.f1, .string q.f2, .int .i64 q.f3, .string q.f4, .string q.f5, .int .u64 0, .int .i64 0, .slice none 0 0, .slice none 0 0]) ?_ 6 _ rfl; refine blk_put (cs := #[.int .u64 q.f0, .int .u64 q.f1, .string q.f2, .int .i64 q.f3, .string q.f4, .string ⟨#[]⟩, .int .u64 0, .int .i64 0, .slice none 0 0, .slice none 0 0]) ?_ 5 _ rfl; refine blk_put (cs := #[.int .u64 q.f0, .int .u64 q.f1, .string q.f2, .int .i64 q.f3, .string ⟨#[]⟩, .string ⟨#[]⟩, .int .u64 0, .int .i64 0, .slice none 0 0, .slice none 0 0]) ?_ 4 _ rfl; refine blk_put (cs := #[.int .u64 q.f0, .int .u64 q.f1, .string q.f2, .int .i64 0, .string ⟨#[]⟩, .string ⟨#[]⟩, .int .u64 0, .int .i64 0, .slice none 0 0, .slice none 0 0]) ?_ 3 _ rfl; refine blk_put (cs := #[.int .u64 q.f0, .int .u64 q.f1, .string ⟨#[]⟩, .int .i64 0, .string ⟨#[]⟩, .string ⟨#[]⟩, .int .u64 0, .int .i64 0, .slice none 0 0, .slice none 0 0]) ?_ 2 _ rfl; refine blk_put (cs := #[.int .u64 q.f0, .int .u64 0, .string ⟨#[]⟩, .int .i64 0, .string ⟨#[]⟩, .string ⟨#[]⟩, .int .u64 0, .int .i64 0, .slice none 0 0, .slice none 0 0]) ?_ 1 _ rfl; refine blk_put (cs := #[.int .u64 0, .int .u64 0, .string ⟨#[]⟩, .int .i64 0, .string ⟨#[]⟩, .string ⟨#[]⟩, .int .u64 0, .int .i64 0, .slice none 0 0, .slice none 0 0]) ?_ 0 _ rfl; exact BK9.out))
          have b8_ := Aside0.mk (show ((((((((((wf.setCell ⟨g9, 0, none⟩ (.int .u64 q.f0)).setCell ⟨g9, 1, none⟩ (.int .u64 q.f1)).setCell ⟨g9, 2, none⟩ (.string q.f2)).setCell ⟨g9, 3, none⟩ (.int .i64 q.f3)).setCell ⟨g9, 4, none⟩ (.string q.f4)).setCell ⟨g9, 5, none⟩ (.string q.f5)).setCell ⟨g9, 6, none⟩ (.int .u64 q.f6)).setCell ⟨g9, 7, none⟩ (.int .i64 q.f7)).setCell ⟨g9, 8, none⟩ (.slice Q8 q.f8.length d8)).setCell ⟨g9, 9, none⟩ (.slice Q9 q.f9.length d9)).heap[g8]? = some (.cells #[.int .u64 p.f0, .int .u64 p.f1, .string p.f2, .int .i64 p.f3, .string p.f4, .string p.f5, .int .u64 p.f6, .int .i64 p.f7, .slice P8 p.f8.length c8, .slice P9 p.f9.length c9] 69 (0, 0)) from (by (iterate 10 (refine blk_far ?_ NE.out _)); exact BK8.out)); have nb_ := Aside0.mk (show Below w.heap.size w ((((((((((wf.setCell ⟨g9, 0, none⟩ (.int .u64 q.f0)).setCell ⟨g9, 1, none⟩ (.int .u64 q.f1)).setCell ⟨g9, 2, none⟩ (.string q.f2)).setCell ⟨g9, 3, none⟩ (.int .i64 q.f3)).setCell ⟨g9, 4, none⟩ (.string q.f4)).setCell ⟨g9, 5, none⟩ (.string q.f5)).setCell ⟨g9, 6, none⟩ (.int .u64 q.f6)).setCell ⟨g9, 7, none⟩ (.int .i64 q.f7)).setCell ⟨g9, 8, none⟩ (.slice Q8 q.f8.length d8)).setCell ⟨g9, 9, none⟩ (.slice Q9 q.f9.length d9)) from (by (iterate 10 (refine below_set ?_ GE9.out)); exact HB.out)); clear BK8 BK9 HB hb0 fb0 hb1 fb1 hb2 fb2 hb3 fb3 hb4 fb4 hb5 fb5 hb6 fb6 hb7 fb7 hb8 fb8 hb9 fb9
          generalize ((((((((((wf.setCell ⟨g9, 0, none⟩ (.int .u64 q.f0)).setCell ⟨g9, 1, none⟩ (.int .u64 q.f1)).setCell ⟨g9, 2, none⟩ (.string q.f2)).setCell ⟨g9, 3, none⟩ (.int .i64 q.f3)).setCell ⟨g9, 4, none⟩ (.string q.f4)).setCell ⟨g9, 5, none⟩ (.string q.f5)).setCell ⟨g9, 6, none⟩ (.int .u64 q.f6)).setCell ⟨g9, 7, none⟩ (.int .i64 q.f7)).setCell ⟨g9, 8, none⟩ (.slice Q8 q.f8.length d8)).setCell ⟨g9, 9, none⟩ (.slice Q9 q.f9.length d9)) = wg at b8_ b9_ nb_ ⊢; have BK8 := b8_; have BK9 := b9_; have HB := nb_; clear b8_ b9_ nb_; refine hK.out _ _ (HPQ.out _ HB.out) (fun hHeld => ?_); clear hK K; refine done_ (by kernel_rfl) ?_; go_wp2; go_meet
          case rel => exact ⟨g8, g9, rfl, rfl, BK8, BK9, HB⟩
        case rest =>
          clear HB; obtain ⟨g8, g9, rfl, rfl, BK8, BK9, HB⟩ := hcut; obtain ⟨ha0, ha1, ha2, ha3, ha4, ha5, ha6, ha7, ha8, ha9, fa0, fa1, fa2, fa3, fa4, fa5, fa6, fa7, fa8, fa9⟩ := cells10 BK8.out; obtain ⟨hb0, hb1, hb2, hb3, hb4, hb5, hb6, hb7, hb8, hb9, fb0, fb1, fb2, fb3, fb4, fb5, fb6, fb7, fb8, fb9⟩ := cells10 BK9.out
          have TPQ := Aside0.mk (fun (w' : World) (h : w'.heap[g8]? = some (.cells #[.int .u64 p.f0, .int .u64 p.f1, .string p.f2, .int .i64 p.f3, .string p.f4, .string p.f5, .int .u64 p.f6, .int .i64 p.f7, .slice P8 p.f8.length c8, .slice P9 p.f9.length c9] 69 (0, 0))) (h2 : w'.heap[g9]? = some (.cells #[.int .u64 q.f0, .int .u64 q.f1, .string q.f2, .int .i64 q.f3, .string q.f4, .string q.f5, .int .u64 q.f6, .int .i64 q.f7, .slice Q8 q.f8.length d8, .slice Q9 q.f9.length d9] 69 (0, 0))) => (show w'.cell? ⟨g8, 0, none⟩ = some (.int .u64 p.f0) ∧ w'.cell? ⟨g8, 1, none⟩ = some (.int .u64 p.f1) ∧ w'.cell? ⟨g8, 2, none⟩ = some (.string p.f2) ∧ w'.cell? ⟨g8, 3, none⟩ = some (.int .i64 p.f3) ∧ w'.cell? ⟨g8, 4, none⟩ = some (.string p.f4) ∧ w'.cell? ⟨g8, 5, none⟩ = some (.string p.f5) ∧ w'.cell? ⟨g8, 6, none⟩ = some (.int .u64 p.f6) ∧ w'.cell? ⟨g8, 7, none⟩ = some (.int .i64 p.f7) ∧ w'.cell? ⟨g8, 8, none⟩ = some (.slice P8 p.f8.length c8) ∧ w'.cell? ⟨g8, 9, none⟩ = some (.slice P9 p.f9.length c9) ∧ w'.cell? ⟨g9, 0, none⟩ = some (.int .u64 q.f0) ∧ w'.cell? ⟨g9, 1, none⟩ = some (.int .u64 q.f1) ∧ w'.cell? ⟨g9, 2, none⟩ = some (.string q.f2) ∧ w'.cell? ⟨g9, 3, none⟩ = some (.int .i64 q.f3) ∧ w'.cell? ⟨g9, 4, none⟩ = some (.string q.f4) ∧ w'.cell? ⟨g9, 5, none⟩ = some (.string q.f5) ∧ w'.cell? ⟨g9, 6, none⟩ = some (.int .u64 q.f6) ∧ w'.cell? ⟨g9, 7, none⟩ = some (.int .i64 q.f7) ∧ w'.cell? ⟨g9, 8, none⟩ = some (.slice Q8 q.f8.length d8) ∧ w'.cell? ⟨g9, 9, none⟩ = some (.slice Q9 q.f9.length d9) from ⟨(blk_cell h 0).trans rfl, (blk_cell h 1).trans rfl, (blk_cell h 2).trans rfl, (blk_cell h 3).trans rfl, (blk_cell h 4).trans rfl, (blk_cell h 5).trans rfl, (blk_cell h 6).trans rfl, (blk_cell h 7).trans rfl, (blk_cell h 8).trans rfl, (blk_cell h 9).trans rfl, (blk_cell h2 0).trans rfl, (blk_cell h2 1).trans rfl, (blk_cell h2 2).trans rfl, (blk_cell h2 3).trans rfl, (blk_cell h2 4).trans rfl, (blk_cell h2 5).trans rfl, (blk_cell h2 6).trans rfl, (blk_cell h2 7).trans rfl, (blk_cell h2 8).trans rfl, (blk_cell h2 9).trans rfl⟩))
          cases s with
          | true =>
            have HE3 := Aside0.mk (show collP a b = collR (a.reverse.drop i) (b.reverse.drop i) from coll_go HE2.out rfl); clear HE2
            go_wp2_with (go_at_call 75; (with_reducible refine (NS.out _ (PR.out.below HB.out) (QR.out.below HB.out)).mono ?_); rintro e wm ⟨rfl, hb⟩; have nb_ := Aside0.mk (below_step HB.out hb); clear HB hb; have HB := nb_; clear nb_)
            go_roundw
            case measure => exact stepM i a.length h0 LA.out
            case rel => exact ⟨i + 1, stepI i a.length h0 LA.out, Nat.succ_le_succ (Nat.zero_le i), Nat.succ_le_succ h0, Nat.succ_le_succ h1, ⟨coll_next HE3.out⟩, HB⟩
          | false =>
            have HE3 := Aside0.mk (show collP a b = some (p, q) from coll_stop HE2.out rfl); clear HE2
            go_wp2_with (go_at_call 75; (with_reducible refine (NS.out _ (PR.out.below HB.out) (QR.out.below HB.out)).mono ?_); rintro e wm ⟨rfl, hb⟩; have b8_ := Aside0.mk (blk_below BK8.out hb); have b9_ := Aside0.mk (blk_below BK9.out hb); have nb_ := Aside0.mk (below_step HB.out hb); clear HB BK8 BK9 hb; have HB := nb_; have BK8 := b8_; have BK9 := b9_; clear nb_ b8_ b9_)
            have b8_ := Aside0.mk (blk_drew BK8.out); have b9_ := Aside0.mk (blk_drew BK9.out); have nb_ := Aside0.mk (below_drew1 HB.out); clear BK8 BK9 HB; have BK8 := b8_; have BK9 := b9_; have HB := nb_; clear b8_ b9_ nb_; refine start_ (n := 6) (S := fun w' => w'.cell? ⟨g8, 0, none⟩ = some (.int .u64 p.f0) ∧ w'.cell? ⟨g8, 1, none⟩ = some (.int .u64 p.f1) ∧ w'.cell? ⟨g8, 2, none⟩ = some (.string p.f2) ∧ w'.cell? ⟨g8, 3, none⟩ = some (.int .i64 p.f3) ∧ w'.cell? ⟨g8, 4, none⟩ = some (.string p.f4) ∧ w'.cell? ⟨g8, 5, none⟩ = some (.string p.f5) ∧ w'.cell? ⟨g8, 6, none⟩ = some (.int .u64 p.f6) ∧ w'.cell? ⟨g8, 7, none⟩ = some (.int .i64 p.f7) ∧ w'.cell? ⟨g8, 8, none⟩ = some (.slice P8 p.f8.length c8) ∧ w'.cell? ⟨g8, 9, none⟩ = some (.slice P9 p.f9.length c9) ∧ w'.cell? ⟨g9, 0, none⟩ = some (.int .u64 q.f0) ∧ w'.cell? ⟨g9, 1, none⟩ = some (.int .u64 q.f1) ∧ w'.cell? ⟨g9, 2, none⟩ = some (.string q.f2) ∧ w'.cell? ⟨g9, 3, none⟩ = some (.int .i64 q.f3) ∧ w'.cell? ⟨g9, 4, none⟩ = some (.string q.f4) ∧ w'.cell? ⟨g9, 5, none⟩ = some (.string q.f5) ∧ w'.cell? ⟨g9, 6, none⟩ = some (.int .u64 q.f6) ∧ w'.cell? ⟨g9, 7, none⟩ = some (.int .i64 q.f7) ∧ w'.cell? ⟨g9, 8, none⟩ = some (.slice Q8 q.f8.length d8) ∧ w'.cell? ⟨g9, 9, none⟩ = some (.slice Q9 q.f9.length d9)) (ds := []) #[false, false, false, false, false, false] (by kernel_rfl) rfl rfl (TPQ.out _ BK8.out BK9.out) (fun hHeld => ?_); generalize World.drew wm = wd at BK8 BK9 HB hHeld ⊢; refine take_ (i := 0) (N := some 39) (v := ?_) (a' := ?_) #[true, false, false, false, false, false] rfl rfl (by kernel_rfl) (fun _ _ _ h => h) (Or.inl ⟨by rfl, ?_⟩) hHeld ?_ ?_; rotate_left
            · rintro w' ⟨s0, s1, s2, s3, s4, s5, s6, s7, s8, s9, s10, s11, s12, s13, s14, s15, s16, s17, s18, s19⟩
              go_simp
              with_reducible rfl
            rotate_left
            · simp only [Act.put, List.setIfInBounds_toArray, List.set_cons_zero, List.set_cons_succ, i64_w, i32_w]
              rfl
            refine take_ (i := 2) (N := some 41) (v := ?_) (a' := ?_) #[true, false, true, false, false, false] rfl rfl (by kernel_rfl) (fun _ _ _ h => h) (Or.inl ⟨by rfl, ?_⟩) hHeld ?_ ?_; rotate_left
            · rintro w' ⟨s0, s1, s2, s3, s4, s5, s6, s7, s8, s9, s10, s11, s12, s13, s14, s15, s16, s17, s18, s19⟩
              go_simp
              with_reducible rfl
            rotate_left
            · simp only [Act.put, List.setIfInBounds_toArray, List.set_cons_zero, List.set_cons_succ, i64_w, i32_w]
              rfl
            refine one_ (i := 1) (N := some 40) #[true, true, true, false, false, false] rfl rfl (by kernel_rfl) (by decide) (fun K hK => ?_); refine goes_ Try.func82 (by kernel_rfl) rfl #[.agg #[.int .u64 p.f0, .int .u64 p.f1, .string p.f2, .int .i64 p.f3, .string p.f4, .string p.f5, .int .u64 p.f6, .int .i64 p.f7, .slice P8 p.f8.length c8, .slice P9 p.f9.length c9]] (by rfl) rfl rfl (by first | (simp only [List.map_toArray, List.map_cons, List.map_nil]; done) | (simp only [List.map_toArray, List.map_cons, List.map_nil]; rfl)) ?_
            with_reducible refine (rdigC p P8 c8 P9 c9 _ (PR.out.below HB.out) PK.out).mono ?_
            rintro e wh ⟨Da, da, rfl, hC, hc, hb⟩; refine ⟨_, rfl, ?_⟩; have D1 := Aside0.mk hC; have M1 := Aside0.mk hc; clear hC hc; have b8_ := Aside0.mk (blk_below BK8.out hb); have b9_ := Aside0.mk (blk_below BK9.out hb); have nb_ := Aside0.mk (below_step HB.out hb); clear BK8 BK9 HB ; have BK8 := b8_; have BK9 := b9_; have HB := nb_; clear b8_ b9_ nb_ hb ; refine hK.out _ _ (TPQ.out _ BK8.out BK9.out) (fun hHeld => ?_); clear hK K; refine norm_ (a' := ?_) ?_ ?_; rotate_left
            · show Act.put _ (some 40) _ = _
              simp only [Act.put, List.setIfInBounds_toArray, List.set_cons_zero, List.set_cons_succ, i64_w, i32_w]
              rfl
            refine one_ (i := 3) (N := some 42) #[true, true, true, true, false, false] rfl rfl (by kernel_rfl) (by decide) (fun K hK => ?_); refine goes_ Try.func82 (by kernel_rfl) rfl #[.agg #[.int .u64 q.f0, .int .u64 q.f1, .string q.f2, .int .i64 q.f3, .string q.f4, .string q.f5, .int .u64 q.f6, .int .i64 q.f7, .slice Q8 q.f8.length d8, .slice Q9 q.f9.length d9]] (by rfl) rfl rfl (by first | (simp only [List.map_toArray, List.map_cons, List.map_nil]; done) | (simp only [List.map_toArray, List.map_cons, List.map_nil]; rfl)) ?_
            with_reducible refine (rdigC q Q8 d8 Q9 d9 _ (QR.out.below HB.out) QK.out).mono ?_
            rintro e wi ⟨Db, db, rfl, hC, hc, hb⟩; refine ⟨_, rfl, ?_⟩; have D2 := Aside0.mk hC; have M2 := Aside0.mk hc; clear hC hc; have b8_ := Aside0.mk (blk_below BK8.out hb); have b9_ := Aside0.mk (blk_below BK9.out hb); have nb_ := Aside0.mk (below_step HB.out hb); have xD1_ := Aside0.mk (Kd.C_below D1.out hb); clear BK8 BK9 HB D1; have BK8 := b8_; have BK9 := b9_; have HB := nb_; have D1 := xD1_; clear b8_ b9_ nb_ hb xD1_; refine hK.out _ _ (TPQ.out _ BK8.out BK9.out) (fun hHeld => ?_); clear hK K; refine norm_ (a' := ?_) ?_ ?_; rotate_left
            · show Act.put _ (some 42) _ = _
              simp only [Act.put, List.setIfInBounds_toArray, List.set_cons_zero, List.set_cons_succ, i64_w, i32_w]
              rfl
            refine one_ (i := 4) (N := some 43) #[true, true, true, true, true, false] rfl rfl (by kernel_rfl) (by decide) (fun K hK => ?_); refine goes_ Try.func29 (by kernel_rfl) rfl #[.slice Da 32 da, .slice Db 32 db] (by rfl) rfl rfl (by first | (simp only [List.map_toArray, List.map_cons, List.map_nil]; done) | (simp only [List.map_toArray, List.map_cons, List.map_nil]; rfl)) ?_
            with_reducible refine (DS.out Da da Db db _ D1.out M1.out D2.out M2.out).mono ?_
            rintro e wj ⟨rfl, hb⟩; refine ⟨_, rfl, ?_⟩; clear D1 D2 M1 M2; have b8_ := Aside0.mk (blk_below BK8.out hb); have b9_ := Aside0.mk (blk_below BK9.out hb); have nb_ := Aside0.mk (below_step HB.out hb); clear BK8 BK9 HB ; have BK8 := b8_; have BK9 := b9_; have HB := nb_; clear b8_ b9_ nb_ hb ; refine hK.out _ _ (TPQ.out _ BK8.out BK9.out) (fun hHeld => ?_); clear hK K; refine norm_ (a' := ?_) ?_ ?_; rotate_left
            · show Act.put _ (some 43) _ = _
              simp only [Act.put, List.setIfInBounds_toArray, List.set_cons_zero, List.set_cons_succ, i64_w, i32_w]
              rfl
            refine pure_ (i := 5) (N := some 44) (v := ?_) (a' := ?_) #[true, true, true, true, true, true] rfl rfl (by kernel_rfl) (fun _ _ _ h => h) (Or.inl ⟨by rfl, ?_⟩) ?_ ?_; rotate_left
            · intro w'
              go_simp
              with_reducible rfl
            rotate_left
            · simp only [Act.put, List.setIfInBounds_toArray, List.set_cons_zero, List.set_cons_succ, i64_w, i32_w]
              rfl
            refine done_ (by kernel_rfl) ?_
            cases t with
            | false =>
              go_wp2
              go_ret3
              exact CollPost_differ HE3.out HT.out HB.out
            | true =>
              go_wp2; have b8_ := Aside0.mk (blk_drew BK8.out); have b9_ := Aside0.mk (blk_drew BK9.out); have nb_ := Aside0.mk (below_drew1 HB.out); clear BK8 BK9 HB; have BK8 := b8_; have BK9 := b9_; have HB := nb_; clear b8_ b9_ nb_; refine start_ (n := 7) (S := fun w' => w'.cell? ⟨g8, 0, none⟩ = some (.int .u64 p.f0) ∧ w'.cell? ⟨g8, 1, none⟩ = some (.int .u64 p.f1) ∧ w'.cell? ⟨g8, 2, none⟩ = some (.string p.f2) ∧ w'.cell? ⟨g8, 3, none⟩ = some (.int .i64 p.f3) ∧ w'.cell? ⟨g8, 4, none⟩ = some (.string p.f4) ∧ w'.cell? ⟨g8, 5, none⟩ = some (.string p.f5) ∧ w'.cell? ⟨g8, 6, none⟩ = some (.int .u64 p.f6) ∧ w'.cell? ⟨g8, 7, none⟩ = some (.int .i64 p.f7) ∧ w'.cell? ⟨g8, 8, none⟩ = some (.slice P8 p.f8.length c8) ∧ w'.cell? ⟨g8, 9, none⟩ = some (.slice P9 p.f9.length c9) ∧ w'.cell? ⟨g9, 0, none⟩ = some (.int .u64 q.f0) ∧ w'.cell? ⟨g9, 1, none⟩ = some (.int .u64 q.f1) ∧ w'.cell? ⟨g9, 2, none⟩ = some (.string q.f2) ∧ w'.cell? ⟨g9, 3, none⟩ = some (.int .i64 q.f3) ∧ w'.cell? ⟨g9, 4, none⟩ = some (.string q.f4) ∧ w'.cell? ⟨g9, 5, none⟩ = some (.string q.f5) ∧ w'.cell? ⟨g9, 6, none⟩ = some (.int .u64 q.f6) ∧ w'.cell? ⟨g9, 7, none⟩ = some (.int .i64 q.f7) ∧ w'.cell? ⟨g9, 8, none⟩ = some (.slice Q8 q.f8.length d8) ∧ w'.cell? ⟨g9, 9, none⟩ = some (.slice Q9 q.f9.length d9)) (ds := []) #[false, false, false, false, false, false, false] (by kernel_rfl) rfl rfl (TPQ.out _ BK8.out BK9.out) (fun hHeld => ?_); generalize World.drew wj = wd2 at BK8 BK9 HB hHeld ⊢; refine take_ (i := 0) (N := some 45) (v := ?_) (a' := ?_) #[true, false, false, false, false, false, false] rfl rfl (by kernel_rfl) (fun _ _ _ h => h) (Or.inl ⟨by rfl, ?_⟩) hHeld ?_ ?_; rotate_left
              · rintro w' ⟨s0, s1, s2, s3, s4, s5, s6, s7, s8, s9, s10, s11, s12, s13, s14, s15, s16, s17, s18, s19⟩
                go_simp
                with_reducible rfl
              rotate_left
              · simp only [Act.put, List.setIfInBounds_toArray, List.set_cons_zero, List.set_cons_succ, i64_w, i32_w]
                rfl
              refine take_ (i := 2) (N := some 47) (v := ?_) (a' := ?_) #[true, false, true, false, false, false, false] rfl rfl (by kernel_rfl) (fun _ _ _ h => h) (Or.inl ⟨by rfl, ?_⟩) hHeld ?_ ?_; rotate_left
              · rintro w' ⟨s0, s1, s2, s3, s4, s5, s6, s7, s8, s9, s10, s11, s12, s13, s14, s15, s16, s17, s18, s19⟩
                go_simp
                with_reducible rfl
              rotate_left
              · simp only [Act.put, List.setIfInBounds_toArray, List.set_cons_zero, List.set_cons_succ, i64_w, i32_w]
                rfl
              refine one_ (i := 1) (N := some 46) #[true, true, true, false, false, false, false] rfl rfl (by kernel_rfl) (by decide) (fun K hK => ?_); refine goes_ Try.func85 (by kernel_rfl) rfl #[.agg #[.int .u64 p.f0, .int .u64 p.f1, .string p.f2, .int .i64 p.f3, .string p.f4, .string p.f5, .int .u64 p.f6, .int .i64 p.f7, .slice P8 p.f8.length c8, .slice P9 p.f9.length c9]] (by rfl) rfl rfl (by first | (simp only [List.map_toArray, List.map_cons, List.map_nil]; done) | (simp only [List.map_toArray, List.map_cons, List.map_nil]; rfl)) ?_
              with_reducible refine (rshowC p P8 c8 P9 c9 _ (PR.out.below HB.out) PK.out).mono ?_
              rintro e wk ⟨Sa, sa, rfl, hC, hc, hb⟩; refine ⟨_, rfl, ?_⟩; have D1 := Aside0.mk hC; have M1 := Aside0.mk hc; clear hC hc; have b8_ := Aside0.mk (blk_below BK8.out hb); have b9_ := Aside0.mk (blk_below BK9.out hb); have nb_ := Aside0.mk (below_step HB.out hb); clear BK8 BK9 HB ; have BK8 := b8_; have BK9 := b9_; have HB := nb_; clear b8_ b9_ nb_ hb ; refine hK.out _ _ (TPQ.out _ BK8.out BK9.out) (fun hHeld => ?_); clear hK K; refine norm_ (a' := ?_) ?_ ?_; rotate_left
              · show Act.put _ (some 46) _ = _
                simp only [Act.put, List.setIfInBounds_toArray, List.set_cons_zero, List.set_cons_succ, i64_w, i32_w]
                rfl
              refine one_ (i := 3) (N := some 48) #[true, true, true, true, false, false, false] rfl rfl (by kernel_rfl) (by decide) (fun K hK => ?_); refine goes_ Try.func85 (by kernel_rfl) rfl #[.agg #[.int .u64 q.f0, .int .u64 q.f1, .string q.f2, .int .i64 q.f3, .string q.f4, .string q.f5, .int .u64 q.f6, .int .i64 q.f7, .slice Q8 q.f8.length d8, .slice Q9 q.f9.length d9]] (by rfl) rfl rfl (by first | (simp only [List.map_toArray, List.map_cons, List.map_nil]; done) | (simp only [List.map_toArray, List.map_cons, List.map_nil]; rfl)) ?_
              with_reducible refine (rshowC q Q8 d8 Q9 d9 _ (QR.out.below HB.out) QK.out).mono ?_
              rintro e wl ⟨Sb, sb, rfl, hC, hc, hb⟩; refine ⟨_, rfl, ?_⟩; have D2 := Aside0.mk hC; have M2 := Aside0.mk hc; clear hC hc; have b8_ := Aside0.mk (blk_below BK8.out hb); have b9_ := Aside0.mk (blk_below BK9.out hb); have nb_ := Aside0.mk (below_step HB.out hb); have xD1_ := Aside0.mk (Kd.C_below D1.out hb); clear BK8 BK9 HB D1; have BK8 := b8_; have BK9 := b9_; have HB := nb_; have D1 := xD1_; clear b8_ b9_ nb_ hb xD1_; refine hK.out _ _ (TPQ.out _ BK8.out BK9.out) (fun hHeld => ?_); clear hK K; refine norm_ (a' := ?_) ?_ ?_; rotate_left
              · show Act.put _ (some 48) _ = _
                simp only [Act.put, List.setIfInBounds_toArray, List.set_cons_zero, List.set_cons_succ, i64_w, i32_w]
                rfl
              refine pure_ (i := 4) (N := some 4) (v := ?_) (a' := ?_) #[true, true, true, true, true, false, false] rfl rfl (by kernel_rfl) (fun _ _ _ h => h) (Or.inl ⟨by rfl, ?_⟩) ?_ ?_; rotate_left
              · intro w'
                go_simp
                with_reducible rfl
              rotate_left
              · simp only [Act.put, List.setIfInBounds_toArray, List.set_cons_zero, List.set_cons_succ, i64_w, i32_w]
                rfl
              refine pure_ (i := 5) (N := some 5) (v := ?_) (a' := ?_) #[true, true, true, true, true, true, false] rfl rfl (by kernel_rfl) (fun _ _ _ h => h) (Or.inl ⟨by rfl, ?_⟩) ?_ ?_; rotate_left
              · intro w'
                go_simp
                with_reducible rfl
              rotate_left
              · simp only [Act.put, List.setIfInBounds_toArray, List.set_cons_zero, List.set_cons_succ, i64_w, i32_w]
                rfl
              refine pure_ (i := 6) (N := some 6) (v := ?_) (a' := ?_) #[true, true, true, true, true, true, true] rfl rfl (by kernel_rfl) (fun _ _ _ h => h) (Or.inl ⟨by rfl, ?_⟩) ?_ ?_; rotate_left
              · intro w'
                go_simp
                with_reducible rfl
              rotate_left
              · simp only [Act.put, List.setIfInBounds_toArray, List.set_cons_zero, List.set_cons_succ, i64_w, i32_w]
                rfl
              refine done_ (by kernel_rfl) ?_; go_wp2
              go_ret3
              exact CollPost_same HE3.out HT.out D1.out M1.out D2.out M2.out HB.out
      · have d0 : decide ((i : Int) ≤ (a.length : Int)) = true := decide_eq_true (by omega)
        have d1 : decide ((i : Int) ≤ (b.length : Int)) = false := decide_eq_false (by omega); have d2 : decide (i ≤ a.length) = true := decide_eq_true h0; have d3 : decide (i ≤ b.length) = false := decide_eq_false h1; go_wp2
        go_ret3
        exact CollPost_none (coll_end_b HE.out (by omega)) HB.out
    · have d0 : decide ((i : Int) ≤ (a.length : Int)) = false := decide_eq_false (by omega)
      have d2 : decide (i ≤ a.length) = false := decide_eq_false h0; go_wp2
      go_ret3
      exact CollPost_none (coll_end_a HE.out (by omega)) HB.out
end Go.Proofs.Ytlnpmodhejakiaa.AV
