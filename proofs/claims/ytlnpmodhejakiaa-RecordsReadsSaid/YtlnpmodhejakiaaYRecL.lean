/- What both sides read of any bytes: one value. -/
import Derived.Test.YtlnpmodhejakiaaYRecB
import Derived.Test.YtlnpmodhejakiaaYRecU
import Derived.Test.YtlnpmodhejakiaaYRecX
namespace Go.Proofs.Ytlnpmodhejakiaa.RW
open Go.RowKit Go.Proofs.YtlnpmodhejakiaaW.PrintWords Go.Proofs.YtlnpmodhejakiaaW.PrintLast Go.Proofs.YtlnpmodhejakiaaW.PrintMore Go.Proofs.Ytlnpmodhejakiaa.Sha Go.Proofs.Ytlnpmodhejakiaa.D Go.Proofs.Ytlnpmodhejakiaa.PC Go.Proofs.Ytlnpmodhejakiaa.CP
set_option linter.unusedVariables false
set_option linter.unusedSimpArgs false
theorem bothB (b : List Int) (hb : okL b) (hl : b.length ≤ 10000) : ∃ (b0 : ByteArray) (b1 : Int) (b2 : Bool) (b3 : Bool) (b4 : Int) (b5 : Int) (b6 : ByteArray) (b7 : Int) (b8 : Int) (er : Int),
    (∀ (A : Option Addr) (c : Nat) (w : World), Kd.C (Kd.int .u8) w A b.length b → b.length ≤ c → Calls Try.prog 91 #[.slice A b.length c] w fun e w' => e = .returned (.tuple #[.agg #[.string b0, .int .i64 b1, .bool b2, .bool b3, .int .i64 b4, .int .i64 b5, .string b6, .int .i64 b7, .int .i64 b8], .int .i64 er]) ∧ Below w.heap.size w w') ∧
    (∀ (A : Option Addr) (c : Nat) (w : World), Kd.C (Kd.int .u8) w A b.length b → b.length ≤ c → Calls Try.prog 92 #[.slice A b.length c] w fun e w' => e = .returned (.tuple #[.agg #[.string b0, .int .i64 b1, .bool b2, .bool b3, .int .i64 b4, .int .i64 b5, .string b6, .int .i64 b7, .int .i64 b8], .int .i64 er]) ∧ Below w.heap.size w w') := by
  have k0 := hb
  obtain ⟨⟨v0, l1, q1⟩, e0⟩ : ∃ r, someS b false 115 = r := ⟨_, rfl⟩
  have k1 := t_ok e0 k0
  obtain ⟨⟨x0, m1, p1⟩, f0⟩ : ∃ r, someS b false 115 = r := ⟨_, rfl⟩
  have r0 := rel_t (Rel.start b false) e0 f0
  obtain ⟨⟨v1, l2, q2⟩, e1⟩ : ∃ r, uintS l1 q1 = r := ⟨_, rfl⟩
  have k2 := u_ok e1 k1
  have g1 := k2.2
  replace k2 := k2.1
  obtain ⟨⟨x1, m2, p2⟩, f1⟩ : ∃ r, smallS m1 p1 = r := ⟨_, rfl⟩
  have r1 := rel_s r0.1 e1 f1
  obtain ⟨⟨v2, l3, q3⟩, e2⟩ : ∃ r, boolS l2 q2 = r := ⟨_, rfl⟩
  have k3 := o_ok e2 k2
  obtain ⟨⟨x2, m3, p3⟩, f2⟩ : ∃ r, boolS m2 p2 = r := ⟨_, rfl⟩
  have r2 := rel_o r1.1 e2 f2
  obtain ⟨⟨v3, l4, q4⟩, e3⟩ : ∃ r, boolS l3 q3 = r := ⟨_, rfl⟩
  have k4 := o_ok e3 k3
  obtain ⟨⟨x3, m4, p4⟩, f3⟩ : ∃ r, boolS m3 p3 = r := ⟨_, rfl⟩
  have r3 := rel_o r2.1 e3 f3
  obtain ⟨⟨v4, l5, q5⟩, e4⟩ : ∃ r, uintS l4 q4 = r := ⟨_, rfl⟩
  have k5 := u_ok e4 k4
  have g4 := k5.2
  replace k5 := k5.1
  obtain ⟨⟨x4, m5, p5⟩, f4⟩ : ∃ r, smallS m4 p4 = r := ⟨_, rfl⟩
  have r4 := rel_s r3.1 e4 f4
  obtain ⟨⟨v5, l6, q6⟩, e5⟩ : ∃ r, uintS l5 q5 = r := ⟨_, rfl⟩
  have k6 := u_ok e5 k5
  have g5 := k6.2
  replace k6 := k6.1
  obtain ⟨⟨x5, m6, p6⟩, f5⟩ : ∃ r, smallS m5 p5 = r := ⟨_, rfl⟩
  have r5 := rel_s r4.1 e5 f5
  obtain ⟨⟨v6, l7, q7⟩, e6⟩ : ∃ r, someS l6 q6 115 = r := ⟨_, rfl⟩
  have k7 := t_ok e6 k6
  obtain ⟨⟨x6, m7, p7⟩, f6⟩ : ∃ r, someS m6 p6 115 = r := ⟨_, rfl⟩
  have r6 := rel_t r5.1 e6 f6
  obtain ⟨⟨v7, l8, q8⟩, e7⟩ : ∃ r, uintS l7 q7 = r := ⟨_, rfl⟩
  have k8 := u_ok e7 k7
  have g7 := k8.2
  replace k8 := k8.1
  obtain ⟨⟨x7, m8, p8⟩, f7⟩ : ∃ r, smallS m7 p7 = r := ⟨_, rfl⟩
  have r7 := rel_s r6.1 e7 f7
  obtain ⟨⟨v8, l9, q9⟩, e8⟩ : ∃ r, uintS l8 q8 = r := ⟨_, rfl⟩
  have k9 := u_ok e8 k8
  have g8 := k9.2
  replace k9 := k9.1
  obtain ⟨⟨x8, m9, p9⟩, f8⟩ : ∃ r, smallS m8 p8 = r := ⟨_, rfl⟩
  have r8 := rel_s r7.1 e8 f8
  have gg := rel_done r8.1
  obtain ⟨good, hg⟩ : ∃ g, (!(((((false || decide (2147483647 < v1)) || decide (2147483647 < v4)) || decide (2147483647 < v5)) || decide (2147483647 < v7)) || decide (2147483647 < v8)) && decide (doneS l9 q9 = 0)) = g := ⟨_, rfl⟩
  rw [hg] at gg
  cases good with
  | false =>
    refine ⟨⟨#[]⟩, 0, false, false, 0, 0, ⟨#[]⟩, 0, 0, 4, fun A c w hC hc => ?_, fun A c w hC hc => ?_⟩
    · have := readB A c b w hC hc (by omega) v0 v1 v2 v3 v4 v5 v6 v7 v8 l1 l2 l3 l4 l5 l6 l7 l8 l9 q1 q2 q3 q4 q5 q6 q7 q8 q9 e0 k0 e1 k1 e2 k2 e3 k3 e4 k4 e5 k5 e6 k6 e7 k7 e8 k8 g1 g4 g5 g7 g8 false hg.symm
      rw [if_neg (by decide)] at this
      exact this
    · have := xreadB A c b w hC hc hl hb x0 x1 x2 x3 x4 x5 x6 x7 x8 m1 m2 m3 m4 m5 m6 m7 m8 m9 p1 p2 p3 p4 p5 p6 p7 p8 p9 f0 f1 f2 f3 f4 f5 f6 f7 f8 false gg.symm
      rw [if_neg (by decide)] at this
      exact this
  | true =>
    have z := rel_big hg
    have z5 : (((((false || decide (2147483647 < v1)) || decide (2147483647 < v4)) || decide (2147483647 < v5)) || decide (2147483647 < v7)) || decide (2147483647 < v8)) = false := z
    have z4 := (Bool.or_eq_false_iff.1 z5).1
    have z3 := (Bool.or_eq_false_iff.1 z4).1
    have z2 := (Bool.or_eq_false_iff.1 z3).1
    have z1 := (Bool.or_eq_false_iff.1 z2).1
    have z0 := (Bool.or_eq_false_iff.1 z1).1
    have y_ := r0.2 z0
    subst x0
    have y_ := r1.2 z1
    subst x1
    have y_ := r2.2 z1
    subst x2
    have y_ := r3.2 z1
    subst x3
    have y_ := r4.2 z2
    subst x4
    have y_ := r5.2 z3
    subst x5
    have y_ := r6.2 z3
    subst x6
    have y_ := r7.2 z4
    subst x7
    have y_ := r8.2 z5
    subst x8
    refine ⟨strOfNums v0, mn v1 2147483647, v2, v3, mn v4 2147483647, mn v5 2147483647, strOfNums v6, mn v7 2147483647, mn v8 2147483647, 0, fun A c w hC hc => ?_, fun A c w hC hc => ?_⟩
    · have := readB A c b w hC hc (by omega) v0 v1 v2 v3 v4 v5 v6 v7 v8 l1 l2 l3 l4 l5 l6 l7 l8 l9 q1 q2 q3 q4 q5 q6 q7 q8 q9 e0 k0 e1 k1 e2 k2 e3 k3 e4 k4 e5 k5 e6 k6 e7 k7 e8 k8 g1 g4 g5 g7 g8 true hg.symm
      rw [if_pos rfl] at this
      exact this
    · have := xreadB A c b w hC hc hl hb (v0) (mn v1 2147483647) (v2) (v3) (mn v4 2147483647) (mn v5 2147483647) (v6) (mn v7 2147483647) (mn v8 2147483647) m1 m2 m3 m4 m5 m6 m7 m8 m9 p1 p2 p3 p4 p5 p6 p7 p8 p9 f0 f1 f2 f3 f4 f5 f6 f7 f8 true gg.symm
      rw [if_pos rfl] at this
      exact this
theorem bothV (b : List Int) (hb : okL b) (hl : b.length ≤ 10000) : ∃ (b0 : ByteArray) (b1 : ByteArray) (b2 : Int) (b3 : Int) (b4 : Bool) (b5 : Int) (b6 : Int) (b7 : Bool) (b8 : Int) (er : Int),
    (∀ (A : Option Addr) (c : Nat) (w : World), Kd.C (Kd.int .u8) w A b.length b → b.length ≤ c → Calls Try.prog 93 #[.slice A b.length c] w fun e w' => e = .returned (.tuple #[.agg #[.string b0, .string b1, .int .u64 b2, .int .u64 b3, .bool b4, .slice none 0 0, .int .i64 b5, .int .u64 b6, .bool b7, .int .u64 b8], .int .i64 er]) ∧ Below w.heap.size w w') ∧
    (∀ (A : Option Addr) (c : Nat) (w : World), Kd.C (Kd.int .u8) w A b.length b → b.length ≤ c → Calls Try.prog 94 #[.slice A b.length c] w fun e w' => e = .returned (.tuple #[.agg #[.string b0, .string b1, .int .u64 b2, .int .u64 b3, .bool b4, .slice none 0 0, .int .i64 b5, .int .u64 b6, .bool b7, .int .u64 b8], .int .i64 er]) ∧ Below w.heap.size w w') := by
  have k0 := hb
  obtain ⟨⟨v0, l1, q1⟩, e0⟩ : ∃ r, someS b false 115 = r := ⟨_, rfl⟩
  have k1 := t_ok e0 k0
  obtain ⟨⟨x0, m1, p1⟩, f0⟩ : ∃ r, someS b false 115 = r := ⟨_, rfl⟩
  have r0 := rel_t (Rel.start b false) e0 f0
  obtain ⟨⟨v1, l2, q2⟩, e1⟩ : ∃ r, someS l1 q1 115 = r := ⟨_, rfl⟩
  have k2 := t_ok e1 k1
  obtain ⟨⟨x1, m2, p2⟩, f1⟩ : ∃ r, someS m1 p1 115 = r := ⟨_, rfl⟩
  have r1 := rel_t r0.1 e1 f1
  obtain ⟨⟨v2, l3, q3⟩, e2⟩ : ∃ r, uintS l2 q2 = r := ⟨_, rfl⟩
  have k3 := u_ok e2 k2
  have g2 := k3.2
  replace k3 := k3.1
  obtain ⟨⟨x2, m3, p3⟩, f2⟩ : ∃ r, uintS m2 p2 = r := ⟨_, rfl⟩
  have r2 := rel_u r1.1 e2 f2
  obtain ⟨⟨v3, l4, q4⟩, e3⟩ : ∃ r, uintS l3 q3 = r := ⟨_, rfl⟩
  have k4 := u_ok e3 k3
  have g3 := k4.2
  replace k4 := k4.1
  obtain ⟨⟨x3, m4, p4⟩, f3⟩ : ∃ r, uintS m3 p3 = r := ⟨_, rfl⟩
  have r3 := rel_u r2.1 e3 f3
  obtain ⟨⟨v4, l5, q5⟩, e4⟩ : ∃ r, boolS l4 q4 = r := ⟨_, rfl⟩
  have k5 := o_ok e4 k4
  obtain ⟨⟨x4, m5, p5⟩, f4⟩ : ∃ r, boolS m4 p4 = r := ⟨_, rfl⟩
  have r4 := rel_o r3.1 e4 f4
  obtain ⟨⟨v5, l6, q6⟩, e5⟩ : ∃ r, uintS l5 q5 = r := ⟨_, rfl⟩
  have k6 := u_ok e5 k5
  have g5 := k6.2
  replace k6 := k6.1
  obtain ⟨⟨x5, m6, p6⟩, f5⟩ : ∃ r, smallS m5 p5 = r := ⟨_, rfl⟩
  have r5 := rel_s r4.1 e5 f5
  obtain ⟨⟨v6, l7, q7⟩, e6⟩ : ∃ r, uintS l6 q6 = r := ⟨_, rfl⟩
  have k7 := u_ok e6 k6
  have g6 := k7.2
  replace k7 := k7.1
  obtain ⟨⟨x6, m7, p7⟩, f6⟩ : ∃ r, uintS m6 p6 = r := ⟨_, rfl⟩
  have r6 := rel_u r5.1 e6 f6
  obtain ⟨⟨v7, l8, q8⟩, e7⟩ : ∃ r, boolS l7 q7 = r := ⟨_, rfl⟩
  have k8 := o_ok e7 k7
  obtain ⟨⟨x7, m8, p8⟩, f7⟩ : ∃ r, boolS m7 p7 = r := ⟨_, rfl⟩
  have r7 := rel_o r6.1 e7 f7
  obtain ⟨⟨v8, l9, q9⟩, e8⟩ : ∃ r, uintS l8 q8 = r := ⟨_, rfl⟩
  have k9 := u_ok e8 k8
  have g8 := k9.2
  replace k9 := k9.1
  obtain ⟨⟨x8, m9, p9⟩, f8⟩ : ∃ r, uintS m8 p8 = r := ⟨_, rfl⟩
  have r8 := rel_u r7.1 e8 f8
  have gg := rel_done r8.1
  obtain ⟨good, hg⟩ : ∃ g, (!(false || decide (2147483647 < v5)) && decide (doneS l9 q9 = 0)) = g := ⟨_, rfl⟩
  rw [hg] at gg
  cases good with
  | false =>
    refine ⟨⟨#[]⟩, ⟨#[]⟩, 0, 0, false, 0, 0, false, 0, 4, fun A c w hC hc => ?_, fun A c w hC hc => ?_⟩
    · have := readV A c b w hC hc (by omega) v0 v1 v2 v3 v4 v5 v6 v7 v8 l1 l2 l3 l4 l5 l6 l7 l8 l9 q1 q2 q3 q4 q5 q6 q7 q8 q9 e0 k0 e1 k1 e2 k2 e3 k3 e4 k4 e5 k5 e6 k6 e7 k7 e8 k8 g5 false hg.symm
      rw [if_neg (by decide)] at this
      exact this
    · have := xreadV A c b w hC hc hl hb x0 x1 x2 x3 x4 x5 x6 x7 x8 m1 m2 m3 m4 m5 m6 m7 m8 m9 p1 p2 p3 p4 p5 p6 p7 p8 p9 f0 f1 f2 f3 f4 f5 f6 f7 f8 false gg.symm
      rw [if_neg (by decide)] at this
      exact this
  | true =>
    have z := rel_big hg
    have z1 : (false || decide (2147483647 < v5)) = false := z
    have z0 := (Bool.or_eq_false_iff.1 z1).1
    have y_ := r0.2 z0
    subst x0
    have y_ := r1.2 z0
    subst x1
    have y_ := r2.2 z0
    subst x2
    have y_ := r3.2 z0
    subst x3
    have y_ := r4.2 z0
    subst x4
    have y_ := r5.2 z1
    subst x5
    have y_ := r6.2 z1
    subst x6
    have y_ := r7.2 z1
    subst x7
    have y_ := r8.2 z1
    subst x8
    refine ⟨strOfNums v0, strOfNums v1, v2, v3, v4, mn v5 2147483647, v6, v7, v8, 0, fun A c w hC hc => ?_, fun A c w hC hc => ?_⟩
    · have := readV A c b w hC hc (by omega) v0 v1 v2 v3 v4 v5 v6 v7 v8 l1 l2 l3 l4 l5 l6 l7 l8 l9 q1 q2 q3 q4 q5 q6 q7 q8 q9 e0 k0 e1 k1 e2 k2 e3 k3 e4 k4 e5 k5 e6 k6 e7 k7 e8 k8 g5 true hg.symm
      rw [if_pos rfl] at this
      exact this
    · have := xreadV A c b w hC hc hl hb (v0) (v1) (v2) (v3) (v4) (mn v5 2147483647) (v6) (v7) (v8) m1 m2 m3 m4 m5 m6 m7 m8 m9 p1 p2 p3 p4 p5 p6 p7 p8 p9 f0 f1 f2 f3 f4 f5 f6 f7 f8 true gg.symm
      rw [if_pos rfl] at this
      exact this
theorem bothU (b : List Int) (hb : okL b) (hl : b.length ≤ 10000) : ∃ (b0 : ByteArray) (b1 : ByteArray) (b2 : Int) (b3 : Int) (er : Int),
    (∀ (A : Option Addr) (c : Nat) (w : World), Kd.C (Kd.int .u8) w A b.length b → b.length ≤ c → Calls Try.prog 96 #[.slice A b.length c] w fun e w' => e = .returned (.tuple #[.agg #[.string b0, .string b1, .int .u64 b2, .int .u64 b3, .slice none 0 0], .int .i64 er]) ∧ Below w.heap.size w w') ∧
    (∀ (A : Option Addr) (c : Nat) (w : World), Kd.C (Kd.int .u8) w A b.length b → b.length ≤ c → Calls Try.prog 97 #[.slice A b.length c] w fun e w' => e = .returned (.tuple #[.agg #[.string b0, .string b1, .int .u64 b2, .int .u64 b3, .slice none 0 0], .int .i64 er]) ∧ Below w.heap.size w w') := by
  have k0 := hb
  obtain ⟨⟨v0, l1, q1⟩, e0⟩ : ∃ r, someS b false 115 = r := ⟨_, rfl⟩
  have k1 := t_ok e0 k0
  obtain ⟨⟨x0, m1, p1⟩, f0⟩ : ∃ r, someS b false 115 = r := ⟨_, rfl⟩
  have r0 := rel_t (Rel.start b false) e0 f0
  obtain ⟨⟨v1, l2, q2⟩, e1⟩ : ∃ r, someS l1 q1 115 = r := ⟨_, rfl⟩
  have k2 := t_ok e1 k1
  obtain ⟨⟨x1, m2, p2⟩, f1⟩ : ∃ r, someS m1 p1 115 = r := ⟨_, rfl⟩
  have r1 := rel_t r0.1 e1 f1
  obtain ⟨⟨v2, l3, q3⟩, e2⟩ : ∃ r, uintS l2 q2 = r := ⟨_, rfl⟩
  have k3 := u_ok e2 k2
  have g2 := k3.2
  replace k3 := k3.1
  obtain ⟨⟨x2, m3, p3⟩, f2⟩ : ∃ r, uintS m2 p2 = r := ⟨_, rfl⟩
  have r2 := rel_u r1.1 e2 f2
  obtain ⟨⟨v3, l4, q4⟩, e3⟩ : ∃ r, uintS l3 q3 = r := ⟨_, rfl⟩
  have k4 := u_ok e3 k3
  have g3 := k4.2
  replace k4 := k4.1
  obtain ⟨⟨x3, m4, p4⟩, f3⟩ : ∃ r, uintS m3 p3 = r := ⟨_, rfl⟩
  have r3 := rel_u r2.1 e3 f3
  have gg := rel_done r3.1
  obtain ⟨good, hg⟩ : ∃ g, (!false && decide (doneS l4 q4 = 0)) = g := ⟨_, rfl⟩
  rw [hg] at gg
  cases good with
  | false =>
    refine ⟨⟨#[]⟩, ⟨#[]⟩, 0, 0, 4, fun A c w hC hc => ?_, fun A c w hC hc => ?_⟩
    · have := readU A c b w hC hc (by omega) v0 v1 v2 v3 l1 l2 l3 l4 q1 q2 q3 q4 e0 k0 e1 k1 e2 k2 e3 k3 false hg.symm
      rw [if_neg (by decide)] at this
      exact this
    · have := xreadU A c b w hC hc hl hb x0 x1 x2 x3 m1 m2 m3 m4 p1 p2 p3 p4 f0 f1 f2 f3 false gg.symm
      rw [if_neg (by decide)] at this
      exact this
  | true =>
    have z := rel_big hg
    have z0 : false = false := z
    have y_ := r0.2 z0
    subst x0
    have y_ := r1.2 z0
    subst x1
    have y_ := r2.2 z0
    subst x2
    have y_ := r3.2 z0
    subst x3
    refine ⟨strOfNums v0, strOfNums v1, v2, v3, 0, fun A c w hC hc => ?_, fun A c w hC hc => ?_⟩
    · have := readU A c b w hC hc (by omega) v0 v1 v2 v3 l1 l2 l3 l4 q1 q2 q3 q4 e0 k0 e1 k1 e2 k2 e3 k3 true hg.symm
      rw [if_pos rfl] at this
      exact this
    · have := xreadU A c b w hC hc hl hb (v0) (v1) (v2) (v3) m1 m2 m3 m4 p1 p2 p3 p4 f0 f1 f2 f3 true gg.symm
      rw [if_pos rfl] at this
      exact this
theorem bothC (b : List Int) (hb : okL b) (hl : b.length ≤ 10000) : ∃ (b0 : Int) (b1 : Int) (er : Int),
    (∀ (A : Option Addr) (c : Nat) (w : World), Kd.C (Kd.int .u8) w A b.length b → b.length ≤ c → Calls Try.prog 98 #[.slice A b.length c] w fun e w' => e = .returned (.tuple #[.int .u64 b0, .int .u64 b1, .int .i64 er]) ∧ Below w.heap.size w w') ∧
    (∀ (A : Option Addr) (c : Nat) (w : World), Kd.C (Kd.int .u8) w A b.length b → b.length ≤ c → Calls Try.prog 99 #[.slice A b.length c] w fun e w' => e = .returned (.tuple #[.int .u64 b0, .int .u64 b1, .int .i64 er]) ∧ Below w.heap.size w w') := by
  have k0 := hb
  obtain ⟨⟨v0, l1, q1⟩, e0⟩ : ∃ r, uintS b false = r := ⟨_, rfl⟩
  have k1 := u_ok e0 k0
  have g0 := k1.2
  replace k1 := k1.1
  obtain ⟨⟨x0, m1, p1⟩, f0⟩ : ∃ r, uintS b false = r := ⟨_, rfl⟩
  have r0 := rel_u (Rel.start b false) e0 f0
  obtain ⟨⟨v1, l2, q2⟩, e1⟩ : ∃ r, uintS l1 q1 = r := ⟨_, rfl⟩
  have k2 := u_ok e1 k1
  have g1 := k2.2
  replace k2 := k2.1
  obtain ⟨⟨x1, m2, p2⟩, f1⟩ : ∃ r, uintS m1 p1 = r := ⟨_, rfl⟩
  have r1 := rel_u r0.1 e1 f1
  have gg := rel_done r1.1
  obtain ⟨good, hg⟩ : ∃ g, (!false && decide (doneS l2 q2 = 0)) = g := ⟨_, rfl⟩
  rw [hg] at gg
  cases good with
  | false =>
    refine ⟨0, 0, 4, fun A c w hC hc => ?_, fun A c w hC hc => ?_⟩
    · have := readC A c b w hC hc (by omega) v0 v1 l1 l2 q1 q2 e0 k0 e1 k1 false hg.symm
      rw [if_neg (by decide)] at this
      exact this
    · have := xreadC A c b w hC hc hl hb x0 x1 m1 m2 p1 p2 f0 f1 false gg.symm
      rw [if_neg (by decide)] at this
      exact this
  | true =>
    have z := rel_big hg
    have z0 : false = false := z
    have y_ := r0.2 z0
    subst x0
    have y_ := r1.2 z0
    subst x1
    refine ⟨v0, v1, 0, fun A c w hC hc => ?_, fun A c w hC hc => ?_⟩
    · have := readC A c b w hC hc (by omega) v0 v1 l1 l2 q1 q2 e0 k0 e1 k1 true hg.symm
      rw [if_pos rfl] at this
      exact this
    · have := xreadC A c b w hC hc hl hb (v0) (v1) m1 m2 p1 p2 f0 f1 true gg.symm
      rw [if_pos rfl] at this
      exact this
end Go.Proofs.Ytlnpmodhejakiaa.RW
