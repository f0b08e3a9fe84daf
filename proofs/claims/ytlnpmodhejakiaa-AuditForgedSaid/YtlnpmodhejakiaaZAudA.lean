/- steleref14.Right. -/
import Derived.Test.YtlnpmodhejakiaaZPAx0
namespace Go.Proofs.Ytlnpmodhejakiaa.AV
open Go.RowKit Go.Proofs.YtlnpmodhejakiaaW.PrintWords Go.Proofs.YtlnpmodhejakiaaW.PrintLast Go.Proofs.YtlnpmodhejakiaaW.PrintMore
set_option linter.unusedVariables false
set_option linter.unusedSimpArgs false
set_option maxHeartbeats 16000000 in
set_option maxRecDepth 100000 in
theorem right_any (x0 x1 : Int) (s2 : ByteArray) (x3 : Int) (s4 s5 : ByteArray) (x6 x7 : Int) (A8 : Option Addr) (n8 c8 : Nat) (A9 : Option Addr) (n9 c9 : Nat) (w : World) (q8 q9 b1 b2 b3 b4 b5 b6 b7 : Bool)
    (h8 : (((n8 : Int) == 0) || ((n8 : Int) == 32)) = q8) (h9 : ((((n9 : Int) == 32) && decide (1 < x0)) || (((n9 : Int) == 0) && (x0 == 1))) = q9)
    (h1 : decide (0 ≤ x3) = b1) (h2 : decide (x3 ≤ 19) = b2) (h3 : decide (0 ≤ x7) = b3) (h4 : decide (x7 ≤ 9999) = b4)
    (h5 : decide ((s2.size : Int) ≤ 16) = b5) (h6 : decide ((s4.size : Int) ≤ 16) = b6) (h7 : decide ((s5.size : Int) ≤ 48) = b7) :
    Calls Try.prog 80 #[.agg #[.int .u64 x0, .int .u64 x1, .string s2, .int .i64 x3, .string s4, .string s5, .int .u64 x6, .int .i64 x7, .slice A8 n8 c8, .slice A9 n9 c9]] w fun e w' => e = .returned (.bool (b1 && b2 && b3 && b4 && b5 && b6 && b7 && q8 && q9)) ∧ Below w.heap.size w w' := by
  have hu69 := Try.underlying69
  have HB := Aside0.mk (Below.refl w.heap.size w)
  have H1 := Aside0.mk h1
  have H2 := Aside0.mk h2
  have H3 := Aside0.mk h3
  have H4 := Aside0.mk h4
  have H5 := Aside0.mk h5
  have H6 := Aside0.mk h6
  have H7 := Aside0.mk h7
  have H8 := Aside0.mk h8
  have H9 := Aside0.mk h9
  clear h1 h2 h3 h4 h5 h6 h7 h8 h9
  go_enter Try.func80, Try.ntmps80
  go_upto_region 1 with (first | ((with_reducible refine gate_dst (N := 1) rfl ?_); refine box_event ?hg (N := 1) ?hd (cs := #[.int .u64 x0, .int .u64 x1, .string s2, .int .i64 x3, .string s4, .string s5, .int .u64 x6, .int .i64 x7, .slice A8 n8 c8, .slice A9 n9 c9]) (t := 69) ?hr ?_; (case hd => rfl); (case hg => rfl); (case hr => first | (go_simp; done) | (go_simp; rfl)); intro gb hg w3 hbox hb; have n0_ := Aside0.mk (below_step HB.out hb); have n1_ := Aside0.mk hbox; clear HB; have HB := n0_; have BK := n1_; clear n0_ n1_ hb hbox hg))
  (try simp only [Act.put, List.setIfInBounds_toArray, List.set_cons_zero, List.set_cons_succ])
  go_cut [3] (fun v3 wc => v3 = .bool q8 ∧ Aside0 (wc.heap[gb]? = some (.cells #[.int .u64 x0, .int .u64 x1, .string s2, .int .i64 x3, .string s4, .string s5, .int .u64 x6, .int .i64 x7, .slice A8 n8 c8, .slice A9 n9 c9] 69 (0, 0))) ∧ Aside0 (Below w.heap.size w wc))
  case first =>
    have hc0 : w3.cell? ⟨gb, 0, none⟩ = some (.int .u64 x0) := (blk_cell BK.out 0).trans rfl
    have hc1 : w3.cell? ⟨gb, 1, none⟩ = some (.int .u64 x1) := (blk_cell BK.out 1).trans rfl
    have hc2 : w3.cell? ⟨gb, 2, none⟩ = some (.string s2) := (blk_cell BK.out 2).trans rfl
    have hc3 : w3.cell? ⟨gb, 3, none⟩ = some (.int .i64 x3) := (blk_cell BK.out 3).trans rfl
    have hc4 : w3.cell? ⟨gb, 4, none⟩ = some (.string s4) := (blk_cell BK.out 4).trans rfl
    have hc5 : w3.cell? ⟨gb, 5, none⟩ = some (.string s5) := (blk_cell BK.out 5).trans rfl
    have hc6 : w3.cell? ⟨gb, 6, none⟩ = some (.int .u64 x6) := (blk_cell BK.out 6).trans rfl
    have hc7 : w3.cell? ⟨gb, 7, none⟩ = some (.int .i64 x7) := (blk_cell BK.out 7).trans rfl
    have hc8 : w3.cell? ⟨gb, 8, none⟩ = some (.slice A8 n8 c8) := (blk_cell BK.out 8).trans rfl
    have hc9 : w3.cell? ⟨gb, 9, none⟩ = some (.slice A9 n9 c9) := (blk_cell BK.out 9).trans rfl
    have hf0 := blk_frozen BK.out 0
    have hf1 := blk_frozen BK.out 1
    have hf2 := blk_frozen BK.out 2
    have hf3 := blk_frozen BK.out 3
    have hf4 := blk_frozen BK.out 4
    have hf5 := blk_frozen BK.out 5
    have hf6 := blk_frozen BK.out 6
    have hf7 := blk_frozen BK.out 7
    have hf8 := blk_frozen BK.out 8
    have hf9 := blk_frozen BK.out 9
    by_cases k0 : n8 = 0
    · have e0 : ((n8 : Int) == 0) = true := by rw [k0]; rfl
      have e0n : (n8 == 0) = true := by rw [k0]; rfl
      clear k0
      go_wp2
      go_meet
      case rel => exact ⟨by rw [← H8.out, e0]; rfl, BK, HB⟩
    · have e0 : ((n8 : Int) == 0) = false := by rw [beq_eq_false_iff_ne]; omega
      have e0n : (n8 == 0) = false := by rw [beq_eq_false_iff_ne]; omega
      clear k0
      cases e1 : ((n8 : Int) == 32) with
      | true =>
        go_wp2
        go_meet
        case rel => exact ⟨by rw [← H8.out, e0, e1]; rfl, BK, HB⟩
      | false =>
        go_wp2
        go_meet
        case rel => exact ⟨by rw [← H8.out, e0, e1]; rfl, BK, HB⟩
  case rest =>
    obtain ⟨rfl, BK, HB⟩ := hcut
    go_upto_region 2 with (fail)
    go_cut [4] (fun v4 wc => v4 = .bool q9 ∧ Aside0 (wc.heap[gb]? = some (.cells #[.int .u64 x0, .int .u64 x1, .string s2, .int .i64 x3, .string s4, .string s5, .int .u64 x6, .int .i64 x7, .slice A8 n8 c8, .slice A9 n9 c9] 69 (0, 0))) ∧ Aside0 (Below w.heap.size w wc))
    case first =>
      have hc0 : wc.cell? ⟨gb, 0, none⟩ = some (.int .u64 x0) := (blk_cell BK.out 0).trans rfl
      have hc1 : wc.cell? ⟨gb, 1, none⟩ = some (.int .u64 x1) := (blk_cell BK.out 1).trans rfl
      have hc2 : wc.cell? ⟨gb, 2, none⟩ = some (.string s2) := (blk_cell BK.out 2).trans rfl
      have hc3 : wc.cell? ⟨gb, 3, none⟩ = some (.int .i64 x3) := (blk_cell BK.out 3).trans rfl
      have hc4 : wc.cell? ⟨gb, 4, none⟩ = some (.string s4) := (blk_cell BK.out 4).trans rfl
      have hc5 : wc.cell? ⟨gb, 5, none⟩ = some (.string s5) := (blk_cell BK.out 5).trans rfl
      have hc6 : wc.cell? ⟨gb, 6, none⟩ = some (.int .u64 x6) := (blk_cell BK.out 6).trans rfl
      have hc7 : wc.cell? ⟨gb, 7, none⟩ = some (.int .i64 x7) := (blk_cell BK.out 7).trans rfl
      have hc8 : wc.cell? ⟨gb, 8, none⟩ = some (.slice A8 n8 c8) := (blk_cell BK.out 8).trans rfl
      have hc9 : wc.cell? ⟨gb, 9, none⟩ = some (.slice A9 n9 c9) := (blk_cell BK.out 9).trans rfl
      have hf0 := blk_frozen BK.out 0
      have hf1 := blk_frozen BK.out 1
      have hf2 := blk_frozen BK.out 2
      have hf3 := blk_frozen BK.out 3
      have hf4 := blk_frozen BK.out 4
      have hf5 := blk_frozen BK.out 5
      have hf6 := blk_frozen BK.out 6
      have hf7 := blk_frozen BK.out 7
      have hf8 := blk_frozen BK.out 8
      have hf9 := blk_frozen BK.out 9
      cases e0 : ((n9 : Int) == 32) with
      | true =>
        have z0 : ((n9 : Int) == 0) = false := by rw [beq_iff_eq] at e0; rw [beq_eq_false_iff_ne]; omega
        cases e1 : decide (1 < x0) with
        | true =>
          go_wp2
          go_meet
          case rel => exact ⟨by rw [← H9.out, e0, e1]; rfl, BK, HB⟩
        | false =>
          go_wp2
          go_meet
          case rel => exact ⟨by rw [← H9.out, e0, e1, z0]; rfl, BK, HB⟩
      | false =>
        by_cases k0 : n9 = 0
        · have z0 : ((n9 : Int) == 0) = true := by rw [k0]; rfl
          have z0n : (n9 == 0) = true := by rw [k0]; rfl
          clear k0
          cases e1 : (x0 == 1) with
          | true =>
            go_wp2
            go_meet
            case rel => exact ⟨by rw [← H9.out, e0, e1, z0]; rfl, BK, HB⟩
          | false =>
            go_wp2
            go_meet
            case rel => exact ⟨by rw [← H9.out, e0, e1, z0]; rfl, BK, HB⟩
        · have z0 : ((n9 : Int) == 0) = false := by rw [beq_eq_false_iff_ne]; omega
          have z0n : (n9 == 0) = false := by rw [beq_eq_false_iff_ne]; omega
          clear k0
          go_wp2
          go_meet
          case rel => exact ⟨by rw [← H9.out, e0, z0]; rfl, BK, HB⟩
    case rest =>
      obtain ⟨rfl, BK, HB⟩ := hcut
      have hc0 : wc.cell? ⟨gb, 0, none⟩ = some (.int .u64 x0) := (blk_cell BK.out 0).trans rfl
      have hc1 : wc.cell? ⟨gb, 1, none⟩ = some (.int .u64 x1) := (blk_cell BK.out 1).trans rfl
      have hc2 : wc.cell? ⟨gb, 2, none⟩ = some (.string s2) := (blk_cell BK.out 2).trans rfl
      have hc3 : wc.cell? ⟨gb, 3, none⟩ = some (.int .i64 x3) := (blk_cell BK.out 3).trans rfl
      have hc4 : wc.cell? ⟨gb, 4, none⟩ = some (.string s4) := (blk_cell BK.out 4).trans rfl
      have hc5 : wc.cell? ⟨gb, 5, none⟩ = some (.string s5) := (blk_cell BK.out 5).trans rfl
      have hc6 : wc.cell? ⟨gb, 6, none⟩ = some (.int .u64 x6) := (blk_cell BK.out 6).trans rfl
      have hc7 : wc.cell? ⟨gb, 7, none⟩ = some (.int .i64 x7) := (blk_cell BK.out 7).trans rfl
      have hc8 : wc.cell? ⟨gb, 8, none⟩ = some (.slice A8 n8 c8) := (blk_cell BK.out 8).trans rfl
      have hc9 : wc.cell? ⟨gb, 9, none⟩ = some (.slice A9 n9 c9) := (blk_cell BK.out 9).trans rfl
      have hf0 := blk_frozen BK.out 0
      have hf1 := blk_frozen BK.out 1
      have hf2 := blk_frozen BK.out 2
      have hf3 := blk_frozen BK.out 3
      have hf4 := blk_frozen BK.out 4
      have hf5 := blk_frozen BK.out 5
      have hf6 := blk_frozen BK.out 6
      have hf7 := blk_frozen BK.out 7
      have hf8 := blk_frozen BK.out 8
      have hf9 := blk_frozen BK.out 9
      cases b1 with
      | false =>
        have g1 := H1.out
        go_wp2
        go_ret
        exact ⟨rfl, HB.out⟩
      | true =>
        have g1 := H1.out
        cases b2 with
        | false =>
          have g2 := H2.out
          go_wp2
          go_ret
          exact ⟨rfl, HB.out⟩
        | true =>
          have g2 := H2.out
          cases b3 with
          | false =>
            have g3 := H3.out
            go_wp2
            go_ret
            exact ⟨rfl, HB.out⟩
          | true =>
            have g3 := H3.out
            cases b4 with
            | false =>
              have g4 := H4.out
              go_wp2
              go_ret
              exact ⟨rfl, HB.out⟩
            | true =>
              have g4 := H4.out
              cases b5 with
              | false =>
                have g5 := H5.out
                have g5n : decide (s2.size ≤ 16) = false := by rw [← g5]; exact decide_eq_decide.2 (by omega)
                go_wp2
                go_ret
                exact ⟨rfl, HB.out⟩
              | true =>
                have g5 := H5.out
                have g5n : decide (s2.size ≤ 16) = true := by rw [← g5]; exact decide_eq_decide.2 (by omega)
                cases b6 with
                | false =>
                  have g6 := H6.out
                  have g6n : decide (s4.size ≤ 16) = false := by rw [← g6]; exact decide_eq_decide.2 (by omega)
                  go_wp2
                  go_ret
                  exact ⟨rfl, HB.out⟩
                | true =>
                  have g6 := H6.out
                  have g6n : decide (s4.size ≤ 16) = true := by rw [← g6]; exact decide_eq_decide.2 (by omega)
                  cases b7 with
                  | false =>
                    have g7 := H7.out
                    have g7n : decide (s5.size ≤ 48) = false := by rw [← g7]; exact decide_eq_decide.2 (by omega)
                    go_wp2
                    go_ret
                    exact ⟨rfl, HB.out⟩
                  | true =>
                    have g7 := H7.out
                    have g7n : decide (s5.size ≤ 48) = true := by rw [← g7]; exact decide_eq_decide.2 (by omega)
                    cases q8 with
                    | false =>
                      go_wp2
                      go_ret
                      exact ⟨rfl, HB.out⟩
                    | true =>
                      cases q9 with
                      | false =>
                        go_wp2
                        go_ret
                        exact ⟨rfl, HB.out⟩
                      | true =>
                        go_wp2
                        go_ret
                        exact ⟨rfl, HB.out⟩
def rrightF (a0_0 : Int) (a0_1 : Int) (a0_2 : ByteArray) (a0_3 : Int) (a0_4 : ByteArray) (a0_5 : ByteArray) (a0_6 : Int) (a0_7 : Int) (l0_8 : List Int) (l0_9 : List Int) : Bool := decide (0 ≤ a0_3) && decide (a0_3 ≤ 19) && decide (0 ≤ a0_7) && decide (a0_7 ≤ 9999) && decide ((a0_2.size : Int) ≤ 16) && decide ((a0_4.size : Int) ≤ 16) && decide ((a0_5.size : Int) ≤ 48) && (((l0_8.length : Int) == 0) || ((l0_8.length : Int) == 32)) && (((l0_9.length : Int) == 32) && decide (1 < a0_0) || ((l0_9.length : Int) == 0) && (a0_0 == 1))
def steleref14_Right.f (a0_0 : Int) (a0_1 : Int) (a0_2 : ByteArray) (a0_3 : Int) (a0_4 : ByteArray) (a0_5 : ByteArray) (a0_6 : Int) (a0_7 : Int) (l0_8 : List Int) (l0_9 : List Int) : Option (Bool) := some (rrightF a0_0 a0_1 a0_2 a0_3 a0_4 a0_5 a0_6 a0_7 l0_8 l0_9)
theorem steleref14_Right.calls (a0_0 : Int) (a0_1 : Int) (a0_2 : ByteArray) (a0_3 : Int) (a0_4 : ByteArray) (a0_5 : ByteArray) (a0_6 : Int) (a0_7 : Int) (A0_8 : Option Addr) (c0_8 : Nat) (l0_8 : List Int) (A0_9 : Option Addr) (c0_9 : Nat) (l0_9 : List Int) (r : Bool) (w : World) (hr0_8 : Kd.C (Kd.int .u8) w A0_8 l0_8.length l0_8) (hc0_8 : l0_8.length ≤ c0_8) (hr0_9 : Kd.C (Kd.int .u8) w A0_9 l0_9.length l0_9) (hc0_9 : l0_9.length ≤ c0_9) (h : steleref14_Right.f a0_0 a0_1 a0_2 a0_3 a0_4 a0_5 a0_6 a0_7 l0_8 l0_9 = some r) :
    Calls Try.prog 80 #[.agg #[.int .u64 a0_0, .int .u64 a0_1, .string a0_2, .int .i64 a0_3, .string a0_4, .string a0_5, .int .u64 a0_6, .int .i64 a0_7, .slice A0_8 l0_8.length c0_8, .slice A0_9 l0_9.length c0_9]] w fun e w' => e = .returned (.bool r) ∧ Below w.heap.size w w' := by
  obtain rfl := Option.some.inj h
  exact right_any a0_0 a0_1 a0_2 a0_3 a0_4 a0_5 a0_6 a0_7 A0_8 l0_8.length c0_8 A0_9 l0_9.length c0_9 w _ _ _ _ _ _ _ _ _ rfl rfl rfl rfl rfl rfl rfl rfl rfl
end Go.Proofs.Ytlnpmodhejakiaa.AV
