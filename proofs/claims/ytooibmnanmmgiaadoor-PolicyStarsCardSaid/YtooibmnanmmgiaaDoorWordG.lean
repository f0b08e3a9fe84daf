/- policy.word and policy.words at good words: true. -/
import Derived.Test.YtooibmnanmmgiaaDoorPAx0
import Derived.Test.YtooibmnanmmgiaaDoorShelf
import Derived.Laws.RangeString
import Derived.Laws.RangeAny
namespace Go.Proofs.YtooibmnanmmgiaaDoor.SQ
open Go.RowKit Go.Proofs.YtooibmnanmmgiaaDoorW.PrintWords Go.Proofs.YtooibmnanmmgiaaDoorW.PrintLast Go.Proofs.YtooibmnanmmgiaaDoorW.PrintMore
set_option linter.unusedVariables false
set_option linter.unusedSimpArgs false
theorem addr_add (g o k : Nat) : (⟨g, o, none⟩ : Addr).add k = ⟨g, o + k, none⟩ := by unfold Addr.add; split <;> simp_all
/-- a word of a rule -/
structure GoodW (s : ByteArray) : Prop where
  some_ : 0 < s.size
  few : s.size ≤ 64
  ok : ∀ (i : Nat) (h : i < s.size), 33 ≤ (s[i]'h).toNat ∧ (s[i]'h).toNat ≤ 126 ∧ (s[i]'h).toNat ≠ 59
set_option maxHeartbeats 2000000 in
set_option maxRecDepth 100000 in
theorem word_ok (s : ByteArray) (hs : GoodW s) (w : World) : Calls Tryd.prog 41 #[.string s] w fun e w' => e = .returned (.bool true) ∧ Below w.heap.size w w' := by
  have HS := Aside0.mk hs
  clear hs
  go_enter Tryd.func41, Tryd.ntmps41
  go_wp2
  go_loopw [4] (fun v4 w' => ∃ pos : Nat, w' = w.iter s pos ∧ pos ≤ s.size) (fun _ w' => s.size - w'.iterPos w.heap.size)
  case atStart => exact ⟨0, rfl, Nat.zero_le _⟩
  case round =>
    obtain ⟨pos, rfl, hle⟩ := hrel
    by_cases hp : pos < s.size
    · have hk := HS.out.ok pos hp
      obtain ⟨x, hx⟩ : ∃ x, (s[pos]'hp).toNat = x := ⟨_, rfl⟩
      have hnx : ∀ ty, (Instr.next (.pointer (some ⟨w.heap.size, 0, none⟩)) true ty).run Tryd.prog (w.iter s pos) = _ := fun ty => run_next_ascii w s pos ty hp (by omega)
      rw [hx] at hnx hk
      have t1 : decide ((x : Int) < 33) = false := decide_eq_false (by omega)
      have t2 : decide (126 < (x : Int)) = false := decide_eq_false (by omega)
      have t3 : ((x : Int) == 59) = false := beq_eq_false_iff_ne.2 (by omega)
      have HM := Aside0.mk (show s.size - (pos + 1) < s.size - pos from by omega)
      have HL := Aside0.mk (show pos + 1 ≤ s.size from hp)
      clear hk hle hp hx
      go_wp2
      go_roundw
      case rel => exact ⟨pos + 1, rfl, HL.out⟩
      case measure =>
        rw [World.iterPos_iter, World.iterPos_iter]
        exact HM.out
    · have hnx : ∀ ty, (Instr.next (.pointer (some ⟨w.heap.size, 0, none⟩)) true ty).run Tryd.prog (w.iter s pos) = _ := fun ty => run_next_end w s pos ty hp
      have h0 := HS.out.some_
      have h6 := HS.out.few
      have s0 : s.toList.isEmpty = false := by
        rw [Lib.toList_data, List.isEmpty_eq_false_iff]
        intro e
        have := congrArg List.length e
        rw [← Lib.size_eq, List.length_nil] at this
        omega
      have s1 : (s.toList = []) = False := eq_false (fun e => by rw [e] at s0; cases s0)
      have t4 : decide ((s.size : Int) ≤ 64) = true := decide_eq_true (by omega)
      have t5 : decide (s.size ≤ 64) = true := decide_eq_true h6
      clear h0 h6 hle hp
      go_wp2
      go_ret
      exact ⟨rfl, below_alloc (Below.refl w.heap.size w) _⟩
theorem wd_wrap (k n : Nat) (h : (k : Int) < (n : Int)) (hn : n ≤ 1000) : Value.int .i64 (wrap64 ((k : Int) + 1)) = .int .i64 ((k + 1 : Nat) : Int) := by
  rw [show wrap64 ((k : Int) + 1) = ((k + 1 : Nat) : Int) from by unfold wrap64; omega]
theorem wd_meas (k n : Nat) (h : (k : Int) < (n : Int)) (hn : n ≤ 1000) : n - (intOf (.int .i64 (wrap64 ((k : Int) + 1)))).toNat < n - (intOf (.int .i64 (k : Int))).toNat := by
  rw [wd_wrap k n h hn]
  show n - (((k + 1 : Nat) : Int)).toNat < n - ((k : Int)).toNat
  rw [Int.toNat_natCast, Int.toNat_natCast]
  omega
set_option maxHeartbeats 2000000 in
set_option maxRecDepth 100000 in
theorem words_ok (g c : Nat) (a0 : ByteArray) (l : List ByteArray) (hg : ∀ x ∈ l, GoodW x) (hn : l.length ≤ 1000) (w : World) (hh : w.heap[g]? = some (.cells ((a0 :: l).map Value.string).toArray 9 (0, 0))) :
    Calls Tryd.prog 27 #[.slice (some ⟨g, 1, none⟩) l.length c] w fun e w' => e = .returned (.bool true) ∧ Below w.heap.size w w' := by
  have HG := Aside0.mk hg
  have HH := Aside0.mk hh
  have HN := Aside0.mk hn
  clear hg hh hn
  go_enter Tryd.func27, Tryd.ntmps27
  go_wp2
  go_loopw [7] (fun v7 wr => ∃ k : Nat, v7 = .int .i64 (k : Int) ∧ k ≤ l.length ∧ Aside0 (Below w.heap.size w wr)) (fun v _ => l.length - (intOf v).toNat)
  case atStart => exact ⟨0, rfl, Nat.zero_le _, ⟨Below.refl _ _⟩⟩
  case round =>
    obtain ⟨k, rfl, hk, HB⟩ := hrel
    by_cases hlt : k < l.length
    · have d0 : decide ((k : Int) < (l.length : Int)) = true := decide_eq_true (by omega)
      have d1 : decide (k < l.length) = true := decide_eq_true hlt
      have p1 : (k : Int) < (l.length : Int) := by omega
      obtain ⟨x, hx⟩ : ∃ x, l[k]? = some x := ⟨l[k], List.getElem?_eq_getElem hlt⟩
      have HX := Aside0.mk (HG.out x (List.mem_of_getElem? hx))
      have hb : wr.heap[g]? = some (.cells ((a0 :: l).map Value.string).toArray 9 (0, 0)) := blk_below HH.out HB.out
      have hc1 : wr.cell? ⟨g, 1 + k, none⟩ = some (.string x) := (blk_cell hb (1 + k)).trans (by simp [hx, Nat.add_comm 1 k])
      have hc2 : wr.cell? ((⟨g, 1, none⟩ : Addr).add k) = some (.string x) := by rw [addr_add]; exact hc1
      clear hb hx hlt hk
      go_wp2_with (go_at_call 41; (with_reducible refine (word_ok x HX.out wr).mono ?_); rintro e w1 ⟨rfl, hb⟩; have HB1 := Aside0.mk (below_step HB.out hb); clear hb)
      go_roundw
      case measure => exact wd_meas k l.length p1 HN.out
      case rel => exact ⟨k + 1, wd_wrap k l.length p1 HN.out, Int.ofNat_lt.1 p1, HB1⟩
    · have d0 : decide ((k : Int) < (l.length : Int)) = false := decide_eq_false (by omega)
      have d1 : decide (k < l.length) = false := decide_eq_false hlt
      clear hk
      go_wp2
      go_ret
      exact ⟨rfl, HB.out⟩
end Go.Proofs.YtooibmnanmmgiaaDoor.SQ
