/- digest.Hash: New, Add, Sum, Len. -/
import Derived.Test.YtlnpmodhejakiaaDigJ
namespace Go.Proofs.Ytlnpmodhejakiaa.D
open Go.RowKit Go.Proofs.YtlnpmodhejakiaaW.PrintWords Go.Proofs.YtlnpmodhejakiaaW.PrintLast Go.Proofs.YtlnpmodhejakiaaW.PrintMore Go.Proofs.Ytlnpmodhejakiaa.PA Go.Proofs.Ytlnpmodhejakiaa.Sha
set_option linter.unusedVariables false
set_option linter.unusedSimpArgs false

theorem infoH : (Try.prog.info? 148).map (·.size) = some 74 := by kernel_rfl
/-- a Hash in memory -/
def IsH (g : Nat) (w : World) (s : HS) : Prop := w.heap[g]? = some (.cells (stC 179 s) 148 (0, 0))
set_option maxHeartbeats 4000000 in
set_option maxRecDepth 100000 in
theorem hash_new (w : World) : Calls Try.prog 34 #[] w fun e w' => ∃ g : Nat, e = .returned (.pointer (some ⟨g, 0, none⟩)) ∧ w.heap.size ≤ g ∧ IsH g w' start256 ∧ Below w.heap.size w w' := by
  go_enter Try.func34, Try.ntmps34
  go_wp2_with (first
    | (go_at_call 125; refine (start256_any _).mono ?_; rintro e w1 ⟨rfl, hb1⟩; have HB := Aside0.mk hb1; clear hb1)
    | ((with_reducible refine gate_dst (N := 2) rfl ?_); refine Kd.event_run (v := .agg (stC 179 start256)) (w1 := _) rfl ?hr ?_; (case hr => first | (go_simp; done) | (go_simp; rfl)))
    | ((with_reducible refine gate_dst (N := 3) rfl ?_); refine box_event ?hg (N := 3) ?hd (cs := stC 179 start256) (t := 148) ?hr ?_; (case hd => rfl); (case hg => rfl); (case hr => first | (go_simp; done) | (go_simp; rfl)); intro g0 hg0 w2 hbox hBl; have HB2 := Aside0.mk (below_step HB.out hBl); have K0 := Aside0.mk hbox; have G0 := Aside0.mk (show w.heap.size ≤ g0 by have := HB.out.size; omega); clear hg0 hbox hBl))
  go_ret
  exact ⟨g0, rfl, G0.out, K0.out, HB2.out⟩
set_option maxHeartbeats 4000000 in
set_option maxRecDepth 100000 in
theorem hash_add (g : Nat) (s : HS) (hs : okS s) (A : Option Addr) (c : Nat) (l : List Int) (w : World) (hr0 : Kd.C (Kd.int .u8) w A l.length l) (hc0 : l.length ≤ c) (hA : 0 < l.length → ∀ ad, A = some ad → ad.block ≠ g) (hl : ∀ x ∈ l, 0 ≤ x ∧ x ≤ 255) (hn : s.n + l.length ≤ 4611686018427387904) (hg : IsH g w s) :
    Calls Try.prog 35 #[.pointer (some ⟨g, 0, none⟩), .slice A l.length c] w fun e w' => e = .returned (.tuple #[]) ∧ IsH g w' (add comp256 s l) ∧ Wr w.heap.size g w w' := by
  have H := Aside0.mk (add256_any g 148 s hs A c l w hr0 hc0 hA hl hn hg)
  clear hs hr0 hA hl hn hg
  go_enter Try.func35, Try.ntmps35
  go_wp2_with (go_at_call 119; refine H.out.mono ?_; rintro e w1 ⟨rfl, hg, hW⟩; have HG := Aside0.mk hg; have HW := Aside0.mk hW; clear hg hW)
  go_end0
  exact ⟨rfl, HG.out, HW.out⟩
theorem hash_add_nil (v : Value) (w : World) : Calls Try.prog 35 #[.pointer none, v] w fun e w' => e = .returned (.tuple #[]) ∧ w' = w := by
  go_enter Try.func35, Try.ntmps35
  go_wp2
  go_end0
  exact ⟨rfl, rfl⟩
set_option maxHeartbeats 4000000 in
set_option maxRecDepth 100000 in
theorem hash_len (g : Nat) (s : HS) (hs : okS s) (w : World) (hg : IsH g w s) :
    Calls Try.prog 36 #[.pointer (some ⟨g, 0, none⟩)] w fun e w' => e = .returned (.int .u64 (s.n : Int)) ∧ w' = w := by
  have c72 := (blk_cell hg 72).trans (stC_72 _ s hs.1)
  clear hs hg
  go_enter Try.func36, Try.ntmps36
  go_wp2
  go_ret
  exact ⟨rfl, rfl⟩
theorem hash_len_nil (w : World) : Calls Try.prog 36 #[.pointer none] w fun e w' => e = .returned (.int .u64 0) ∧ w' = w := by
  go_enter Try.func36, Try.ntmps36
  go_wp2
  go_ret
  exact ⟨rfl, rfl⟩
set_option maxHeartbeats 4000000 in
set_option maxRecDepth 100000 in
theorem hash_sum (g : Nat) (s : HS) (hs : okS s) (hn : s.n ≤ 1152921504606846976) (w : World) (hg : IsH g w s) :
    Calls Try.prog 37 #[.pointer (some ⟨g, 0, none⟩)] w fun e w' => ∃ v0_ : Value, e = .returned v0_ ∧ Kd.R (Kd.int .u8) 5 w' w.heap.size (fun _ => True) v0_ (sumB comp256 s 8) ∧ Below w.heap.size w w' := by
  have K := Aside0.mk hg
  have H := Aside0.mk (sum256_any s hs hn 8 (by omega))
  have hsz := Aside0.mk (stC_size 179 s hs.1)
  clear hs hn hg
  go_enter Try.func37, Try.ntmps37
  go_wp2_with (first
    | ((with_reducible refine gate_dst (N := 8) rfl ?_); refine wpList_load_part rfl 138 (.tmp 7) rfl g 0 rfl (stC 179 s).toList _ ?h1 Try.underlying138 rfl ?h2 ?_; (case h1 => intro j v hj; rw [Nat.zero_add, blk_cell K.out]; simpa using hj); (case h2 => rw [Array.length_toList, hsz.out]; exact infoS); rw [Array.toArray_toList])
    | (go_at_call 120; refine (H.out _).mono ?_; rintro e w5 ⟨v0, rfl, ho, hb5⟩; have o_ := Aside0.mk ho; have b5_ := Aside0.mk hb5; clear ho hb5))
  go_ret
  exact ⟨_, rfl, o_.out, b5_.out⟩
theorem hash_sum_nil (w : World) : Calls Try.prog 37 #[.pointer none] w fun e w' => e = .returned (.slice none 0 0) ∧ w' = w := by
  go_enter Try.func37, Try.ntmps37
  go_wp2
  go_ret
  exact ⟨rfl, rfl⟩
end Go.Proofs.Ytlnpmodhejakiaa.D
