/- The writer of package records: what its methods do. -/
import Derived.Test.YtlnpmodhejakiaaYMa
import Derived.Test.YtlnpmodhejakiaaYMc
import Derived.Test.YtlnpmodhejakiaaYMb
namespace Go.Proofs.Ytlnpmodhejakiaa.RW
open Go.RowKit Go.Proofs.YtlnpmodhejakiaaW.PrintWords Go.Proofs.YtlnpmodhejakiaaW.PrintLast Go.Proofs.YtlnpmodhejakiaaW.PrintMore Go.Proofs.Ytlnpmodhejakiaa.Sha Go.Proofs.Ytlnpmodhejakiaa.D Go.Proofs.Ytlnpmodhejakiaa.PC Go.Proofs.Ytlnpmodhejakiaa.CP Go.Proofs.Ytlnpmodhejakiaa.AV
set_option linter.unusedVariables false
set_option linter.unusedSimpArgs false
def IsW (g : Nat) (w : World) (out : List Int) : Prop := ∃ A c, w.heap[g]? = some (.cells #[.slice A out.length c] 189 (0, 0)) ∧ out.length ≤ c ∧ Kd.C (Kd.int .u8) w A out.length out
theorem IsW.lt {g : Nat} {w : World} {out : List Int} (h : IsW g w out) : g < w.heap.size := by obtain ⟨A, c, h1, _⟩ := h; exact blk_lt h1
theorem IsW.below {g : Nat} {w w' : World} {out : List Int} (h : IsW g w out) (hb : Below w.heap.size w w') : IsW g w' out := by
  obtain ⟨A, c, h1, h2, h3⟩ := h
  exact ⟨A, c, blk_below h1 hb, h2, Kd.C_below h3 hb⟩
theorem IsW.put {g : Nat} {w : World} {base : Nat} {v : Value} {u : Value} {out : List Int} (hg : w.heap[g]? = some (.cells #[u] 189 (0, 0))) (hb : g < base) (hR : Kd.R (Kd.int .u8) 5 w base (fun _ => True) v out) : IsW g (w.setCell ⟨g, 0, none⟩ v) out := by
  have h2 : Kd.R (Kd.int .u8) 5 (w.setCell ⟨g, 0, none⟩ v) base (fun _ => True) v out := Kd.R_mono (Kd.R_far (Kd.R_bound hR) (p := ⟨g, 0, none⟩) (fun k hk => by show k ≠ g; have := hk.2.1; omega) v) (fun _ _ => trivial)
  obtain ⟨A, c, rfl, hc, hC⟩ := Kd.R_reads h2
  exact ⟨A, c, blk_put (cs := #[u]) hg 0 _ rfl, hc, hC⟩
theorem uintL_len (out : List Int) (n : Int) : (uintL out n).length = out.length + 9 := by unfold uintL; rw [List.length_append, List.length_cons, longL_len]
theorem textL_len (out : List Int) (s : ByteArray) : (textL out s).length = out.length + s.size + 5 := by unfold textL; rw [List.length_append, List.length_append, List.length_cons, longL_len, bytesOf_length]; omega
theorem boolL_len (out : List Int) (b : Bool) : (boolL out b).length = out.length + 1 := by unfold boolL; rw [List.length_append]; rfl
/-! uints -/
def uintsL (out : List Int) (l : List (Int)) : List Int := l.foldl (fun o x => uintL o x) out
theorem uints_wrap (k n : Nat) (h : (k : Int) < (n : Int)) (hn : n ≤ 1000) : Value.int .i64 (wrap64 ((k : Int) + 1)) = .int .i64 ((k + 1 : Nat) : Int) := by
  rw [show wrap64 ((k : Int) + 1) = ((k + 1 : Nat) : Int) from by unfold wrap64; omega]
theorem uints_meas (k n : Nat) (h : (k : Int) < (n : Int)) (hn : n ≤ 1000) : n - (intOf (.int .i64 (wrap64 ((k : Int) + 1)))).toNat < n - (intOf (.int .i64 (k : Int))).toNat := by
  rw [uints_wrap k n h hn]
  show n - (((k + 1 : Nat) : Int)).toNat < n - ((k : Int)).toNat
  rw [Int.toNat_natCast, Int.toNat_natCast]
  omega
set_option maxHeartbeats 8000000 in
set_option maxRecDepth 100000 in
theorem uints_any (g gl : Nat) (T : TypeId) (l : List (Int)) (out : List Int) (w : World) (hI : IsW g w out) (hl : w.heap[gl]? = some (.cells (l.map (fun x => .int .u64 x)).toArray T (0, 0))) (hne : gl ≠ g) (hn : l.length ≤ 1000)
    (hf : ∀ k x, l[k]? = some x → canon_Uint.f 9 (uintsL out (l.take k)) x = some (uintL (uintsL out (l.take k)) x)) :
    Calls Try.prog 163 #[.pointer (some ⟨g, 0, none⟩), .slice (some ⟨gl, 0, none⟩) l.length l.length] w fun e w' => e = .returned (.tuple #[]) ∧ IsW g w' (uintsL out l) ∧ Wr w.heap.size g w w' := by
  have HI := Aside0.mk hI
  have HL := Aside0.mk hl
  have HN := Aside0.mk hn
  have HF := Aside0.mk hf
  have GS := Aside0.mk hI.lt
  have LS := Aside0.mk (blk_lt hl)
  clear hI hl hn hf
  go_enter Try.func163, Try.ntmps163
  go_wp2
  go_loopw [8] (fun v8 wr => ∃ k : Nat, v8 = .int .i64 (k : Int) ∧ k ≤ l.length ∧ Aside0 (IsW g wr (uintsL out (l.take k))) ∧ Aside0 (Wr w.heap.size g w wr)) (fun v _ => l.length - (intOf v).toNat)
  case atStart => exact ⟨0, rfl, Nat.zero_le _, HI, ⟨Wr.refl _ _ _⟩⟩
  case round =>
    obtain ⟨k, rfl, hk, HIk, HW⟩ := hrel
    by_cases hlt : k < l.length
    · have d0 : decide ((k : Int) < (l.length : Int)) = true := decide_eq_true (by omega)
      have d1 : decide (k < l.length) = true := decide_eq_true hlt
      have p1 : (k : Int) < (l.length : Int) := by omega
      obtain ⟨x, hx⟩ : ∃ x, l[k]? = some x := ⟨l[k], List.getElem?_eq_getElem hlt⟩
      have hb : wr.heap[gl]? = some (.cells (l.map (fun x => .int .u64 x)).toArray T (0, 0)) := (HW.out.block gl LS.out hne).trans HL.out
      have hc1 : wr.cell? ⟨gl, k, none⟩ = some (.int .u64 x) := (blk_cell hb k).trans (by simp [hx])
      have hc2 : wr.cell? ((⟨gl, 0, none⟩ : Addr).add k) = some (.int .u64 x) := by rw [addr_add, Nat.zero_add]; exact hc1
      obtain ⟨A, c, hg, hcc, hCC⟩ := HIk.out
      have BG := Aside0.mk hg
      have CC := Aside0.mk hCC
      have Cc := Aside0.mk hcc
      have hg0 : wr.cell? ⟨g, 0, none⟩ = some (.slice A (uintsL out (l.take k)).length c) := (blk_cell hg 0).trans rfl
      have hfx := Aside0.mk (HF.out k x hx)
      have HT := Aside0.mk (show uintsL out (l.take (k + 1)) = uintL (uintsL out (l.take k)) x from by unfold uintsL; rw [List.take_add_one, hx, List.foldl_append]; rfl)
      have G2 := Aside0.mk (blk_lt hg)
      obtain ⟨o, ho⟩ : ∃ o, uintsL out (l.take k) = o := ⟨_, rfl⟩
      rw [ho] at hg0 hfx HT BG CC Cc
      clear hb hx hlt hk hg hcc hCC ho HIk
      go_wp2_with (go_at_call 47; (with_reducible refine (canon_Uint.calls 9 A c o x _ _ CC.out Cc.out hfx.out).mono ?_); rintro e w1 ⟨v, rfl, hR, hb⟩; obtain ⟨Av, cv, rfl, -, -⟩ := Kd.R_reads hR; have HR := Aside0.mk hR; have B1 := Aside0.mk (blk_below BG.out hb); have HW1 := Aside0.mk (HW.out.trans (Wr.of_below hb g) HW.out.size); clear hR hb; have hg1 : w1.cell? ⟨g, 0, none⟩ = some (.slice A o.length c) := (blk_cell B1.out 0).trans rfl; have fg1 := blk_frozen B1.out 0)
      go_roundw
      case measure => exact uints_meas k l.length p1 HN.out
      case rel => exact ⟨k + 1, uints_wrap k l.length p1 HN.out, Int.ofNat_lt.1 p1, ⟨by rw [HT.out]; exact IsW.put B1.out G2.out HR.out⟩, ⟨HW1.out.setCell 0 _⟩⟩
    · have d0 : decide ((k : Int) < (l.length : Int)) = false := decide_eq_false (by omega)
      have d1 : decide (k < l.length) = false := decide_eq_false hlt
      have HT := Aside0.mk (show uintsL out (l.take k) = uintsL out l from by rw [List.take_of_length_le (by omega)])
      clear hk
      go_wp2
      refine bodyPost_end (results_none rfl _ _ _) rfl ?_
      exact ⟨rfl, by rw [← HT.out]; exact HIk.out, HW.out⟩
/-! texts -/
def textsL (out : List Int) (l : List (ByteArray)) : List Int := l.foldl (fun o x => textL o x) out
theorem texts_wrap (k n : Nat) (h : (k : Int) < (n : Int)) (hn : n ≤ 1000) : Value.int .i64 (wrap64 ((k : Int) + 1)) = .int .i64 ((k + 1 : Nat) : Int) := by
  rw [show wrap64 ((k : Int) + 1) = ((k + 1 : Nat) : Int) from by unfold wrap64; omega]
theorem texts_meas (k n : Nat) (h : (k : Int) < (n : Int)) (hn : n ≤ 1000) : n - (intOf (.int .i64 (wrap64 ((k : Int) + 1)))).toNat < n - (intOf (.int .i64 (k : Int))).toNat := by
  rw [texts_wrap k n h hn]
  show n - (((k + 1 : Nat) : Int)).toNat < n - ((k : Int)).toNat
  rw [Int.toNat_natCast, Int.toNat_natCast]
  omega
set_option maxHeartbeats 8000000 in
set_option maxRecDepth 100000 in
theorem texts_any (g gl : Nat) (T : TypeId) (l : List (ByteArray)) (out : List Int) (w : World) (hI : IsW g w out) (hl : w.heap[gl]? = some (.cells (l.map (fun x => .string x)).toArray T (0, 0))) (hne : gl ≠ g) (hn : l.length ≤ 1000)
    (hf : ∀ k x, l[k]? = some x → canon_Text.f 9 (textsL out (l.take k)) x = some (textL (textsL out (l.take k)) x)) :
    Calls Try.prog 159 #[.pointer (some ⟨g, 0, none⟩), .slice (some ⟨gl, 0, none⟩) l.length l.length] w fun e w' => e = .returned (.tuple #[]) ∧ IsW g w' (textsL out l) ∧ Wr w.heap.size g w w' := by
  have HI := Aside0.mk hI
  have HL := Aside0.mk hl
  have HN := Aside0.mk hn
  have HF := Aside0.mk hf
  have GS := Aside0.mk hI.lt
  have LS := Aside0.mk (blk_lt hl)
  clear hI hl hn hf
  go_enter Try.func159, Try.ntmps159
  go_wp2
  go_loopw [8] (fun v8 wr => ∃ k : Nat, v8 = .int .i64 (k : Int) ∧ k ≤ l.length ∧ Aside0 (IsW g wr (textsL out (l.take k))) ∧ Aside0 (Wr w.heap.size g w wr)) (fun v _ => l.length - (intOf v).toNat)
  case atStart => exact ⟨0, rfl, Nat.zero_le _, HI, ⟨Wr.refl _ _ _⟩⟩
  case round =>
    obtain ⟨k, rfl, hk, HIk, HW⟩ := hrel
    by_cases hlt : k < l.length
    · have d0 : decide ((k : Int) < (l.length : Int)) = true := decide_eq_true (by omega)
      have d1 : decide (k < l.length) = true := decide_eq_true hlt
      have p1 : (k : Int) < (l.length : Int) := by omega
      obtain ⟨x, hx⟩ : ∃ x, l[k]? = some x := ⟨l[k], List.getElem?_eq_getElem hlt⟩
      have hb : wr.heap[gl]? = some (.cells (l.map (fun x => .string x)).toArray T (0, 0)) := (HW.out.block gl LS.out hne).trans HL.out
      have hc1 : wr.cell? ⟨gl, k, none⟩ = some (.string x) := (blk_cell hb k).trans (by simp [hx])
      have hc2 : wr.cell? ((⟨gl, 0, none⟩ : Addr).add k) = some (.string x) := by rw [addr_add, Nat.zero_add]; exact hc1
      obtain ⟨A, c, hg, hcc, hCC⟩ := HIk.out
      have BG := Aside0.mk hg
      have CC := Aside0.mk hCC
      have Cc := Aside0.mk hcc
      have hg0 : wr.cell? ⟨g, 0, none⟩ = some (.slice A (textsL out (l.take k)).length c) := (blk_cell hg 0).trans rfl
      have hfx := Aside0.mk (HF.out k x hx)
      have HT := Aside0.mk (show textsL out (l.take (k + 1)) = textL (textsL out (l.take k)) x from by unfold textsL; rw [List.take_add_one, hx, List.foldl_append]; rfl)
      have G2 := Aside0.mk (blk_lt hg)
      obtain ⟨o, ho⟩ : ∃ o, textsL out (l.take k) = o := ⟨_, rfl⟩
      rw [ho] at hg0 hfx HT BG CC Cc
      clear hb hx hlt hk hg hcc hCC ho HIk
      go_wp2_with (go_at_call 44; (with_reducible refine (canon_Text.calls 9 A c o x _ _ CC.out Cc.out hfx.out).mono ?_); rintro e w1 ⟨v, rfl, hR, hb⟩; obtain ⟨Av, cv, rfl, -, -⟩ := Kd.R_reads hR; have HR := Aside0.mk hR; have B1 := Aside0.mk (blk_below BG.out hb); have HW1 := Aside0.mk (HW.out.trans (Wr.of_below hb g) HW.out.size); clear hR hb; have hg1 : w1.cell? ⟨g, 0, none⟩ = some (.slice A o.length c) := (blk_cell B1.out 0).trans rfl; have fg1 := blk_frozen B1.out 0)
      go_roundw
      case measure => exact texts_meas k l.length p1 HN.out
      case rel => exact ⟨k + 1, texts_wrap k l.length p1 HN.out, Int.ofNat_lt.1 p1, ⟨by rw [HT.out]; exact IsW.put B1.out G2.out HR.out⟩, ⟨HW1.out.setCell 0 _⟩⟩
    · have d0 : decide ((k : Int) < (l.length : Int)) = false := decide_eq_false (by omega)
      have d1 : decide (k < l.length) = false := decide_eq_false hlt
      have HT := Aside0.mk (show textsL out (l.take k) = textsL out l from by rw [List.take_of_length_le (by omega)])
      clear hk
      go_wp2
      refine bodyPost_end (results_none rfl _ _ _) rfl ?_
      exact ⟨rfl, by rw [← HT.out]; exact HIk.out, HW.out⟩
/-! bools -/
def boolsL (out : List Int) (l : List (Bool)) : List Int := l.foldl (fun o x => boolL o x) out
theorem bools_wrap (k n : Nat) (h : (k : Int) < (n : Int)) (hn : n ≤ 1000) : Value.int .i64 (wrap64 ((k : Int) + 1)) = .int .i64 ((k + 1 : Nat) : Int) := by
  rw [show wrap64 ((k : Int) + 1) = ((k + 1 : Nat) : Int) from by unfold wrap64; omega]
theorem bools_meas (k n : Nat) (h : (k : Int) < (n : Int)) (hn : n ≤ 1000) : n - (intOf (.int .i64 (wrap64 ((k : Int) + 1)))).toNat < n - (intOf (.int .i64 (k : Int))).toNat := by
  rw [bools_wrap k n h hn]
  show n - (((k + 1 : Nat) : Int)).toNat < n - ((k : Int)).toNat
  rw [Int.toNat_natCast, Int.toNat_natCast]
  omega
set_option maxHeartbeats 8000000 in
set_option maxRecDepth 100000 in
theorem bools_any (g gl : Nat) (T : TypeId) (l : List (Bool)) (out : List Int) (w : World) (hI : IsW g w out) (hl : w.heap[gl]? = some (.cells (l.map (fun x => .bool x)).toArray T (0, 0))) (hne : gl ≠ g) (hn : l.length ≤ 1000)
    (hf : ∀ k x, l[k]? = some x → canon_Bool.f 9 (boolsL out (l.take k)) x = some (boolL (boolsL out (l.take k)) x)) :
    Calls Try.prog 161 #[.pointer (some ⟨g, 0, none⟩), .slice (some ⟨gl, 0, none⟩) l.length l.length] w fun e w' => e = .returned (.tuple #[]) ∧ IsW g w' (boolsL out l) ∧ Wr w.heap.size g w w' := by
  have HI := Aside0.mk hI
  have HL := Aside0.mk hl
  have HN := Aside0.mk hn
  have HF := Aside0.mk hf
  have GS := Aside0.mk hI.lt
  have LS := Aside0.mk (blk_lt hl)
  clear hI hl hn hf
  go_enter Try.func161, Try.ntmps161
  go_wp2
  go_loopw [8] (fun v8 wr => ∃ k : Nat, v8 = .int .i64 (k : Int) ∧ k ≤ l.length ∧ Aside0 (IsW g wr (boolsL out (l.take k))) ∧ Aside0 (Wr w.heap.size g w wr)) (fun v _ => l.length - (intOf v).toNat)
  case atStart => exact ⟨0, rfl, Nat.zero_le _, HI, ⟨Wr.refl _ _ _⟩⟩
  case round =>
    obtain ⟨k, rfl, hk, HIk, HW⟩ := hrel
    by_cases hlt : k < l.length
    · have d0 : decide ((k : Int) < (l.length : Int)) = true := decide_eq_true (by omega)
      have d1 : decide (k < l.length) = true := decide_eq_true hlt
      have p1 : (k : Int) < (l.length : Int) := by omega
      obtain ⟨x, hx⟩ : ∃ x, l[k]? = some x := ⟨l[k], List.getElem?_eq_getElem hlt⟩
      have hb : wr.heap[gl]? = some (.cells (l.map (fun x => .bool x)).toArray T (0, 0)) := (HW.out.block gl LS.out hne).trans HL.out
      have hc1 : wr.cell? ⟨gl, k, none⟩ = some (.bool x) := (blk_cell hb k).trans (by simp [hx])
      have hc2 : wr.cell? ((⟨gl, 0, none⟩ : Addr).add k) = some (.bool x) := by rw [addr_add, Nat.zero_add]; exact hc1
      obtain ⟨A, c, hg, hcc, hCC⟩ := HIk.out
      have BG := Aside0.mk hg
      have CC := Aside0.mk hCC
      have Cc := Aside0.mk hcc
      have hg0 : wr.cell? ⟨g, 0, none⟩ = some (.slice A (boolsL out (l.take k)).length c) := (blk_cell hg 0).trans rfl
      have hfx := Aside0.mk (HF.out k x hx)
      have HT := Aside0.mk (show boolsL out (l.take (k + 1)) = boolL (boolsL out (l.take k)) x from by unfold boolsL; rw [List.take_add_one, hx, List.foldl_append]; rfl)
      have G2 := Aside0.mk (blk_lt hg)
      obtain ⟨o, ho⟩ : ∃ o, boolsL out (l.take k) = o := ⟨_, rfl⟩
      rw [ho] at hg0 hfx HT BG CC Cc
      clear hb hx hlt hk hg hcc hCC ho HIk
      go_wp2_with (go_at_call 49; (with_reducible refine (canon_Bool.calls 9 A c o x _ _ CC.out Cc.out hfx.out).mono ?_); rintro e w1 ⟨v, rfl, hR, hb⟩; obtain ⟨Av, cv, rfl, -, -⟩ := Kd.R_reads hR; have HR := Aside0.mk hR; have B1 := Aside0.mk (blk_below BG.out hb); have HW1 := Aside0.mk (HW.out.trans (Wr.of_below hb g) HW.out.size); clear hR hb; have hg1 : w1.cell? ⟨g, 0, none⟩ = some (.slice A o.length c) := (blk_cell B1.out 0).trans rfl; have fg1 := blk_frozen B1.out 0)
      go_roundw
      case measure => exact bools_meas k l.length p1 HN.out
      case rel => exact ⟨k + 1, bools_wrap k l.length p1 HN.out, Int.ofNat_lt.1 p1, ⟨by rw [HT.out]; exact IsW.put B1.out G2.out HR.out⟩, ⟨HW1.out.setCell 0 _⟩⟩
    · have d0 : decide ((k : Int) < (l.length : Int)) = false := decide_eq_false (by omega)
      have d1 : decide (k < l.length) = false := decide_eq_false hlt
      have HT := Aside0.mk (show boolsL out (l.take k) = boolsL out l from by rw [List.take_of_length_le (by omega)])
      clear hk
      go_wp2
      refine bodyPost_end (results_none rfl _ _ _) rfl ?_
      exact ⟨rfl, by rw [← HT.out]; exact HIk.out, HW.out⟩
theorem uints_1 (g gl : Nat) (T : TypeId) (x : Int) (out : List Int) (w : World) (hI : IsW g w out) (hl : w.heap[gl]? = some (.cells #[.int .u64 x] T (0, 0))) (hne : gl ≠ g) (hb : out.length + (9) + 9 ≤ 140737488355000) :
    Calls Try.prog 163 #[.pointer (some ⟨g, 0, none⟩), .slice (some ⟨gl, 0, none⟩) 1 1] w fun e w' => e = .returned (.tuple #[]) ∧ IsW g w' (uintL out x) ∧ Wr w.heap.size g w w' :=
  uints_any g gl T [x] out w hI hl hne (by simp) (fun k x' hk => by
    match k with
    | 0 => (obtain rfl : x = x' := by simpa using hk); exact c_uint 9 (Nat.le_refl _) _ _ (by show out.length + 9 ≤ _; omega)
    | k + 1 => simp at hk)
theorem uints_2 (g gl : Nat) (T : TypeId) (x y : Int) (out : List Int) (w : World) (hI : IsW g w out) (hl : w.heap[gl]? = some (.cells #[.int .u64 x, .int .u64 y] T (0, 0))) (hne : gl ≠ g) (hb : out.length + (9) + (9) + 9 ≤ 140737488355000) :
    Calls Try.prog 163 #[.pointer (some ⟨g, 0, none⟩), .slice (some ⟨gl, 0, none⟩) 2 2] w fun e w' => e = .returned (.tuple #[]) ∧ IsW g w' (uintL (uintL out x) y) ∧ Wr w.heap.size g w w' :=
  uints_any g gl T [x, y] out w hI hl hne (by simp) (fun k x' hk => by
    match k with
    | 0 => (obtain rfl : x = x' := by simpa using hk); exact c_uint 9 (Nat.le_refl _) _ _ (by show out.length + 9 ≤ _; omega)
    | 1 => (obtain rfl : y = x' := by simpa using hk); exact c_uint 9 (Nat.le_refl _) _ _ (by show (uintL out x).length + 9 ≤ _; rw [uintL_len]; omega)
    | k + 2 => simp at hk)
theorem texts_1 (g gl : Nat) (T : TypeId) (x : ByteArray) (out : List Int) (w : World) (hI : IsW g w out) (hl : w.heap[gl]? = some (.cells #[.string x] T (0, 0))) (hne : gl ≠ g) (hb : out.length + (x.size + 5) + 9 ≤ 140737488355000) :
    Calls Try.prog 159 #[.pointer (some ⟨g, 0, none⟩), .slice (some ⟨gl, 0, none⟩) 1 1] w fun e w' => e = .returned (.tuple #[]) ∧ IsW g w' (textL out x) ∧ Wr w.heap.size g w w' :=
  texts_any g gl T [x] out w hI hl hne (by simp) (fun k x' hk => by
    match k with
    | 0 => (obtain rfl : x = x' := by simpa using hk); exact c_text 9 (Nat.le_refl _) _ _ (by show out.length + x.size + 9 ≤ _; omega)
    | k + 1 => simp at hk)
theorem texts_2 (g gl : Nat) (T : TypeId) (x y : ByteArray) (out : List Int) (w : World) (hI : IsW g w out) (hl : w.heap[gl]? = some (.cells #[.string x, .string y] T (0, 0))) (hne : gl ≠ g) (hb : out.length + (x.size + 5) + (y.size + 5) + 9 ≤ 140737488355000) :
    Calls Try.prog 159 #[.pointer (some ⟨g, 0, none⟩), .slice (some ⟨gl, 0, none⟩) 2 2] w fun e w' => e = .returned (.tuple #[]) ∧ IsW g w' (textL (textL out x) y) ∧ Wr w.heap.size g w w' :=
  texts_any g gl T [x, y] out w hI hl hne (by simp) (fun k x' hk => by
    match k with
    | 0 => (obtain rfl : x = x' := by simpa using hk); exact c_text 9 (Nat.le_refl _) _ _ (by show out.length + x.size + 9 ≤ _; omega)
    | 1 => (obtain rfl : y = x' := by simpa using hk); exact c_text 9 (Nat.le_refl _) _ _ (by show (textL out x).length + y.size + 9 ≤ _; rw [textL_len]; omega)
    | k + 2 => simp at hk)
theorem bools_1 (g gl : Nat) (T : TypeId) (x : Bool) (out : List Int) (w : World) (hI : IsW g w out) (hl : w.heap[gl]? = some (.cells #[.bool x] T (0, 0))) (hne : gl ≠ g) (hb : out.length + (1) + 9 ≤ 140737488355000) :
    Calls Try.prog 161 #[.pointer (some ⟨g, 0, none⟩), .slice (some ⟨gl, 0, none⟩) 1 1] w fun e w' => e = .returned (.tuple #[]) ∧ IsW g w' (boolL out x) ∧ Wr w.heap.size g w w' :=
  bools_any g gl T [x] out w hI hl hne (by simp) (fun k x' hk => by
    match k with
    | 0 => (obtain rfl : x = x' := by simpa using hk); exact c_bool 9 (Nat.le_refl _) _ _ (by show out.length + 9 ≤ _; omega)
    | k + 1 => simp at hk)
theorem bools_2 (g gl : Nat) (T : TypeId) (x y : Bool) (out : List Int) (w : World) (hI : IsW g w out) (hl : w.heap[gl]? = some (.cells #[.bool x, .bool y] T (0, 0))) (hne : gl ≠ g) (hb : out.length + (1) + (1) + 9 ≤ 140737488355000) :
    Calls Try.prog 161 #[.pointer (some ⟨g, 0, none⟩), .slice (some ⟨gl, 0, none⟩) 2 2] w fun e w' => e = .returned (.tuple #[]) ∧ IsW g w' (boolL (boolL out x) y) ∧ Wr w.heap.size g w w' :=
  bools_any g gl T [x, y] out w hI hl hne (by simp) (fun k x' hk => by
    match k with
    | 0 => (obtain rfl : x = x' := by simpa using hk); exact c_bool 9 (Nat.le_refl _) _ _ (by show out.length + 9 ≤ _; omega)
    | 1 => (obtain rfl : y = x' := by simpa using hk); exact c_bool 9 (Nat.le_refl _) _ _ (by show (boolL out x).length + 9 ≤ _; rw [boolL_len]; omega)
    | k + 2 => simp at hk)
theorem uints_1f (g gl : Nat) (T : TypeId) (x : Int) (out : List Int) (w : World) (hI : IsW g w out) (hl : w.heap[gl]? = some (.cells ([x].map (fun x => .int .u64 x)).toArray T (0, 0))) (hne : gl ≠ g) (hf : canon_Uint.f 9 out x = some (uintL out x)) :
    Calls Try.prog 163 #[.pointer (some ⟨g, 0, none⟩), .slice (some ⟨gl, 0, none⟩) 1 1] w fun e w' => e = .returned (.tuple #[]) ∧ IsW g w' (uintL out x) ∧ Wr w.heap.size g w w' :=
  uints_any g gl T [x] out w hI hl hne (by simp) (fun k x' hk => by
    match k with
    | 0 => (obtain rfl : x = x' := by simpa using hk); exact hf
    | k + 1 => simp at hk)
/-! ints -/
def intsL (out : List Int) (l : List Int) : List Int := l.foldl (fun o x => uintL o (pos x)) out
theorem u64_0 : IntKind.u64.wrap 0 = 0 := by decide
theorem u64_x (x : Int) (h : 0 ≤ x) (h' : x ≤ 9223372036854775807) : IntKind.u64.wrap x = x := by rw [IntKind.wrap_u64]; omega
theorem pos_neg (x : Int) (h : x < 0) : pos x = 0 := by unfold pos mx; split <;> omega
theorem pos_pos (x : Int) (h : ¬ x < 0) : pos x = x := by unfold pos mx; split <;> omega
set_option maxHeartbeats 8000000 in
set_option maxRecDepth 100000 in
theorem ints_any (g gl : Nat) (T : TypeId) (l : List Int) (out : List Int) (w : World) (hI : IsW g w out) (hl : w.heap[gl]? = some (.cells (l.map (fun x => .int .i64 x)).toArray T (0, 0))) (hne : gl ≠ g) (hn : l.length ≤ 1000) (hr : ∀ x ∈ l, x ≤ 9223372036854775807)
    (hf : ∀ k x, l[k]? = some x → canon_Uint.f 9 (intsL out (l.take k)) (pos x) = some (uintL (intsL out (l.take k)) (pos x))) :
    Calls Try.prog 160 #[.pointer (some ⟨g, 0, none⟩), .slice (some ⟨gl, 0, none⟩) l.length l.length] w fun e w' => e = .returned (.tuple #[]) ∧ IsW g w' (intsL out l) ∧ Wr w.heap.size g w w' := by
  have HI := Aside0.mk hI
  have HL := Aside0.mk hl
  have HN := Aside0.mk hn
  have HF := Aside0.mk hf
  have HR := Aside0.mk hr
  have GS := Aside0.mk hI.lt
  have LS := Aside0.mk (blk_lt hl)
  clear hI hl hn hf hr
  go_enter Try.func160, Try.ntmps160
  go_wp2
  go_loopw [8] (fun v8 wr => ∃ k : Nat, v8 = .int .i64 (k : Int) ∧ k ≤ l.length ∧ Aside0 (IsW g wr (intsL out (l.take k))) ∧ Aside0 (Wr w.heap.size g w wr)) (fun v _ => l.length - (intOf v).toNat)
  case atStart => exact ⟨0, rfl, Nat.zero_le _, HI, ⟨Wr.refl _ _ _⟩⟩
  case round =>
    obtain ⟨k, rfl, hk, HIk, HW⟩ := hrel
    by_cases hlt : k < l.length
    · have d0 : decide ((k : Int) < (l.length : Int)) = true := decide_eq_true (by omega)
      have d1 : decide (k < l.length) = true := decide_eq_true hlt
      have p1 : (k : Int) < (l.length : Int) := by omega
      obtain ⟨x, hx⟩ : ∃ x, l[k]? = some x := ⟨l[k], List.getElem?_eq_getElem hlt⟩
      have hb : wr.heap[gl]? = some (.cells (l.map (fun x => .int .i64 x)).toArray T (0, 0)) := (HW.out.block gl LS.out hne).trans HL.out
      have hc1 : wr.cell? ⟨gl, k, none⟩ = some (.int .i64 x) := (blk_cell hb k).trans (by simp [hx])
      have hxm := HR.out x (List.mem_of_getElem? hx)
      have hfx := Aside0.mk (HF.out k x hx)
      have HT := Aside0.mk (show intsL out (l.take (k + 1)) = uintL (intsL out (l.take k)) (pos x) from by unfold intsL; rw [List.take_add_one, hx, List.foldl_append]; rfl)
      have G2 := Aside0.mk HIk.out.lt
      obtain ⟨o, ho⟩ : ∃ o, intsL out (l.take k) = o := ⟨_, rfl⟩
      rw [ho] at hfx HT HIk
      have UC := Aside0.mk (fun g3 W h1 h2 h3 => uints_1f g g3 31 (pos x) o W h1 h2 h3 hfx.out)
      by_cases hneg : x < 0
      · have z0 := u64_0
        have hp := Aside0.mk (pos_neg x hneg)
        clear hb hx hlt hk ho hxm
        go_wp2_with (first
          | ((with_reducible refine gate_dst (N := 16) rfl ?_); (try (refine gate_guard (by rfl) ?_; dsimp only)); refine lit_event rfl (N := 16) rfl (cs := #[.int .u64 0]) (t := 31) (n := 1) ?hr ?_; (case hr => first | (go_simp; done) | (go_simp; rfl)); intro g3 hg3 wb hbox hb; have K3 := Aside0.mk (show wb.heap[g3]? = some (.cells ([pos x].map (fun x => .int .u64 x)).toArray 31 (0, 0)) from (by rw [hp.out]; exact hbox)); have NE := Aside0.mk (show g3 ≠ g from (by rw [hg3]; exact Nat.ne_of_gt G2.out)); have i_ := Aside0.mk (HIk.out.below hb); have w_ := Aside0.mk (HW.out.trans (Wr.of_below hb g) HW.out.size); clear HIk HW; have HIk := i_; have HW := w_; clear i_ w_ hg3 hbox hb)
          | (go_at_call 163; (with_reducible refine (UC.out g3 _ HIk.out K3.out NE.out).mono ?_); rintro e w4 ⟨rfl, hi, hw⟩; have HI4 := Aside0.mk hi; have HW4 := Aside0.mk (HW.out.trans hw HW.out.size); clear hi hw))
        go_roundw
        case measure => exact uints_meas k l.length p1 HN.out
        case rel => exact ⟨k + 1, uints_wrap k l.length p1 HN.out, Int.ofNat_lt.1 p1, ⟨by rw [HT.out]; exact HI4.out⟩, HW4⟩
      · have z0 := u64_x x (by omega) hxm
        have hp := Aside0.mk (pos_pos x hneg)
        clear hb hx hlt hk ho hxm
        go_wp2_with (first
          | ((with_reducible refine gate_dst (N := 16) rfl ?_); (try (refine gate_guard (by rfl) ?_; dsimp only)); refine lit_event rfl (N := 16) rfl (cs := #[.int .u64 x]) (t := 31) (n := 1) ?hr ?_; (case hr => first | (go_simp; done) | (go_simp; rfl)); intro g3 hg3 wb hbox hb; have K3 := Aside0.mk (show wb.heap[g3]? = some (.cells ([pos x].map (fun x => .int .u64 x)).toArray 31 (0, 0)) from (by rw [hp.out]; exact hbox)); have NE := Aside0.mk (show g3 ≠ g from (by rw [hg3]; exact Nat.ne_of_gt G2.out)); have i_ := Aside0.mk (HIk.out.below hb); have w_ := Aside0.mk (HW.out.trans (Wr.of_below hb g) HW.out.size); clear HIk HW; have HIk := i_; have HW := w_; clear i_ w_ hg3 hbox hb)
          | (go_at_call 163; (with_reducible refine (UC.out g3 _ HIk.out K3.out NE.out).mono ?_); rintro e w4 ⟨rfl, hi, hw⟩; have HI4 := Aside0.mk hi; have HW4 := Aside0.mk (HW.out.trans hw HW.out.size); clear hi hw))
        go_roundw
        case measure => exact uints_meas k l.length p1 HN.out
        case rel => exact ⟨k + 1, uints_wrap k l.length p1 HN.out, Int.ofNat_lt.1 p1, ⟨by rw [HT.out]; exact HI4.out⟩, HW4⟩
    · have d0 : decide ((k : Int) < (l.length : Int)) = false := decide_eq_false (by omega)
      have d1 : decide (k < l.length) = false := decide_eq_false hlt
      have HT := Aside0.mk (show intsL out (l.take k) = intsL out l from by rw [List.take_of_length_le (by omega)])
      clear hk
      go_wp2
      refine bodyPost_end (results_none rfl _ _ _) rfl ?_
      exact ⟨rfl, by rw [← HT.out]; exact HIk.out, HW.out⟩
theorem ints_1 (g gl : Nat) (T : TypeId) (x : Int) (out : List Int) (w : World) (hI : IsW g w out) (hl : w.heap[gl]? = some (.cells #[.int .i64 x] T (0, 0))) (hne : gl ≠ g) (r1 : x ≤ 9223372036854775807) (hb : out.length + (9) + 9 ≤ 140737488355000) :
    Calls Try.prog 160 #[.pointer (some ⟨g, 0, none⟩), .slice (some ⟨gl, 0, none⟩) 1 1] w fun e w' => e = .returned (.tuple #[]) ∧ IsW g w' (uintL out (pos x)) ∧ Wr w.heap.size g w w' :=
  ints_any g gl T [x] out w hI hl hne (by simp) (fun z hz => by simp only [List.mem_cons, List.not_mem_nil, or_false] at hz; subst hz; exact r1) (fun k x' hk => by
    match k with
    | 0 => (obtain rfl : x = x' := by simpa using hk); exact c_uint 9 (Nat.le_refl _) _ _ (by show out.length + 9 ≤ _; omega)
    | k + 1 => simp at hk)
theorem ints_2 (g gl : Nat) (T : TypeId) (x y : Int) (out : List Int) (w : World) (hI : IsW g w out) (hl : w.heap[gl]? = some (.cells #[.int .i64 x, .int .i64 y] T (0, 0))) (hne : gl ≠ g) (r1 : x ≤ 9223372036854775807) (r2 : y ≤ 9223372036854775807) (hb : out.length + (9) + (9) + 9 ≤ 140737488355000) :
    Calls Try.prog 160 #[.pointer (some ⟨g, 0, none⟩), .slice (some ⟨gl, 0, none⟩) 2 2] w fun e w' => e = .returned (.tuple #[]) ∧ IsW g w' (uintL (uintL out (pos x)) (pos y)) ∧ Wr w.heap.size g w w' :=
  ints_any g gl T [x, y] out w hI hl hne (by simp) (fun z hz => by simp only [List.mem_cons, List.not_mem_nil, or_false] at hz; rcases hz with rfl | rfl; exact r1; exact r2) (fun k x' hk => by
    match k with
    | 0 => (obtain rfl : x = x' := by simpa using hk); exact c_uint 9 (Nat.le_refl _) _ _ (by show out.length + 9 ≤ _; omega)
    | 1 => (obtain rfl : y = x' := by simpa using hk); exact c_uint 9 (Nat.le_refl _) _ _ (by show (uintL out (pos x)).length + 9 ≤ _; rw [uintL_len]; omega)
    | k + 2 => simp at hk)
end Go.Proofs.Ytlnpmodhejakiaa.RW
