/- Words for AuditEdited: rows whose Sum came in and whose Prev was made; the plain law. -/
import Derived.Test.YtlnpmodhejakiaaZAudG
import Derived.Test.YtlnpmodhejakiaaZAudC
import Derived.Test.YtlnpmodhejakiaaZWb
import Derived.Test.YtlnpmodhejakiaaZShab
import Derived.Test.YtlnpmodhejakiaaZAudBb
import Derived.Test.YtlnpmodhejakiaaZAudRb
namespace Go.Proofs.Ytlnpmodhejakiaa.AV
open Go.RowKit Go.Proofs.YtlnpmodhejakiaaW.PrintWords Go.Proofs.YtlnpmodhejakiaaW.PrintLast Go.Proofs.YtlnpmodhejakiaaW.PrintMore Go.Proofs.Ytlnpmodhejakiaa.Sha Go.Proofs.Ytlnpmodhejakiaa.D Go.Proofs.Ytlnpmodhejakiaa.PC Go.Proofs.Ytlnpmodhejakiaa.CP Go.Proofs.Ytlnpmodhejakiaa.PV
set_option linter.unusedVariables false
set_option linter.unusedSimpArgs false
def k69m (w0 : World) : Kd S69 := Kd.iso (Kd.pair (Kd.int .u64) (Kd.pair (Kd.int .u64) (Kd.pair Kd.string (Kd.pair (Kd.int .i64) (Kd.pair Kd.string (Kd.pair Kd.string (Kd.pair (Kd.int .u64) (Kd.pair (Kd.int .i64) (Kd.pair (Kd.mix 5 (Kd.int .u8) (Kd.int .u8) w0) (Kd.mix 5 (Kd.int .u8) (Kd.int .u8) w0)))))))))) (fun x : S69 => (x.f0, x.f1, x.f2, x.f3, x.f4, x.f5, x.f6, x.f7, x.f8, x.f9))
theorem k69m_mkM (w0 w : World) (base : Nat) (ok : Nat → Prop) (x : S69) {A8 : Option Addr} {c8 : Nat} (l8 : x.f8.length ≤ c8) (g8 : (Kd.int .u8).C w0 A8 x.f8.length x.f8) {v9 : Value} (g9 : (Kd.int .u8).R 5 w base ok v9 x.f9) : (k69m w0).M w base ok x [.int .u64 x.f0, .int .u64 x.f1, .string x.f2, .int .i64 x.f3, .string x.f4, .string x.f5, .int .u64 x.f6, .int .i64 x.f7, .slice A8 x.f8.length c8, v9] := ⟨[.int .u64 x.f0], [.int .u64 x.f1, .string x.f2, .int .i64 x.f3, .string x.f4, .string x.f5, .int .u64 x.f6, .int .i64 x.f7, .slice A8 x.f8.length c8, v9], rfl, rfl, ⟨[.int .u64 x.f1], [.string x.f2, .int .i64 x.f3, .string x.f4, .string x.f5, .int .u64 x.f6, .int .i64 x.f7, .slice A8 x.f8.length c8, v9], rfl, rfl, ⟨[.string x.f2], [.int .i64 x.f3, .string x.f4, .string x.f5, .int .u64 x.f6, .int .i64 x.f7, .slice A8 x.f8.length c8, v9], rfl, rfl, ⟨[.int .i64 x.f3], [.string x.f4, .string x.f5, .int .u64 x.f6, .int .i64 x.f7, .slice A8 x.f8.length c8, v9], rfl, rfl, ⟨[.string x.f4], [.string x.f5, .int .u64 x.f6, .int .i64 x.f7, .slice A8 x.f8.length c8, v9], rfl, rfl, ⟨[.string x.f5], [.int .u64 x.f6, .int .i64 x.f7, .slice A8 x.f8.length c8, v9], rfl, rfl, ⟨[.int .u64 x.f6], [.int .i64 x.f7, .slice A8 x.f8.length c8, v9], rfl, rfl, ⟨[.int .i64 x.f7], [.slice A8 x.f8.length c8, v9], rfl, rfl, ⟨[.slice A8 x.f8.length c8], [v9], rfl, Kd.mix_came l8 g8, Kd.mix_made g9⟩⟩⟩⟩⟩⟩⟩⟩⟩
theorem k69m_read {w0 w : World} {x : S69} {cs : List Value} (hb : Below w0.heap.size w0 w) (h : (k69m w0).K w x cs) : k69.K w x cs := by
  obtain ⟨_, _, rfl, rfl, ⟨_, _, rfl, rfl, ⟨_, _, rfl, rfl, ⟨_, _, rfl, rfl, ⟨_, _, rfl, rfl, ⟨_, _, rfl, rfl, ⟨_, _, rfl, rfl, ⟨_, _, rfl, rfl, ⟨_, _, rfl, h8, h9⟩⟩⟩⟩⟩⟩⟩⟩⟩ := h
  obtain ⟨A8, c8, rfl, l8, g8⟩ := Kd.mix_read rfl (fun _ _ h => h) hb h8
  obtain ⟨A9, c9, rfl, l9, g9⟩ := Kd.mix_read rfl (fun _ _ h => h) hb h9
  exact k69_mk w x l8 g8 l9 g9
theorem rowsm_read {w0 W : World} {base : Nat} {ok : Nat → Prop} {v : Value} {l : List S69} (h : (k69m w0).R 69 W base ok v l) (hb : Below w0.heap.size w0 W) : ∃ A c, v = .slice A l.length c ∧ l.length ≤ c ∧ Kd.C k69 W A l.length l := by
  obtain ⟨A, c, e, hc, hC⟩ := Kd.R_reads h
  exact ⟨A, c, e, hc, ReadsRow.imp_ (R := (k69m w0).K W) hC (Below.refl _ _) (fun _ _ hp => k69m_read hb hp)⟩
theorem own_ltR {α : Type} {d : Kd α} {e : Nat} {W : World} {base : Nat} {ok : Nat → Prop} {v : Value} {l : List α} (h : d.R e W base ok v l) (k : Nat) (hk : v.ownBlock = some k) : k < W.heap.size := ((Kd.R_bound h).1 k hk).2.2.1
theorem rows_take {w : World} {A : Option Addr} {l : List S69} (hC : Kd.C k69 w A l.length l) (n : Nat) (hn : n ≤ l.length) : Kd.C k69 w A n (l.take n) := by
  obtain ⟨h1, h2, h3⟩ := hC
  refine ⟨by rw [List.length_take]; omega, by omega, fun h => ?_⟩
  obtain ⟨ad, hA, hc⟩ := h3 (by omega)
  refine ⟨ad, hA, fun j p hj => hc j p ?_⟩
  rw [List.getElem?_take] at hj
  split at hj
  · exact hj
  · cases hj
theorem rows_drop {w : World} {A : Option Addr} {l : List S69} (hC : Kd.C k69 w A l.length l) (n c : Nat) (hn : n ≤ l.length) (hc : l.length ≤ c) : Kd.C k69 w (if c = n then A else A.map (·.add (n * 10))) (l.length - n) (l.drop n) := by
  obtain ⟨h1, h2, h3⟩ := hC
  refine ⟨by rw [List.length_drop], by omega, fun h => ?_⟩
  rw [if_neg (by omega)]
  obtain ⟨ad, hA, hcl⟩ := h3 (by omega)
  subst hA
  refine ⟨ad.add (n * 10), rfl, fun j p hj => ?_⟩
  rw [List.getElem?_drop] at hj
  obtain ⟨cs, hl, hk, hcs⟩ := hcl (n + j) p hj
  refine ⟨cs, hl, hk, fun i u hu => ?_⟩
  have := hcs i u hu
  have hz : k69.sz = 10 := rfl
  rw [hz] at this ⊢
  rw [Addr.add_add, show n * 10 + (j * 10 + i) = (n + j) * 10 + i by omega]
  exact this
/-! the plain law -/
theorem ver_next (post : List S69) (j : Nat) (a b head : List Int) (h : verP post j a head = 0) (hne : a ≠ b) : verP post j b head = 53 := by
  cases post with
  | nil =>
    unfold verP at h ⊢
    split at h
    · rename_i e; subst e; rw [if_neg (Ne.symm hne)]
    · cases h
  | cons x l =>
    unfold verP at h ⊢
    split at h
    · rename_i e
      rw [if_neg (fun e' => hne (e.2.2.symm.trans e'.2.2))]
    · cases h
theorem ver_edit (x y : S69) (post : List S69) (head : List Int) (hne : digP x ≠ digP y) : ∀ (m : List S69) (i : Nat) (last : List Int), verP (m ++ x :: post) i last head = 0 → verP (m ++ y :: post) i last head = 53
  | [], i, last, h => by
    rw [List.nil_append] at h ⊢
    unfold verP at h ⊢
    split at h
    · split
      · exact ver_next post _ _ _ _ h hne
      · rfl
    · cases h
  | z :: m, i, last, h => by
    rw [List.cons_append] at h ⊢
    unfold verP at h ⊢
    split at h
    · rename_i e
      rw [if_pos e]
      exact ver_edit x y post head hne m _ _ h
    · cases h
theorem sameP_refl (x : S69) : sameP x x = true := (sameP_iff x x).2 rfl
theorem collR_pre (a b : List S69) : ∀ c : List S69, collR (c ++ a) (c ++ b) = collR a b
  | [] => rfl
  | x :: c => by rw [List.cons_append, List.cons_append, collR, if_pos (sameP_refl x), collR_pre a b c]
theorem coll_edit (m post : List S69) (x y : S69) (hne : sameP x y = false) : collP (m ++ x :: post) (m ++ y :: post) = some (x, y) := by
  unfold collP
  rw [List.reverse_append, List.reverse_append, List.reverse_cons, List.reverse_cons, List.append_assoc, List.append_assoc, collR_pre]
  show collR (x :: m.reverse) (y :: m.reverse) = _
  rw [collR, if_neg (by rw [hne]; decide)]
theorem sameP_symm (x y : S69) : sameP x y = sameP y x := by
  rw [Bool.eq_iff_iff, sameP_iff, sameP_iff]; exact eq_comm
theorem split_at (l : List S69) (n : Nat) (h : n < l.length) : l = l.take n ++ rd_T69 l (n : Int) :: l.drop (n + 1) := by
  rw [rdT l n h]
  conv => lhs; rw [← List.take_append_drop n l, List.drop_eq_getElem_cons h]
def editL (l : List S69) (n : Nat) (z : S69) : List S69 := (l.take n ++ [z]) ++ l.drop (n + 1)
theorem editL_eq (l : List S69) (n : Nat) (z : S69) : editL l n z = l.take n ++ z :: l.drop (n + 1) := by
  unfold editL
  rw [List.append_assoc]; rfl
theorem editL_ok {l : List S69} {n : Nat} {z : S69} (hl : ∀ y ∈ l, okX y) (hz : okX z) : ∀ y ∈ editL l n z, okX y := by
  intro y hy
  rw [editL_eq] at hy
  rcases List.mem_append.1 hy with h | h
  · exact hl y (List.mem_of_mem_take h)
  · rcases List.mem_cons.1 h with rfl | h
    · exact hz
    · exact hl y (List.mem_of_mem_drop h)
theorem editL_len (l : List S69) (n : Nat) (z : S69) (h : n < l.length) : (editL l n z).length = l.length := by
  rw [editL_eq, List.length_append, List.length_cons, List.length_take, List.length_drop]; omega
theorem edited_last {l : List S69} (hg : Grown l) (h : 0 < l.length) {y1 : S69} (hy : rd_T69 l ((l.length : Int) - 1) = y1) : verP l 0 [] (digP y1) = 0 := by
  have e : l.getLast? = some y1 := by
    rw [show (l.length : Int) - 1 = ((l.length - 1 : Nat) : Int) by omega, rdT l _ (by omega)] at hy
    rw [List.getLast?_eq_getElem?, List.getElem?_eq_getElem (by omega), hy]
  have := hg.ver
  rwa [lastD_last l y1 e []] at this
theorem edited_same {l : List S69} {n : Nat} {z : S69} (h : n < l.length) (hz : sameP z (rd_T69 l (n : Int)) = true) : editL l n z = l := by
  rw [(sameP_iff _ _).1 hz, editL_eq]
  exact (split_at l n h).symm
theorem edited_diff {l : List S69} (hg : Grown l) {n : Nat} {z y1 : S69} (h : n < l.length) (hy : rd_T69 l ((l.length : Int) - 1) = y1) (hz : sameP z (rd_T69 l (n : Int)) = false) (hf : foundP l (editL l n z) = false) : verP (editL l n z) 0 [] (digP y1) = 53 := by
  have hv := edited_last hg (by omega) hy
  obtain ⟨x, hx⟩ : ∃ x, rd_T69 l (n : Int) = x := ⟨_, rfl⟩
  have hs := split_at l n h
  rw [hx] at hs hz
  have hc : collP l (editL l n z) = some (x, z) := by
    rw [editL_eq]
    have := coll_edit (l.take n) (l.drop (n + 1)) x z (by rw [sameP_symm]; exact hz)
    rwa [← hs] at this
  unfold foundP at hf
  rw [hc] at hf
  simp only [beq_eq_false_iff_ne] at hf
  rw [editL_eq]
  have hv' : verP (l.take n ++ x :: l.drop (n + 1)) 0 [] (digP y1) = 0 := by rw [← hs]; exact hv
  exact ver_edit x z _ _ hf _ _ _ hv'
theorem next_bulk (l : List S69) (x : S69) : (nextP l x).f2.size + (nextP l x).f4.size + (nextP l x).f5.size + (nextP l x).f8.length + (nextP l x).f9.length ≤ x.f2.size + x.f4.size + x.f5.size + x.f8.length + 32 := by
  unfold nextP
  cases l.getLast? with
  | none => simp
  | some y => simp only [digP_len]; omega
end Go.Proofs.Ytlnpmodhejakiaa.AV
