/- steleref02.Text. -/
import Derived.Test.YtlnpmodhejakiaaZCanP
import Derived.Test.YtlnpmodhejakiaaZCanB
namespace Go.Proofs.Ytlnpmodhejakiaa.D
open Go.RowKit Go.Proofs.YtlnpmodhejakiaaW.PrintWords Go.Proofs.YtlnpmodhejakiaaW.PrintLast Go.Proofs.YtlnpmodhejakiaaW.PrintMore Go.Proofs.Ytlnpmodhejakiaa.CP
set_option linter.unusedVariables false
set_option linter.unusedSimpArgs false
def steleref02_Text.f (l0 : List Int) (a1 : ByteArray) : Option (List Int) := if l0.length + a1.size + 9 ≤ 140737488355000 then some (textL l0 a1) else none
theorem byte_C_string (W : World) (s : ByteArray) (hs : s.size ≤ 9223372036854775807) : Kd.C (Kd.int .u8) (Lib.bytesWorld W 5 s) (some ⟨W.heap.size, 0, none⟩) s.size (bytesOf s) := Kd.C_of_reads (h1 := fun _ => rfl) (enc := Value.int .u8) (d := 0) (readsInt_of.1 (bytes_reads W 5 s hs))
theorem join_b (A : Option Addr) (c : Nat) (l : List Int) (w4 : World) (r : List Int) (s : ByteArray) (hb : (bytesOf s).length = s.size) (hC : Kd.C (Kd.int .u8) (Lib.bytesWorld w4 5 s) A l.length l) (hc : l.length ≤ c) (hC2 : Kd.C (Kd.int .u8) (Lib.bytesWorld w4 5 s) (some ⟨w4.heap.size, 0, none⟩) s.size (bytesOf s)) (hg : s.size ≤ grownCap w4 s.size 0 5) (h : PC.steleref02_join.f l (bytesOf s) = some r) :
    Calls Try.prog 131 #[.slice A l.length c, .slice (some ⟨w4.heap.size, 0, none⟩) s.size (grownCap w4 s.size 0 5)] (Lib.bytesWorld w4 5 s) fun e w' => ∃ v0_ : Value, e = .returned v0_ ∧ Kd.R (Kd.int .u8) 5 w' (Lib.bytesWorld w4 5 s).heap.size (fun _ => True) v0_ r ∧ Below (Lib.bytesWorld w4 5 s).heap.size (Lib.bytesWorld w4 5 s) w' := by
  obtain ⟨G, hG⟩ : ∃ G, grownCap w4 s.size 0 5 = G := ⟨_, rfl⟩
  rw [hG] at hg ⊢
  rw [← hb] at hg hC2 ⊢
  exact PC.steleref02_join.calls A c l _ G (bytesOf s) r _ hC hc hC2 hg h
set_option maxHeartbeats 8000000 in
set_option maxRecDepth 100000 in
theorem steleref02_Text.calls (A0 : Option Addr) (c0 : Nat) (l0 : List Int) (a1 : ByteArray) (r : List Int) (w : World) (hr0 : Kd.C (Kd.int .u8) w A0 l0.length l0) (hc0 : l0.length ≤ c0) (h : steleref02_Text.f l0 a1 = some r) :
    Calls Try.prog 45 #[.slice A0 l0.length c0, .string a1] w fun e w' => ∃ v0_ : Value, e = .returned v0_ ∧ Kd.R (Kd.int .u8) 5 w' w.heap.size (fun _ => True) v0_ r ∧ Below w.heap.size w w' := by
  unfold steleref02_Text.f at h
  by_cases hl : l0.length + a1.size + 9 ≤ 140737488355000
  · rw [if_pos hl] at h
    obtain rfl := Option.some.inj h
    clear h
    have HR := Aside0.mk hr0
    have HC := Aside0.mk hc0
    have HL := Aside0.mk hl
    have HB := Aside0.mk (Below.refl w.heap.size w)
    have J0 := Aside0.mk (r_nil l0 (by omega))
    have wn := wrapN a1.size (by omega)
    have hL := longL_len (a1.size : Int) 4
    have J1 := Aside0.mk (show PC.steleref02_long.f 9 (a1.size : Int) 4 = some (longL (a1.size : Int) 4) from rlong (a1.size : Int) 4 9 (by omega) (by omega))
    have J2 := Aside0.mk (r_sign l0 115 (longL (a1.size : Int) 4) (by rw [hL]; omega) (by omega))
    have J3 := Aside0.mk (rjoin (l0 ++ 115 :: longL (a1.size : Int) 4) (bytesOf a1) (by rw [List.length_append, List.length_cons, hL, bytesOf_length]; omega))
    have hsz63 : a1.size ≤ 9223372036854775807 := by omega
    have BC := Aside0.mk (fun W => byte_C_string W a1 hsz63)
    have GC := Aside0.mk (fun W => grownCap_ge W a1.size 0 5)
    have kb := fun W => print_bytes (P := Try.prog) 9 22 5 Try.underlying9 Try.underlying22 Try.underlying5 a1 W
    have hbl := Aside0.mk (bytesOf_length a1)
    obtain ⟨L, hLe⟩ : ∃ L, longL (a1.size : Int) 4 = L := ⟨_, rfl⟩
    rw [hLe] at J1 J2 J3
    have HT := Aside0.mk (show textL l0 a1 = l0 ++ 115 :: L ++ bytesOf a1 by unfold textL; rw [hLe])
    obtain ⟨P1, hP1⟩ : ∃ L', l0 ++ 115 :: L = L' := ⟨_, rfl⟩
    rw [hP1] at J2 J3 HT
    obtain ⟨P0, hP0⟩ : ∃ L', l0 ++ [115] = L' := ⟨_, rfl⟩
    rw [hP0] at J2
    have HP0 := Aside0.mk hP0
    clear hL hLe hP1 hr0 hc0 hl hP0
    go_enter Try.func45, Try.ntmps45
    go_wp2_with (first
      | ((with_reducible refine gate_dst (N := 6) rfl ?_); refine goesL_ (some 6) rfl rfl Try.func131 (by kernel_rfl) rfl #[.slice A0 l0.length c0, .slice none 0 0] rfl (by (try simp only [List.map_toArray, List.map_cons, List.map_nil]); first | done | rfl) ?_; refine (PC.steleref02_join.calls A0 c0 l0 none 0 [] l0 _ HR.out HC.out (Kd.C_nil _ _) (Nat.le_refl _) J0.out).mono ?_; rintro e w1 ⟨v6, rfl, ho, hb⟩; have R6 := Aside0.mk ho; have HB1 := Aside0.mk hb; clear HB ho hb; refine ⟨_, rfl, ?_⟩)
      | ((with_reducible refine gate_builtin (b := .append) (xs := #[.tmp 6, .tmp 7]) rfl ?_); at_builtin; refine Kd.R_append (Kd.int .u8) (w0 := w) w.heap.size rfl (.tmp 6) (.tmp 7) 22 5 (.int .u8 0) 1 rfl Try.underlying22 infoU8c rfl (by decide) (by omega) v6 l0 115 [.int .u8 115] (fun _ => True) (fun _ => False) rfl rfl ?aP (fun _ hk => hk.elim) ?aF ?aO ?aB ?aS ?aL ?_; (case aP => exact rfl); (case aB => exact HB1.out); (case aF => exact (fun _ _ => trivial)); (case aO => exact R6.out); (case aS => exact HB1.out.size); (case aL => have := HL.out; omega); intro v8 w2 ho hb hg hat; rw [HP0.out] at ho; have HB2 := Aside0.mk hb; obtain ⟨A8, c8, rfl, hc8, C8⟩ := Kd.R_reads ho; have C8 := Aside0.mk C8; have HC8 := Aside0.mk hc8; clear ho hb hg hat HB1 R6 hc8)
      | ((with_reducible refine gate_dst (N := 12) rfl ?_); refine goesL_ (some 12) rfl rfl Try.func132 (by kernel_rfl) rfl #[.int .u64 (a1.size : Int), .int .i64 4] rfl (by (try simp only [List.map_toArray, List.map_cons, List.map_nil]); first | done | rfl) ?_; refine (PC.steleref02_long.calls 9 (a1.size : Int) 4 L _ J1.out).mono ?_; rintro e w3 ⟨v12, rfl, ho, hb⟩; obtain ⟨A12, c12, rfl, hc12, C12⟩ := Kd.R_reads ho; have C12 := Aside0.mk C12; have HC12 := Aside0.mk hc12; have C8' := Aside0.mk (Kd.C_below C8.out hb); have HB3 := Aside0.mk (below_step HB2.out hb); clear ho hb HB2 C8 hc12; refine ⟨_, rfl, ?_⟩)
      | ((with_reducible refine gate_dst (N := 13) rfl ?_); refine goesL_ (some 13) rfl rfl Try.func131 (by kernel_rfl) rfl #[.slice A8 P0.length c8, .slice A12 L.length c12] rfl (by (try simp only [List.map_toArray, List.map_cons, List.map_nil]); first | done | rfl) ?_; refine (PC.steleref02_join.calls A8 c8 P0 A12 c12 L P1 _ C8'.out HC8.out C12.out HC12.out J2.out).mono ?_; rintro e w4 ⟨v13, rfl, ho, hb⟩; obtain ⟨A13, c13, rfl, hc13, C13⟩ := Kd.R_reads ho; have C13 := Aside0.mk C13; have HC13 := Aside0.mk hc13; have HB4 := Aside0.mk (below_step HB3.out hb); clear ho hb HB3 C8' C12 hc13; refine ⟨_, rfl, ?_⟩)
      | ((with_reducible refine gate_dst (N := 16) rfl ?_); refine goesL_ (some 16) rfl rfl Try.func131 (by kernel_rfl) rfl #[.slice A13 P1.length c13, .slice (some ⟨w4.heap.size, 0, none⟩) a1.size (grownCap w4 a1.size 0 5)] rfl (by (try simp only [List.map_toArray, List.map_cons, List.map_nil]); first | done | rfl) ?_; have J4 := join_b A13 c13 P1 w4 _ a1 hbl.out (Kd.C_below C13.out (bytes_below (Below.refl _ _) (Nat.le_refl _) _ _)) HC13.out (BC.out w4) (GC.out w4) J3.out; refine J4.mono ?_; rintro e w5 ⟨v16, rfl, ho, hb⟩; have HB5 := Aside0.mk (below_step (bytes_below HB4.out HB4.out.size _ _) hb); have R16 := Aside0.mk (Kd.R_lower ho (bytes_below HB4.out HB4.out.size _ _).size); rw [← HT.out] at R16; clear J4 ho hb HB4 C13; refine ⟨_, rfl, ?_⟩))
    go_ret
    exact ⟨_, rfl, R16.out, HB5.out⟩
  · rw [if_neg hl] at h
    cases h
end Go.Proofs.Ytlnpmodhejakiaa.D
