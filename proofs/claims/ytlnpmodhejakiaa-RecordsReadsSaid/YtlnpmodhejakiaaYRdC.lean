/- steleref02.Reader: number, some, Bytes, Text. -/
import Derived.Test.YtlnpmodhejakiaaYRdB
import Derived.Test.YtlnpmodhejakiaaYMc
namespace Go.Proofs.Ytlnpmodhejakiaa.D
open Go.RowKit Go.Proofs.YtlnpmodhejakiaaW.PrintWords Go.Proofs.YtlnpmodhejakiaaW.PrintLast Go.Proofs.YtlnpmodhejakiaaW.PrintMore Go.Proofs.Ytlnpmodhejakiaa.PR
set_option linter.unusedVariables false
set_option linter.unusedSimpArgs false
theorem xnum_any (w0 : World) (g : Nat) (w : World) (b l : List Int) (bad : Bool) (sign : Int) (many : Nat) (h : IsX w0 g w b l bad) (hB : Below w0.heap.size w0 w) (hb : okL b) (hm1 : 1 ≤ many) (hm8 : many ≤ 8) (mI : Int) (hmI : mI = (many : Int)) :
    Calls Try.prog 135 #[.pointer (some ⟨g, 0, none⟩), .int .u8 sign, .int .i64 mI] w fun e w' => e = .returned (.tuple #[.int .u64 ((headV l bad sign many).getD 0), .bool (headV l bad sign many).isSome]) ∧ IsX w0 g w' b l (headV l bad sign many).isNone ∧ Wr w.heap.size g w w' := by
  subst hmI
  obtain ⟨a, ha, rfl, hI⟩ := h
  exact (steleref02_Reader_number.calls 10 g b (a : Int) bad sign many _ _ _ _ w0 w hI hB (number_eq b a many bad sign hb ha hm1 hm8)).mono fun e w' ⟨he, hi, hb', hk⟩ => ⟨he, ⟨a, ha, rfl, hi⟩, Wr.of_keep hB hb' hk⟩
set_option maxHeartbeats 8000000 in
set_option maxRecDepth 100000 in
theorem xsome_any (w0 : World) (g : Nat) (w : World) (b l : List Int) (bad : Bool) (sign : Int) (h : IsX w0 g w b l bad) (hB : Below w0.heap.size w0 w) (ho : okL b) :
    Calls Try.prog 137 #[.pointer (some ⟨g, 0, none⟩), .int .u8 sign] w fun e w' => ∃ v, e = .returned v ∧ Kd.R (Kd.int .u8) 5 w' w.heap.size (fun _ => True) v (someS l bad sign).1 ∧ IsX w0 g w' b (someS l bad sign).2.1 (someS l bad sign).2.2 ∧ Wr w.heap.size g w w' := by
  have HN := xnum_any w0 g w b l bad sign 4 h hB ho (by omega) (by omega) 4 rfl
  have hlo : okL l := by obtain ⟨a, _, rfl, _⟩ := h; exact okL_drop ho a
  unfold someS
  cases hv : headV l bad sign 4 with
  | none =>
    rw [hv] at HN
    have HH := Aside0.mk (show Calls Try.prog 135 #[.pointer (some ⟨g, 0, none⟩), .int .u8 sign, .int .i64 4] w fun e w' => e = .returned (.tuple #[.int .u64 0, .bool false]) ∧ IsX w0 g w' b l true ∧ Wr w.heap.size g w w' from HN)
    clear h hv HN hlo
    go_enter Try.func137, Try.ntmps137
    go_wp2_with (go_at_call 135; (with_reducible refine HH.out.mono ?_); rintro e w1 ⟨rfl, hi, hW⟩; obtain ⟨a, ha, ea, A, c, k1, k2, k3⟩ := hi; have K1 := Aside0.mk k1; have K2 := Aside0.mk k2; have K3 := Aside0.mk k3; have EA := Aside0.mk ea; have c0 := blk_cell k1 0; have c1 := blk_cell k1 1; have f2 := blk_frozen k1 2; replace c0 : w1.cell? ⟨g, 0, none⟩ = some (.slice A b.length c) := c0; replace c1 : w1.cell? ⟨g, 1, none⟩ = some (.int .i64 (a : Int)) := c1; have c2 := blk_cell k1 2; replace c2 : w1.cell? ⟨g, 2, none⟩ = some (.bool true) := c2; have HW := Aside0.mk hW; clear hW k1 k2 k3 ea)
    go_quiet (fail)
    go_wp2
    go_ret
    exact ⟨_, rfl, Kd.R_nil _ _ _ _ _, ⟨a, ha, EA.out, A, c, blk_put (cs' := #[.slice A b.length c, .int .i64 (a : Int), .bool true]) (blk_drewN K1.out nq) 2 _ rfl, K2.out, K3.out⟩, (HW.out.drewN nq).setCell 2 _⟩
  | some n =>
    have hlen := headV_lt hv
    have hn4 := headV_n4 hlo hv
    rw [hv] at HN
    have HH := Aside0.mk (show Calls Try.prog 135 #[.pointer (some ⟨g, 0, none⟩), .int .u8 sign, .int .i64 4] w fun e w' => e = .returned (.tuple #[.int .u64 n, .bool true]) ∧ IsX w0 g w' b l false ∧ Wr w.heap.size g w w' from HN)
    have hbl := ho.1
    clear h hv HN hlo
    obtain ⟨hn0, hn1⟩ := hn4
    by_cases hbig : (l.length : Int) - 5 < n
    · simp only [if_pos hbig]
      go_enter Try.func137, Try.ntmps137
      go_wp2_with (go_at_call 135; (with_reducible refine HH.out.mono ?_); rintro e w1 ⟨rfl, hi, hW⟩; obtain ⟨a, ha, ea, A, c, k1, k2, k3⟩ := hi; have K1 := Aside0.mk k1; have K2 := Aside0.mk k2; have K3 := Aside0.mk k3; have EA := Aside0.mk ea; have c0 := blk_cell k1 0; have c1 := blk_cell k1 1; have f2 := blk_frozen k1 2; replace c0 : w1.cell? ⟨g, 0, none⟩ = some (.slice A b.length c) := c0; replace c1 : w1.cell? ⟨g, 1, none⟩ = some (.int .i64 (a : Int)) := c1; have c2 := blk_cell k1 2; replace c2 : w1.cell? ⟨g, 2, none⟩ = some (.bool false) := c2; have HW := Aside0.mk hW; have hll : (l.length : Int) = (b.length : Int) - (a : Int) := (by rw [ea, List.length_drop]; omega); have q1 : IntKind.i64.wrap ((b.length : Int) - (a : Int)) = (b.length : Int) - (a : Int) := IntWalk.i64_in _ (by omega); have q2 : IntKind.i64.wrap ((b.length : Int) - (a : Int) - 5) = (b.length : Int) - (a : Int) - 5 := IntWalk.i64_in _ (by omega); have q3 : IntKind.u64.wrap ((b.length : Int) - (a : Int) - 5) = (b.length : Int) - (a : Int) - 5 := wrapu64 (by omega) (by omega); have q4 : decide ((b.length : Int) - (a : Int) - 5 < n) = true := decide_eq_true (by omega); clear hW k1 k2 k3 ea hll hbig)
      go_quiet (fail)
      clear q1 q2 q3 q4
      go_wp2
      go_ret
      exact ⟨_, rfl, Kd.R_nil _ _ _ _ _, ⟨a, ha, EA.out, A, c, blk_put (cs' := #[.slice A b.length c, .int .i64 (a : Int), .bool true]) (blk_drewN K1.out nq) 2 _ rfl, K2.out, K3.out⟩, (HW.out.drewN nq).setCell 2 _⟩
    · simp only [if_neg hbig]
      obtain ⟨m, rfl⟩ := Int.eq_ofNat_of_zero_le hn0
      rw [Int.toNat_natCast]
      have HL4 := Aside0.mk hlen
      go_enter Try.func137, Try.ntmps137
      go_wp2_with (go_at_call 135; (with_reducible refine HH.out.mono ?_); rintro e w1 ⟨rfl, hi, hW⟩; obtain ⟨a, ha, ea, A, c, k1, k2, k3⟩ := hi; have K1 := Aside0.mk k1; have K2 := Aside0.mk k2; have K3 := Aside0.mk k3; have EA := Aside0.mk ea; have c0 := blk_cell k1 0; have c1 := blk_cell k1 1; replace c0 : w1.cell? ⟨g, 0, none⟩ = some (.slice A b.length c) := c0; replace c1 : w1.cell? ⟨g, 1, none⟩ = some (.int .i64 (a : Int)) := c1; have c2 := blk_cell k1 2; replace c2 : w1.cell? ⟨g, 2, none⟩ = some (.bool false) := c2; have HW := Aside0.mk hW; have hll : (l.length : Int) = (b.length : Int) - (a : Int) := (by rw [ea, List.length_drop]; omega); have HLL := Aside0.mk (show l.length = b.length - a by rw [ea, List.length_drop]); have q1 : IntKind.i64.wrap ((b.length : Int) - (a : Int)) = (b.length : Int) - (a : Int) := IntWalk.i64_in _ (by omega); have q2 : IntKind.i64.wrap ((b.length : Int) - (a : Int) - 5) = (b.length : Int) - (a : Int) - 5 := IntWalk.i64_in _ (by omega); have q3 : IntKind.u64.wrap ((b.length : Int) - (a : Int) - 5) = (b.length : Int) - (a : Int) - 5 := wrapu64 (by omega) (by omega); have q4 : decide ((b.length : Int) - (a : Int) - 5 < (m : Int)) = false := decide_eq_false (by omega); have HM := Aside0.mk (show a + 5 + m ≤ b.length by omega); clear hW k1 k2 k3 ea hll hbig hlen)
      go_quiet (fail)
      clear q1 q2 q3 q4
      have hcl : b.length ≤ c := K2.out.2
      have e0_ : (w1.drewN nq).cell? ⟨g, 0, none⟩ = some (.slice A b.length c) := c0
      have e1_ : (w1.drewN nq).cell? ⟨g, 1, none⟩ = some (.int .i64 (a : Int)) := c1
      have k1_ := blk_drewN K1.out nq
      have w_ := HW.out.drewN nq
      clear c0 c1 c2 HW K1
      generalize w1.drewN nq = w2 at e0_ e1_ k1_ w_ ⊢
      have K1 := Aside0.mk k1_
      have HW := Aside0.mk w_
      clear k1_ w_
      go_wp2
      refine start_ (n := 21) (S := fun w' => w'.cell? ⟨g, 0, none⟩ = some (.slice A b.length c) ∧ w'.cell? ⟨g, 1, none⟩ = some (.int .i64 (a : Int))) (ds := [19, 20]) #[false, false, false, false, false, false, false, false, false, false, false, false, false, false, false, false, false, false, false, false, false] (by kernel_rfl) rfl rfl ⟨e0_, e1_⟩ (fun hHeld => ?_)
      have k1_ : (w2.drew).heap[g]? = _ := K1.out
      have w_ := HW.out.drew
      generalize w2.drew = wd at k1_ w_ hHeld ⊢
      clear e0_ e1_ K1 HW
      have K1 := Aside0.mk k1_
      have HW := Aside0.mk w_
      clear k1_ w_
      refine pure_ (i := 1) (N := some 36) (v := ?_) (a' := ?_) #[false, true, false, false, false, false, false, false, false, false, false, false, false, false, false, false, false, false, false, false, false] rfl rfl (by kernel_rfl) (fun _ _ _ h => h) (Or.inl ⟨by rfl, ?_⟩) ?_ ?_
      rotate_left
      · intro w'
        go_simp
        with_reducible rfl
      rotate_left
      · simp only [Act.put, List.setIfInBounds_toArray, List.set_cons_zero, List.set_cons_succ, i64_w, i32_w]
        rfl
      refine pure_ (i := 2) (N := some 37) (v := ?_) (a' := ?_) #[false, true, true, false, false, false, false, false, false, false, false, false, false, false, false, false, false, false, false, false, false] rfl rfl (by kernel_rfl) (fun _ _ _ h => h) (Or.inl ⟨by rfl, ?_⟩) ?_ ?_
      rotate_left
      · intro w'
        go_simp
        with_reducible rfl
      rotate_left
      · simp only [Act.put, List.setIfInBounds_toArray, List.set_cons_zero, List.set_cons_succ, i64_w, i32_w]
        rfl
      refine pure_ (i := 3) (N := some 38) (v := ?_) (a' := ?_) #[false, true, true, true, false, false, false, false, false, false, false, false, false, false, false, false, false, false, false, false, false] rfl rfl (by kernel_rfl) (fun _ _ _ h => h) (Or.inl ⟨by rfl, ?_⟩) ?_ ?_
      rotate_left
      · intro w'
        go_simp
        with_reducible rfl
      rotate_left
      · simp only [Act.put, List.setIfInBounds_toArray, List.set_cons_zero, List.set_cons_succ, i64_w, i32_w]
        rfl
      refine take_ (i := 4) (N := some 39) (v := ?_) (a' := ?_) #[false, true, true, true, true, false, false, false, false, false, false, false, false, false, false, false, false, false, false, false, false] rfl rfl (by kernel_rfl) (fun _ _ _ h => h) (Or.inl ⟨by rfl, ?_⟩) hHeld ?_ ?_
      rotate_left
      · rintro w' ⟨s0, s1⟩
        go_simp
        with_reducible rfl
      rotate_left
      · simp only [Act.put, List.setIfInBounds_toArray, List.set_cons_zero, List.set_cons_succ, i64_w, i32_w]
        rfl
      refine pure_ (i := 5) (N := some 40) (v := ?_) (a' := ?_) #[false, true, true, true, true, true, false, false, false, false, false, false, false, false, false, false, false, false, false, false, false] rfl rfl (by kernel_rfl) (fun _ _ _ h => h) (Or.inl ⟨by rfl, ?_⟩) ?_ ?_
      rotate_left
      · intro w'
        go_simp
        with_reducible rfl
      rotate_left
      · simp only [Act.put, List.setIfInBounds_toArray, List.set_cons_zero, List.set_cons_succ, i64_w, i32_w]
        rfl
      refine pure_ (i := 6) (N := some 41) (v := ?_) (a' := ?_) #[false, true, true, true, true, true, true, false, false, false, false, false, false, false, false, false, false, false, false, false, false] rfl rfl (by kernel_rfl) (fun _ _ _ h => h) (Or.inl ⟨by rfl, ?_⟩) ?_ ?_
      rotate_left
      · intro w'
        go_simp
        with_reducible rfl
      rotate_left
      · simp only [Act.put, List.setIfInBounds_toArray, List.set_cons_zero, List.set_cons_succ, i64_w, i32_w]
        rfl
      refine pure_ (i := 7) (N := some 42) (v := ?_) (a' := ?_) #[false, true, true, true, true, true, true, true, false, false, false, false, false, false, false, false, false, false, false, false, false] rfl rfl (by kernel_rfl) (fun _ _ _ h => h) (Or.inl ⟨by rfl, ?_⟩) ?_ ?_
      rotate_left
      · intro w'
        go_simp
        with_reducible rfl
      rotate_left
      · simp only [Act.put, List.setIfInBounds_toArray, List.set_cons_zero, List.set_cons_succ, i64_w, i32_w]
        rfl
      refine take_ (i := 8) (N := some 43) (v := ?_) (a' := ?_) #[false, true, true, true, true, true, true, true, true, false, false, false, false, false, false, false, false, false, false, false, false] rfl rfl (by kernel_rfl) (fun _ _ _ h => h) (Or.inl ⟨by rfl, ?_⟩) hHeld ?_ ?_
      rotate_left
      · rintro w' ⟨s0, s1⟩
        go_simp
        with_reducible rfl
      rotate_left
      · simp only [Act.put, List.setIfInBounds_toArray, List.set_cons_zero, List.set_cons_succ, i64_w, i32_w]
        rfl
      refine pure_ (i := 9) (N := some 44) (v := ?_) (a' := ?_) #[false, true, true, true, true, true, true, true, true, true, false, false, false, false, false, false, false, false, false, false, false] rfl rfl (by kernel_rfl) (fun _ _ _ h => h) (Or.inl ⟨by rfl, ?_⟩) ?_ ?_
      rotate_left
      · intro w'
        go_simp
        with_reducible rfl
      rotate_left
      · simp only [Act.put, List.setIfInBounds_toArray, List.set_cons_zero, List.set_cons_succ, i64_w, i32_w]
        rfl
      refine pure_ (i := 10) (N := some 45) (v := ?_) (a' := ?_) #[false, true, true, true, true, true, true, true, true, true, true, false, false, false, false, false, false, false, false, false, false] rfl rfl (by kernel_rfl) (fun _ _ _ h => h) (Or.inl ⟨by rfl, ?_⟩) ?_ ?_
      rotate_left
      · intro w'
        go_simp
        with_reducible rfl
      rotate_left
      · simp only [Act.put, List.setIfInBounds_toArray, List.set_cons_zero, List.set_cons_succ, i64_w, i32_w]
        rfl
      refine pure_ (i := 11) (N := some 46) (v := ?_) (a' := ?_) #[false, true, true, true, true, true, true, true, true, true, true, true, false, false, false, false, false, false, false, false, false] rfl rfl (by kernel_rfl) (fun _ _ _ h => h) (Or.inl ⟨by rfl, ?_⟩) ?_ ?_
      rotate_left
      · intro w'
        go_simp
        with_reducible rfl
      rotate_left
      · simp only [Act.put, List.setIfInBounds_toArray, List.set_cons_zero, List.set_cons_succ, i64_w, i32_w]
        rfl
      refine pure_ (i := 12) (N := some 47) (v := ?_) (a' := ?_) #[false, true, true, true, true, true, true, true, true, true, true, true, true, false, false, false, false, false, false, false, false] rfl rfl (by kernel_rfl) (fun _ _ _ h => h) (Or.inl ⟨by rfl, ?_⟩) ?_ ?_
      rotate_left
      · intro w'
        go_simp
        with_reducible rfl
      rotate_left
      · simp only [Act.put, List.setIfInBounds_toArray, List.set_cons_zero, List.set_cons_succ, i64_w, i32_w]
        rfl
      refine take_ (i := 13) (N := some 48) (v := ?_) (a' := ?_) #[false, true, true, true, true, true, true, true, true, true, true, true, true, true, false, false, false, false, false, false, false] rfl rfl (by kernel_rfl) (fun _ _ _ h => h) (Or.inl ⟨by rfl, ?_⟩) hHeld ?_ ?_
      rotate_left
      · rintro w' ⟨s0, s1⟩
        go_simp
        with_reducible rfl
      rotate_left
      · simp only [Act.put, List.setIfInBounds_toArray, List.set_cons_zero, List.set_cons_succ, i64_w, i32_w]
        rfl
      refine pure_ (i := 14) (N := some 49) (v := ?_) (a' := ?_) #[false, true, true, true, true, true, true, true, true, true, true, true, true, true, true, false, false, false, false, false, false] rfl rfl (by kernel_rfl) (fun _ _ _ h => h) (Or.inl ⟨by rfl, ?_⟩) ?_ ?_
      rotate_left
      · intro w'
        go_simp
        with_reducible rfl
      rotate_left
      · simp only [Act.put, List.setIfInBounds_toArray, List.set_cons_zero, List.set_cons_succ, i64_w, i32_w]
        rfl
      refine pure_ (i := 15) (N := some 50) (v := ?_) (a' := ?_) #[false, true, true, true, true, true, true, true, true, true, true, true, true, true, true, true, false, false, false, false, false] rfl rfl (by kernel_rfl) (fun _ _ _ h => h) (Or.inl ⟨by rfl, ?_⟩) ?_ ?_
      rotate_left
      · intro w'
        go_simp
        with_reducible rfl
      rotate_left
      · simp only [Act.put, List.setIfInBounds_toArray, List.set_cons_zero, List.set_cons_succ, i64_w, i32_w]
        rfl
      refine pure_ (i := 16) (N := some 51) (v := ?_) (a' := ?_) #[false, true, true, true, true, true, true, true, true, true, true, true, true, true, true, true, true, false, false, false, false] rfl rfl (by kernel_rfl) (fun _ _ _ h => h) (Or.inl ⟨by rfl, ?_⟩) ?_ ?_
      rotate_left
      · intro w'
        go_simp
        with_reducible rfl
      rotate_left
      · simp only [Act.put, List.setIfInBounds_toArray, List.set_cons_zero, List.set_cons_succ, i64_w, i32_w]
        rfl
      refine pure_ (i := 17) (N := some 52) (v := ?_) (a' := ?_) #[false, true, true, true, true, true, true, true, true, true, true, true, true, true, true, true, true, true, false, false, false] rfl rfl (by kernel_rfl) (fun _ _ _ h => h) (Or.inl ⟨by rfl, ?_⟩) ?_ ?_
      rotate_left
      · intro w'
        go_simp
        with_reducible rfl
      rotate_left
      · simp only [Act.put, List.setIfInBounds_toArray, List.set_cons_zero, List.set_cons_succ, i64_w, i32_w]
        rfl
      have hma : ((b.length : Nat) : Int) ≤ 140737488355328 := by omega
      have r44 : wrap64 ((a : Int) + 5) = ((a + 5 : Nat) : Int) := wr64 a 5 (by have := HM.out; omega)
      have r51 : wrap64 (m : Int) = (m : Int) := by unfold wrap64; omega
      have r52 : wrap64 (((a + 5 : Nat) : Int) + (m : Int)) = ((a + 5 + m : Nat) : Int) := wr64 (a + 5) m (by have := HM.out; omega)
      obtain ⟨lo, hlo⟩ : ∃ x : Int, ((a + 5 : Nat) : Int) = x := ⟨_, rfl⟩
      obtain ⟨hi, hhi⟩ : ∃ x : Int, ((a + 5 + m : Nat) : Int) = x := ⟨_, rfl⟩
      rw [hlo] at r44 r52
      rw [hhi] at r52
      simp only [r44, r51, r52]
      obtain ⟨ii, hii, hsz⟩ := infoU8i
      have hcutD := cut_mid (P := Try.prog) 22 5 .i64 .i64 Try.underlying22 hii 1 hsz A b.length c ((a + 5 : Nat) : Int) ((a + 5 + m : Nat) : Int) (by omega) (by omega) (by have := HM.out; omega) hcl
      rw [Int.toNat_natCast, Int.toNat_natCast, Nat.mul_one, hlo, hhi] at hcutD
      clear hlo hhi
      obtain ⟨AX, hAX⟩ : ∃ X, (if c = a + 5 then A else A.map (·.add (a + 5))) = X := ⟨_, rfl⟩
      obtain ⟨cX, hcX⟩ : ∃ X, c - (a + 5) = X := ⟨_, rfl⟩
      rw [hAX, hcX, show a + 5 + m - (a + 5) = m by omega] at hcutD
      have hC0 := Kd.C_mid (lo := a + 5) (hi := a + 5 + m) K3.out (by omega) HM.out hcl
      rw [show (a + 5) * (Kd.int .u8).sz = a + 5 from Nat.mul_one _, hAX] at hC0
      have hys : (b.take (a + 5 + m)).drop (a + 5) = (l.drop 5).take m := by rw [EA.out, List.drop_take, Nat.add_sub_cancel_left, List.drop_drop]
      have hyl : ((l.drop 5).take m).length = m := by rw [List.length_take, List.length_drop, HLL.out]; have := HM.out; omega
      rw [hys, hyl] at hC0
      have hC0' : Kd.C (Kd.int .u8) w0 AX ((l.drop 5).take m).length ((l.drop 5).take m) := by rw [hyl]; exact hC0
      have hC1 : Kd.C (Kd.int .u8) w AX ((l.drop 5).take m).length ((l.drop 5).take m) := by rw [hyl]; exact Kd.C_below hC0 hB
      have hfar : 0 < ((l.drop 5).take m).length → ∀ ad, AX = some ad → ad.block ≠ g := fun h0 ad hA => C_far hC0' h0 ad hA K2.out.1
      have hC2 := C_wr' hC1 HW.out hfar
      rw [hyl] at hC2
      have HYL := Aside0.mk hyl
      clear hC0 hC0' hC1 hys hyl r44 r51 r52 hAX hcX hii hsz hma
      have HC2 := Aside0.mk hC2
      have HCD := Aside0.mk hcutD
      clear hC2 hcutD
      refine pure_ (i := 18) (N := some 53) (v := .slice AX m cX) (a' := ?_) #[false, true, true, true, true, true, true, true, true, true, true, true, true, true, true, true, true, true, true, false, false] rfl rfl (by kernel_rfl) (fun _ _ _ h => h) (Or.inl ⟨by rfl, ?_⟩) ?_ ?_
      · intro w'
        have hcut_ := HCD.out w'
        go_simp
        try (with_reducible rfl)
      rotate_left
      · simp only [Act.put, List.setIfInBounds_toArray, List.set_cons_zero, List.set_cons_succ, i64_w, i32_w]
        rfl
      have hbl_ : Below wd.heap.size wd wd := Below.refl _ _
      refine one_ (i := 0) (N := some 35) #[true, true, true, true, true, true, true, true, true, true, true, true, true, true, true, true, true, true, true, false, false] rfl rfl (by kernel_rfl) (by decide) (fun K hK => ?_)
      refine Kd.R_lit_step (Kd.int .u8) (w0 := wd) wd.heap.size 5 (by rfl) (N := 35) rfl (xs := ([] : List Int)) (inner := []) (ok := fun _ => True) (okp := fun _ => True) ?hr (Reps.none _ _) (fun _ hk => hk) trivial hbl_ (Nat.le_refl _) (by simp) ?_
      case hr => first | (go_simp; done) | (go_simp; rfl)
      intro v35 we ho hb hg_ hnew_
      clear hg_ hnew_ hbl_
      refine hK.out _ _ ⟨(hb.cell (World.block_lt_of_cell? wd _ hHeld.1)).trans hHeld.1, (hb.cell (World.block_lt_of_cell? wd _ hHeld.2)).trans hHeld.2⟩ (fun hHeld2 => ?_)
      clear hK K
      have RO := Aside0.mk ho
      have HBe := Aside0.mk hb
      have K1e := Aside0.mk (blk_below K1.out hb)
      have HCe := Aside0.mk (Kd.C_below HC2.out hb)
      have HGW := Aside0.mk (blk_lt K1.out)
      clear ho hb hHeld HC2
      refine norm_ (a' := ?_) ?_ ?_
      rotate_left
      · show Act.put _ (some 35) _ = _
        simp only [Act.put, List.setIfInBounds_toArray, List.set_cons_zero, List.set_cons_succ, i64_w, i32_w]
        rfl
      refine last_ (i := 19) (N := some 54) #[true, true, true, true, true, true, true, true, true, true, true, true, true, true, true, true, true, true, true, true, false] rfl rfl (by kernel_rfl) (by decide) (fun K hK => ?_)
      refine Kd.R_append_rows_step (Kd.int .u8) (w0 := wd) wd.heap.size (by rfl) (.tmp 35) (.tmp 53) 22 5 (.int .u8 0) 1 rfl Try.underlying22 infoU8c rfl (by decide) (by omega) _ [] ((l.drop 5).take m) _ _ _ (fun _ => True) (fun _ => False) rfl rfl RO.out HCe.out (fun _ _ h => h) (fun _ h => h.elim) (fun _ _ => trivial) HBe.out HBe.out.size (by have := HM.out; simp only [List.length_nil]; omega) ?_
      intro v54 wf ho hb hg hat
      rw [List.nil_append] at ho
      refine hK.out _ _ ?_
      clear hK K
      have RF := Aside0.mk ho
      have HBf := Aside0.mk hb
      have K1f := Aside0.mk (blk_below K1.out hb)
      clear ho hb hg hat RO HBe HCe K1e hHeld2
      refine norm_ (a' := ?_) ?_ ?_
      rotate_left
      · show Act.put _ (some 54) _ = _
        simp only [Act.put, List.setIfInBounds_toArray, List.set_cons_zero, List.set_cons_succ, i64_w, i32_w]
        rfl
      refine last_ (i := 20) (N := some 7) #[true, true, true, true, true, true, true, true, true, true, true, true, true, true, true, true, true, true, true, true, true] rfl rfl (by kernel_rfl) (by decide) (fun K hK => ?_)
      refine value_ (w1 := ?_) (v := ?_) (by rfl) rfl ?_ ?_
      rotate_left 2
      · go_simp
        constructor
        · rfl
        · rfl
      refine hK.out _ _ ?_
      clear hK K
      refine norm_ (a' := ?_) ?_ ?_
      rotate_left
      · show Act.put _ (some 7) _ = _
        simp only [Act.put, List.setIfInBounds_toArray, List.set_cons_zero, List.set_cons_succ, i64_w, i32_w]
        rfl
      refine done_ (by kernel_rfl) ?_
      have d1 := blk_cell K1f.out 1
      replace d1 : wf.cell? ⟨g, 1, none⟩ = some (.int .i64 (a : Int)) := d1
      have fr1 := blk_frozen K1f.out 1
      have hmI : (a : Int) + 5 + (m : Int) ≤ 140737488355328 := by have := HM.out; omega
      have ha0 : (0 : Int) ≤ (a : Int) := by omega
      go_wp2
      go_ret
      refine ⟨_, rfl, Kd.R_lower (R_offg RF.out HGW.out 1 _) HW.out.size, ⟨a + (5 + m), by have := HM.out; omega, by rw [EA.out, List.drop_drop], A, c, blk_put (cs' := #[.slice A b.length c, .int .i64 ((a + (5 + m) : Nat) : Int), .bool false]) K1f.out 1 _ (by rw [show (a : Int) + 5 + (m : Int) = ((a + (5 + m) : Nat) : Int) by omega]; rfl), K2.out, K3.out⟩, ((HW.out.trans (Wr.of_below HBf.out g) HW.out.size).setCell 1 _)⟩
set_option maxHeartbeats 4000000 in
theorem xtext_any (w0 : World) (g : Nat) (w : World) (b l : List Int) (bad : Bool) (h : IsX w0 g w b l bad) (hB : Below w0.heap.size w0 w) (ho : okL b) :
    Calls Try.prog 62 #[.pointer (some ⟨g, 0, none⟩)] w fun e w' => e = .returned (.string (strOfNums (someS l bad 115).1)) ∧ IsX w0 g w' b (someS l bad 115).2.1 (someS l bad 115).2.2 ∧ Wr w.heap.size g w w' := by
  have HH := Aside0.mk (xsome_any w0 g w b l bad 115 h hB ho)
  clear h ho hB
  obtain ⟨r, hr⟩ : ∃ r, someS l bad 115 = r := ⟨_, rfl⟩
  rw [hr] at HH ⊢
  clear hr
  obtain ⟨x, y, z⟩ := r
  go_enter Try.func62, Try.ntmps62
  go_wp2_with (go_at_call 137; (with_reducible refine HH.out.mono ?_); rintro e w1 ⟨v, rfl, hr, hi, hW⟩; obtain ⟨A, c, rfl, _, hC⟩ := Kd.R_reads hr; have hcv := Kd.C_string (P := Try.prog) (src := 22) (dst := 9) (c := c) Try.underlying22 Try.underlying5 Try.underlying9 hC; have HI := Aside0.mk hi; have HW := Aside0.mk hW; clear hr hi hW hC)
  go_ret
  exact ⟨rfl, HI.out, HW.out⟩
end Go.Proofs.Ytlnpmodhejakiaa.D
