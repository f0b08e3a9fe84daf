/- steleref19.small, done, ReadBucket, ReadVersion, ReadUpload, ReadClock by hand. -/
import Derived.Test.YtlnpmodhejakiaaYRecP
import Derived.Test.YtlnpmodhejakiaaYRecH
import Derived.Test.YtlnpmodhejakiaaYCanE
import Derived.Test.YtlnpmodhejakiaaYRdC
namespace Go.Proofs.Ytlnpmodhejakiaa.RW
open Go.RowKit Go.Proofs.YtlnpmodhejakiaaW.PrintWords Go.Proofs.YtlnpmodhejakiaaW.PrintLast Go.Proofs.YtlnpmodhejakiaaW.PrintMore Go.Proofs.Ytlnpmodhejakiaa.Sha Go.Proofs.Ytlnpmodhejakiaa.D Go.Proofs.Ytlnpmodhejakiaa.PC Go.Proofs.Ytlnpmodhejakiaa.CP
set_option linter.unusedVariables false
set_option linter.unusedSimpArgs false
theorem IsX.wrr {w0 : World} {gx g : Nat} {w w' : World} {b l : List Int} {bad : Bool} (h : IsX w0 gx w b l bad) (hW : Wr w.heap.size g w w') (hne : gx ≠ g) : IsX w0 gx w' b l bad := by
  obtain ⟨a, ha, hl, A, c, h1, h2, h3⟩ := h
  exact ⟨a, ha, hl, A, c, hW.blk h1 (blk_lt h1) hne, h2, h3⟩
theorem IsX.beloww {w0 : World} {gx : Nat} {w w' : World} {b l : List Int} {bad : Bool} (h : IsX w0 gx w b l bad) (hb : Below w.heap.size w w') : IsX w0 gx w' b l bad := by
  obtain ⟨a, ha, hl, A, c, h1, h2, h3⟩ := h
  exact ⟨a, ha, hl, A, c, blk_below h1 hb, h2, h3⟩
theorem IsX.ltt {w0 : World} {gx : Nat} {w : World} {b l : List Int} {bad : Bool} (h : IsX w0 gx w b l bad) : gx < w.heap.size := by
  obtain ⟨a, ha, hl, A, c, h1, h2, h3⟩ := h
  exact blk_lt h1
theorem IsX.spoil {w0 : World} {g : Nat} {w : World} {b l : List Int} {bad : Bool} (h : IsX w0 g w b l bad) : IsX w0 g (w.setCell ⟨g, 2, none⟩ (.bool true)) b l true := by
  obtain ⟨a, ha, hl, A, c, h1, h2, h3⟩ := h
  exact ⟨a, ha, hl, A, c, blk_put h1 2 _ rfl, h2, h3⟩
theorem IsX.okl {w0 : World} {g : Nat} {w : World} {b l : List Int} {bad : Bool} (h : IsX w0 g w b l bad) (hb : okL b) : okL l := by
  obtain ⟨a, ha, hl, _⟩ := h
  rw [hl]
  exact okL_drop hb _
set_option maxHeartbeats 8000000 in
set_option maxRecDepth 100000 in
theorem xsmall_any (w0 : World) (g : Nat) (w : World) (b l : List Int) (bad : Bool) (h : IsX w0 g w b l bad) (hB : Below w0.heap.size w0 w) (hb : okL b) :
    Calls Try.prog 154 #[.pointer (some ⟨g, 0, none⟩)] w fun e w' => e = .returned (.int .i64 (smallS l bad).1) ∧ IsX w0 g w' b (smallS l bad).2.1 (smallS l bad).2.2 ∧ Wr w.heap.size g w w' := by
  have UC := Aside0.mk (xuint_any w0 g w b l bad h hB hb)
  have OK := IsX.okl h hb
  obtain ⟨⟨n, l', q⟩, hu⟩ : ∃ r, uintS l bad = r := ⟨_, rfl⟩
  have hn := (u_ok hu OK).2
  unfold smallS
  rw [hu] at UC ⊢
  clear hu OK h hB hb
  by_cases hm : 2147483647 < n
  · rw [if_pos hm]
    have d0 : decide (2147483647 < n) = true := decide_eq_true hm
    go_enter Try.func154, Try.ntmps154
    go_wp2_with (go_at_call 58; (with_reducible refine (UC.out).mono ?_); rintro e w4 ⟨rfl, hi, hw⟩; have HI := Aside0.mk hi; have HW := Aside0.mk hw; (obtain ⟨a, ha, hl, Ar, cr, h1, h2, h3⟩ := hi); have hz2 := (blk_cell h1 2).trans (show _ = some (Value.bool _) from rfl); have fz2 := blk_frozen h1 2; clear ha hl h1 h2 h3 hw)
    go_ret
    exact ⟨rfl, IsX.spoil HI.out, HW.out.setCell 2 _⟩
  · rw [if_neg hm]
    have d0 : decide (2147483647 < n) = false := decide_eq_false hm
    have w1 : IntKind.i64.wrap n = n := IntWalk.i64_in _ (by omega)
    go_enter Try.func154, Try.ntmps154
    go_wp2_with (go_at_call 58; (with_reducible refine (UC.out).mono ?_); rintro e w4 ⟨rfl, hi, hw⟩; have HI := Aside0.mk hi; have HW := Aside0.mk hw; clear hi hw)
    go_ret
    exact ⟨rfl, HI.out, HW.out⟩
set_option maxHeartbeats 8000000 in
set_option maxRecDepth 100000 in
theorem xdone_any (w0 : World) (g : Nat) (w : World) (b l : List Int) (bad : Bool) (h : IsX w0 g w b l bad) (r : Bool) (hr : r = (!bad && decide (l = []))) :
    Calls Try.prog 155 #[.pointer (some ⟨g, 0, none⟩)] w fun e w' => e = .returned (.bool r) ∧ Below w.heap.size w w' := by
  subst hr
  obtain ⟨at_, hat, hl, Ar, cr, h1, h2, h3⟩ := h
  have BG := Aside0.mk h1
  have hlen : l.length = b.length - at_ := by rw [hl, List.length_drop]
  clear h1 h2 h3 hl
  cases bad with
  | true =>
    clear hlen hat
    go_enter Try.func155, Try.ntmps155
    go_upto_region 1 with (fail)
    (try simp only [Act.put, List.setIfInBounds_toArray, List.set_cons_zero, List.set_cons_succ])
    refine start_ (n := 18) (S := fun w' => w'.cell? ⟨g, 0, none⟩ = some (.slice Ar b.length cr) ∧ w'.cell? ⟨g, 1, none⟩ = some (.int .i64 (at_ : Int)) ∧ w'.cell? ⟨g, 2, none⟩ = some (.bool true)) (ds := []) #[false, false, false, false, false, false, false, false, false, false, false, false, false, false, false, false, false, false] (by kernel_rfl) rfl rfl ⟨(blk_cell (blk_drew BG.out) 0).trans rfl, (blk_cell (blk_drew BG.out) 1).trans rfl, (blk_cell (blk_drew BG.out) 2).trans rfl⟩ (fun hHeld => ?_)
    refine pure_ (i := 0) (N := some 3) (v := ?_) (a' := ?_) #[true, false, false, false, false, false, false, false, false, false, false, false, false, false, false, false, false, false] rfl rfl (by kernel_rfl) (fun _ _ _ h => h) (Or.inl ⟨by rfl, ?_⟩) ?_ ?_
    rotate_left
    · intro w'
      go_simp
      with_reducible rfl
    rotate_left
    · simp only [Act.put, List.setIfInBounds_toArray, List.set_cons_zero, List.set_cons_succ, i64_w, i32_w]
      rfl
    refine pure_ (i := 1) (N := some 4) (v := ?_) (a' := ?_) #[true, true, false, false, false, false, false, false, false, false, false, false, false, false, false, false, false, false] rfl rfl (by kernel_rfl) (fun _ _ _ h => h) (Or.inl ⟨by rfl, ?_⟩) ?_ ?_
    rotate_left
    · intro w'
      go_simp
      with_reducible rfl
    rotate_left
    · simp only [Act.put, List.setIfInBounds_toArray, List.set_cons_zero, List.set_cons_succ, i64_w, i32_w]
      rfl
    refine pure_ (i := 2) (N := some 5) (v := ?_) (a' := ?_) #[true, true, true, false, false, false, false, false, false, false, false, false, false, false, false, false, false, false] rfl rfl (by kernel_rfl) (fun _ _ _ h => h) (Or.inl ⟨by rfl, ?_⟩) ?_ ?_
    rotate_left
    · intro w'
      go_simp
      with_reducible rfl
    rotate_left
    · simp only [Act.put, List.setIfInBounds_toArray, List.set_cons_zero, List.set_cons_succ, i64_w, i32_w]
      rfl
    refine take_ (i := 3) (N := some 6) (v := ?_) (a' := ?_) #[true, true, true, true, false, false, false, false, false, false, false, false, false, false, false, false, false, false] rfl rfl (by kernel_rfl) (fun _ _ _ h => h) (Or.inl ⟨by rfl, ?_⟩) hHeld ?_ ?_
    rotate_left
    · rintro w' ⟨s0, s1, s2⟩
      go_simp
      with_reducible rfl
    rotate_left
    · simp only [Act.put, List.setIfInBounds_toArray, List.set_cons_zero, List.set_cons_succ, i64_w, i32_w]
      rfl
    refine pure_ (i := 4) (N := some 7) (v := ?_) (a' := ?_) #[true, true, true, true, true, false, false, false, false, false, false, false, false, false, false, false, false, false] rfl rfl (by kernel_rfl) (fun _ _ _ h => h) (Or.inl ⟨by rfl, ?_⟩) ?_ ?_
    rotate_left
    · intro w'
      go_simp
      with_reducible rfl
    rotate_left
    · simp only [Act.put, List.setIfInBounds_toArray, List.set_cons_zero, List.set_cons_succ, i64_w, i32_w]
      rfl
    refine pure_ (i := 5) (N := some 8) (v := ?_) (a' := ?_) #[true, true, true, true, true, true, false, false, false, false, false, false, false, false, false, false, false, false] rfl rfl (by kernel_rfl) (fun _ _ _ h => h) (Or.inl ⟨by rfl, ?_⟩) ?_ ?_
    rotate_left
    · intro w'
      go_simp
      with_reducible rfl
    rotate_left
    · simp only [Act.put, List.setIfInBounds_toArray, List.set_cons_zero, List.set_cons_succ, i64_w, i32_w]
      rfl
    refine pure_ (i := 6) (N := some 9) (v := undef) (a' := ?_) #[true, true, true, true, true, true, true, false, false, false, false, false, false, false, false, false, false, false] rfl rfl (by kernel_rfl) (fun _ _ _ h => h) (Or.inr ⟨by rfl, rfl⟩) ?_ ?_
    rotate_left
    · simp only [Act.put, List.setIfInBounds_toArray, List.set_cons_zero, List.set_cons_succ, i64_w, i32_w]
      rfl
    refine pure_ (i := 7) (N := some 10) (v := undef) (a' := ?_) #[true, true, true, true, true, true, true, true, false, false, false, false, false, false, false, false, false, false] rfl rfl (by kernel_rfl) (fun _ _ _ h => h) (Or.inr ⟨by rfl, rfl⟩) ?_ ?_
    rotate_left
    · simp only [Act.put, List.setIfInBounds_toArray, List.set_cons_zero, List.set_cons_succ, i64_w, i32_w]
      rfl
    refine pure_ (i := 8) (N := some 11) (v := undef) (a' := ?_) #[true, true, true, true, true, true, true, true, true, false, false, false, false, false, false, false, false, false] rfl rfl (by kernel_rfl) (fun _ _ _ h => h) (Or.inr ⟨by rfl, rfl⟩) ?_ ?_
    rotate_left
    · simp only [Act.put, List.setIfInBounds_toArray, List.set_cons_zero, List.set_cons_succ, i64_w, i32_w]
      rfl
    refine pure_ (i := 9) (N := some 12) (v := undef) (a' := ?_) #[true, true, true, true, true, true, true, true, true, true, false, false, false, false, false, false, false, false] rfl rfl (by kernel_rfl) (fun _ _ _ h => h) (Or.inr ⟨by rfl, rfl⟩) ?_ ?_
    rotate_left
    · simp only [Act.put, List.setIfInBounds_toArray, List.set_cons_zero, List.set_cons_succ, i64_w, i32_w]
      rfl
    refine pure_ (i := 10) (N := some 13) (v := undef) (a' := ?_) #[true, true, true, true, true, true, true, true, true, true, true, false, false, false, false, false, false, false] rfl rfl (by kernel_rfl) (fun _ _ _ h => h) (Or.inr ⟨by rfl, rfl⟩) ?_ ?_
    rotate_left
    · simp only [Act.put, List.setIfInBounds_toArray, List.set_cons_zero, List.set_cons_succ, i64_w, i32_w]
      rfl
    refine pure_ (i := 11) (N := some 14) (v := undef) (a' := ?_) #[true, true, true, true, true, true, true, true, true, true, true, true, false, false, false, false, false, false] rfl rfl (by kernel_rfl) (fun _ _ _ h => h) (Or.inr ⟨by rfl, rfl⟩) ?_ ?_
    rotate_left
    · simp only [Act.put, List.setIfInBounds_toArray, List.set_cons_zero, List.set_cons_succ, i64_w, i32_w]
      rfl
    refine pure_ (i := 12) (N := some 15) (v := undef) (a' := ?_) #[true, true, true, true, true, true, true, true, true, true, true, true, true, false, false, false, false, false] rfl rfl (by kernel_rfl) (fun _ _ _ h => h) (Or.inr ⟨by rfl, rfl⟩) ?_ ?_
    rotate_left
    · simp only [Act.put, List.setIfInBounds_toArray, List.set_cons_zero, List.set_cons_succ, i64_w, i32_w]
      rfl
    refine pure_ (i := 13) (N := some 16) (v := undef) (a' := ?_) #[true, true, true, true, true, true, true, true, true, true, true, true, true, true, false, false, false, false] rfl rfl (by kernel_rfl) (fun _ _ _ h => h) (Or.inr ⟨by rfl, rfl⟩) ?_ ?_
    rotate_left
    · simp only [Act.put, List.setIfInBounds_toArray, List.set_cons_zero, List.set_cons_succ, i64_w, i32_w]
      rfl
    refine pure_ (i := 14) (N := some 17) (v := undef) (a' := ?_) #[true, true, true, true, true, true, true, true, true, true, true, true, true, true, true, false, false, false] rfl rfl (by kernel_rfl) (fun _ _ _ h => h) (Or.inr ⟨by rfl, rfl⟩) ?_ ?_
    rotate_left
    · simp only [Act.put, List.setIfInBounds_toArray, List.set_cons_zero, List.set_cons_succ, i64_w, i32_w]
      rfl
    refine pure_ (i := 15) (N := some 18) (v := undef) (a' := ?_) #[true, true, true, true, true, true, true, true, true, true, true, true, true, true, true, true, false, false] rfl rfl (by kernel_rfl) (fun _ _ _ h => h) (Or.inr ⟨by rfl, rfl⟩) ?_ ?_
    rotate_left
    · simp only [Act.put, List.setIfInBounds_toArray, List.set_cons_zero, List.set_cons_succ, i64_w, i32_w]
      rfl
    refine pure_ (i := 16) (N := some 19) (v := ?_) (a' := ?_) #[true, true, true, true, true, true, true, true, true, true, true, true, true, true, true, true, true, false] rfl rfl (by kernel_rfl) (fun _ _ _ h => h) (Or.inl ⟨by rfl, ?_⟩) ?_ ?_
    rotate_left
    · intro w'
      go_simp
      with_reducible rfl
    rotate_left
    · simp only [Act.put, List.setIfInBounds_toArray, List.set_cons_zero, List.set_cons_succ, i64_w, i32_w]
      rfl
    refine pure_ (i := 17) (N := some 2) (v := ?_) (a' := ?_) #[true, true, true, true, true, true, true, true, true, true, true, true, true, true, true, true, true, true] rfl rfl (by kernel_rfl) (fun _ _ _ h => h) (Or.inl ⟨by rfl, ?_⟩) ?_ ?_
    rotate_left
    · intro w'
      go_simp
      with_reducible rfl
    rotate_left
    · simp only [Act.put, List.setIfInBounds_toArray, List.set_cons_zero, List.set_cons_succ, i64_w, i32_w]
      rfl
    refine done_ (by kernel_rfl) ?_
    go_wp2
    go_ret
    exact ⟨rfl, below_drew1 (Below.refl _ _)⟩
  | false =>
    by_cases hl : l = []
    · have d1 : ((at_ : Int) == (b.length : Int)) = true := beq_iff_eq.2 (by rw [hl] at hlen; simp at hlen; omega)
      have d2 : (at_ == b.length) = true := beq_iff_eq.2 (by rw [hl] at hlen; simp at hlen; omega)
      rw [decide_eq_true hl]
      clear hlen hat
      go_enter Try.func155, Try.ntmps155
      go_upto_region 1 with (fail)
      (try simp only [Act.put, List.setIfInBounds_toArray, List.set_cons_zero, List.set_cons_succ])
      refine start_ (n := 18) (S := fun w' => w'.cell? ⟨g, 0, none⟩ = some (.slice Ar b.length cr) ∧ w'.cell? ⟨g, 1, none⟩ = some (.int .i64 (at_ : Int)) ∧ w'.cell? ⟨g, 2, none⟩ = some (.bool false)) (ds := []) #[false, false, false, false, false, false, false, false, false, false, false, false, false, false, false, false, false, false] (by kernel_rfl) rfl rfl ⟨(blk_cell (blk_drew BG.out) 0).trans rfl, (blk_cell (blk_drew BG.out) 1).trans rfl, (blk_cell (blk_drew BG.out) 2).trans rfl⟩ (fun hHeld => ?_)
      refine pure_ (i := 0) (N := some 3) (v := ?_) (a' := ?_) #[true, false, false, false, false, false, false, false, false, false, false, false, false, false, false, false, false, false] rfl rfl (by kernel_rfl) (fun _ _ _ h => h) (Or.inl ⟨by rfl, ?_⟩) ?_ ?_
      rotate_left
      · intro w'
        go_simp
        with_reducible rfl
      rotate_left
      · simp only [Act.put, List.setIfInBounds_toArray, List.set_cons_zero, List.set_cons_succ, i64_w, i32_w]
        rfl
      refine pure_ (i := 1) (N := some 4) (v := ?_) (a' := ?_) #[true, true, false, false, false, false, false, false, false, false, false, false, false, false, false, false, false, false] rfl rfl (by kernel_rfl) (fun _ _ _ h => h) (Or.inl ⟨by rfl, ?_⟩) ?_ ?_
      rotate_left
      · intro w'
        go_simp
        with_reducible rfl
      rotate_left
      · simp only [Act.put, List.setIfInBounds_toArray, List.set_cons_zero, List.set_cons_succ, i64_w, i32_w]
        rfl
      refine pure_ (i := 2) (N := some 5) (v := ?_) (a' := ?_) #[true, true, true, false, false, false, false, false, false, false, false, false, false, false, false, false, false, false] rfl rfl (by kernel_rfl) (fun _ _ _ h => h) (Or.inl ⟨by rfl, ?_⟩) ?_ ?_
      rotate_left
      · intro w'
        go_simp
        with_reducible rfl
      rotate_left
      · simp only [Act.put, List.setIfInBounds_toArray, List.set_cons_zero, List.set_cons_succ, i64_w, i32_w]
        rfl
      refine take_ (i := 3) (N := some 6) (v := ?_) (a' := ?_) #[true, true, true, true, false, false, false, false, false, false, false, false, false, false, false, false, false, false] rfl rfl (by kernel_rfl) (fun _ _ _ h => h) (Or.inl ⟨by rfl, ?_⟩) hHeld ?_ ?_
      rotate_left
      · rintro w' ⟨s0, s1, s2⟩
        go_simp
        with_reducible rfl
      rotate_left
      · simp only [Act.put, List.setIfInBounds_toArray, List.set_cons_zero, List.set_cons_succ, i64_w, i32_w]
        rfl
      refine pure_ (i := 4) (N := some 7) (v := ?_) (a' := ?_) #[true, true, true, true, true, false, false, false, false, false, false, false, false, false, false, false, false, false] rfl rfl (by kernel_rfl) (fun _ _ _ h => h) (Or.inl ⟨by rfl, ?_⟩) ?_ ?_
      rotate_left
      · intro w'
        go_simp
        with_reducible rfl
      rotate_left
      · simp only [Act.put, List.setIfInBounds_toArray, List.set_cons_zero, List.set_cons_succ, i64_w, i32_w]
        rfl
      refine pure_ (i := 5) (N := some 8) (v := ?_) (a' := ?_) #[true, true, true, true, true, true, false, false, false, false, false, false, false, false, false, false, false, false] rfl rfl (by kernel_rfl) (fun _ _ _ h => h) (Or.inl ⟨by rfl, ?_⟩) ?_ ?_
      rotate_left
      · intro w'
        go_simp
        with_reducible rfl
      rotate_left
      · simp only [Act.put, List.setIfInBounds_toArray, List.set_cons_zero, List.set_cons_succ, i64_w, i32_w]
        rfl
      refine pure_ (i := 6) (N := some 9) (v := ?_) (a' := ?_) #[true, true, true, true, true, true, true, false, false, false, false, false, false, false, false, false, false, false] rfl rfl (by kernel_rfl) (fun _ _ _ h => h) (Or.inl ⟨by rfl, ?_⟩) ?_ ?_
      rotate_left
      · intro w'
        go_simp
        with_reducible rfl
      rotate_left
      · simp only [Act.put, List.setIfInBounds_toArray, List.set_cons_zero, List.set_cons_succ, i64_w, i32_w]
        rfl
      refine pure_ (i := 7) (N := some 10) (v := ?_) (a' := ?_) #[true, true, true, true, true, true, true, true, false, false, false, false, false, false, false, false, false, false] rfl rfl (by kernel_rfl) (fun _ _ _ h => h) (Or.inl ⟨by rfl, ?_⟩) ?_ ?_
      rotate_left
      · intro w'
        go_simp
        with_reducible rfl
      rotate_left
      · simp only [Act.put, List.setIfInBounds_toArray, List.set_cons_zero, List.set_cons_succ, i64_w, i32_w]
        rfl
      refine pure_ (i := 8) (N := some 11) (v := ?_) (a' := ?_) #[true, true, true, true, true, true, true, true, true, false, false, false, false, false, false, false, false, false] rfl rfl (by kernel_rfl) (fun _ _ _ h => h) (Or.inl ⟨by rfl, ?_⟩) ?_ ?_
      rotate_left
      · intro w'
        go_simp
        with_reducible rfl
      rotate_left
      · simp only [Act.put, List.setIfInBounds_toArray, List.set_cons_zero, List.set_cons_succ, i64_w, i32_w]
        rfl
      refine pure_ (i := 10) (N := some 13) (v := ?_) (a' := ?_) #[true, true, true, true, true, true, true, true, true, false, true, false, false, false, false, false, false, false] rfl rfl (by kernel_rfl) (fun _ _ _ h => h) (Or.inl ⟨by rfl, ?_⟩) ?_ ?_
      rotate_left
      · intro w'
        go_simp
        with_reducible rfl
      rotate_left
      · simp only [Act.put, List.setIfInBounds_toArray, List.set_cons_zero, List.set_cons_succ, i64_w, i32_w]
        rfl
      refine pure_ (i := 11) (N := some 14) (v := ?_) (a' := ?_) #[true, true, true, true, true, true, true, true, true, false, true, true, false, false, false, false, false, false] rfl rfl (by kernel_rfl) (fun _ _ _ h => h) (Or.inl ⟨by rfl, ?_⟩) ?_ ?_
      rotate_left
      · intro w'
        go_simp
        with_reducible rfl
      rotate_left
      · simp only [Act.put, List.setIfInBounds_toArray, List.set_cons_zero, List.set_cons_succ, i64_w, i32_w]
        rfl
      refine pure_ (i := 12) (N := some 15) (v := ?_) (a' := ?_) #[true, true, true, true, true, true, true, true, true, false, true, true, true, false, false, false, false, false] rfl rfl (by kernel_rfl) (fun _ _ _ h => h) (Or.inl ⟨by rfl, ?_⟩) ?_ ?_
      rotate_left
      · intro w'
        go_simp
        with_reducible rfl
      rotate_left
      · simp only [Act.put, List.setIfInBounds_toArray, List.set_cons_zero, List.set_cons_succ, i64_w, i32_w]
        rfl
      refine take_ (i := 9) (N := some 12) (v := ?_) (a' := ?_) #[true, true, true, true, true, true, true, true, true, true, true, true, true, false, false, false, false, false] rfl rfl (by kernel_rfl) (fun _ _ _ h => h) (Or.inl ⟨by rfl, ?_⟩) hHeld ?_ ?_
      rotate_left
      · rintro w' ⟨s0, s1, s2⟩
        go_simp
        with_reducible rfl
      rotate_left
      · simp only [Act.put, List.setIfInBounds_toArray, List.set_cons_zero, List.set_cons_succ, i64_w, i32_w]
        rfl
      refine take_ (i := 13) (N := some 16) (v := ?_) (a' := ?_) #[true, true, true, true, true, true, true, true, true, true, true, true, true, true, false, false, false, false] rfl rfl (by kernel_rfl) (fun _ _ _ h => h) (Or.inl ⟨by rfl, ?_⟩) hHeld ?_ ?_
      rotate_left
      · rintro w' ⟨s0, s1, s2⟩
        go_simp
        with_reducible rfl
      rotate_left
      · simp only [Act.put, List.setIfInBounds_toArray, List.set_cons_zero, List.set_cons_succ, i64_w, i32_w]
        rfl
      refine pure_ (i := 14) (N := some 17) (v := ?_) (a' := ?_) #[true, true, true, true, true, true, true, true, true, true, true, true, true, true, true, false, false, false] rfl rfl (by kernel_rfl) (fun _ _ _ h => h) (Or.inl ⟨by rfl, ?_⟩) ?_ ?_
      rotate_left
      · intro w'
        go_simp
        with_reducible rfl
      rotate_left
      · simp only [Act.put, List.setIfInBounds_toArray, List.set_cons_zero, List.set_cons_succ, i64_w, i32_w]
        rfl
      refine pure_ (i := 15) (N := some 18) (v := ?_) (a' := ?_) #[true, true, true, true, true, true, true, true, true, true, true, true, true, true, true, true, false, false] rfl rfl (by kernel_rfl) (fun _ _ _ h => h) (Or.inl ⟨by rfl, ?_⟩) ?_ ?_
      rotate_left
      · intro w'
        go_simp
        with_reducible rfl
      rotate_left
      · simp only [Act.put, List.setIfInBounds_toArray, List.set_cons_zero, List.set_cons_succ, i64_w, i32_w]
        rfl
      refine pure_ (i := 16) (N := some 19) (v := ?_) (a' := ?_) #[true, true, true, true, true, true, true, true, true, true, true, true, true, true, true, true, true, false] rfl rfl (by kernel_rfl) (fun _ _ _ h => h) (Or.inl ⟨by rfl, ?_⟩) ?_ ?_
      rotate_left
      · intro w'
        go_simp
        with_reducible rfl
      rotate_left
      · simp only [Act.put, List.setIfInBounds_toArray, List.set_cons_zero, List.set_cons_succ, i64_w, i32_w]
        rfl
      refine pure_ (i := 17) (N := some 2) (v := ?_) (a' := ?_) #[true, true, true, true, true, true, true, true, true, true, true, true, true, true, true, true, true, true] rfl rfl (by kernel_rfl) (fun _ _ _ h => h) (Or.inl ⟨by rfl, ?_⟩) ?_ ?_
      rotate_left
      · intro w'
        go_simp
        with_reducible rfl
      rotate_left
      · simp only [Act.put, List.setIfInBounds_toArray, List.set_cons_zero, List.set_cons_succ, i64_w, i32_w]
        rfl
      refine done_ (by kernel_rfl) ?_
      go_wp2
      go_ret
      exact ⟨rfl, below_drew1 (Below.refl _ _)⟩
    · have h0 : 0 < l.length := List.length_pos_iff.2 hl
      have d1 : ((at_ : Int) == (b.length : Int)) = false := beq_eq_false_iff_ne.2 (by omega)
      have d2 : (at_ == b.length) = false := beq_eq_false_iff_ne.2 (by omega)
      rw [decide_eq_false hl]
      clear hlen hat
      go_enter Try.func155, Try.ntmps155
      go_upto_region 1 with (fail)
      (try simp only [Act.put, List.setIfInBounds_toArray, List.set_cons_zero, List.set_cons_succ])
      refine start_ (n := 18) (S := fun w' => w'.cell? ⟨g, 0, none⟩ = some (.slice Ar b.length cr) ∧ w'.cell? ⟨g, 1, none⟩ = some (.int .i64 (at_ : Int)) ∧ w'.cell? ⟨g, 2, none⟩ = some (.bool false)) (ds := []) #[false, false, false, false, false, false, false, false, false, false, false, false, false, false, false, false, false, false] (by kernel_rfl) rfl rfl ⟨(blk_cell (blk_drew BG.out) 0).trans rfl, (blk_cell (blk_drew BG.out) 1).trans rfl, (blk_cell (blk_drew BG.out) 2).trans rfl⟩ (fun hHeld => ?_)
      refine pure_ (i := 0) (N := some 3) (v := ?_) (a' := ?_) #[true, false, false, false, false, false, false, false, false, false, false, false, false, false, false, false, false, false] rfl rfl (by kernel_rfl) (fun _ _ _ h => h) (Or.inl ⟨by rfl, ?_⟩) ?_ ?_
      rotate_left
      · intro w'
        go_simp
        with_reducible rfl
      rotate_left
      · simp only [Act.put, List.setIfInBounds_toArray, List.set_cons_zero, List.set_cons_succ, i64_w, i32_w]
        rfl
      refine pure_ (i := 1) (N := some 4) (v := ?_) (a' := ?_) #[true, true, false, false, false, false, false, false, false, false, false, false, false, false, false, false, false, false] rfl rfl (by kernel_rfl) (fun _ _ _ h => h) (Or.inl ⟨by rfl, ?_⟩) ?_ ?_
      rotate_left
      · intro w'
        go_simp
        with_reducible rfl
      rotate_left
      · simp only [Act.put, List.setIfInBounds_toArray, List.set_cons_zero, List.set_cons_succ, i64_w, i32_w]
        rfl
      refine pure_ (i := 2) (N := some 5) (v := ?_) (a' := ?_) #[true, true, true, false, false, false, false, false, false, false, false, false, false, false, false, false, false, false] rfl rfl (by kernel_rfl) (fun _ _ _ h => h) (Or.inl ⟨by rfl, ?_⟩) ?_ ?_
      rotate_left
      · intro w'
        go_simp
        with_reducible rfl
      rotate_left
      · simp only [Act.put, List.setIfInBounds_toArray, List.set_cons_zero, List.set_cons_succ, i64_w, i32_w]
        rfl
      refine take_ (i := 3) (N := some 6) (v := ?_) (a' := ?_) #[true, true, true, true, false, false, false, false, false, false, false, false, false, false, false, false, false, false] rfl rfl (by kernel_rfl) (fun _ _ _ h => h) (Or.inl ⟨by rfl, ?_⟩) hHeld ?_ ?_
      rotate_left
      · rintro w' ⟨s0, s1, s2⟩
        go_simp
        with_reducible rfl
      rotate_left
      · simp only [Act.put, List.setIfInBounds_toArray, List.set_cons_zero, List.set_cons_succ, i64_w, i32_w]
        rfl
      refine pure_ (i := 4) (N := some 7) (v := ?_) (a' := ?_) #[true, true, true, true, true, false, false, false, false, false, false, false, false, false, false, false, false, false] rfl rfl (by kernel_rfl) (fun _ _ _ h => h) (Or.inl ⟨by rfl, ?_⟩) ?_ ?_
      rotate_left
      · intro w'
        go_simp
        with_reducible rfl
      rotate_left
      · simp only [Act.put, List.setIfInBounds_toArray, List.set_cons_zero, List.set_cons_succ, i64_w, i32_w]
        rfl
      refine pure_ (i := 5) (N := some 8) (v := ?_) (a' := ?_) #[true, true, true, true, true, true, false, false, false, false, false, false, false, false, false, false, false, false] rfl rfl (by kernel_rfl) (fun _ _ _ h => h) (Or.inl ⟨by rfl, ?_⟩) ?_ ?_
      rotate_left
      · intro w'
        go_simp
        with_reducible rfl
      rotate_left
      · simp only [Act.put, List.setIfInBounds_toArray, List.set_cons_zero, List.set_cons_succ, i64_w, i32_w]
        rfl
      refine pure_ (i := 6) (N := some 9) (v := ?_) (a' := ?_) #[true, true, true, true, true, true, true, false, false, false, false, false, false, false, false, false, false, false] rfl rfl (by kernel_rfl) (fun _ _ _ h => h) (Or.inl ⟨by rfl, ?_⟩) ?_ ?_
      rotate_left
      · intro w'
        go_simp
        with_reducible rfl
      rotate_left
      · simp only [Act.put, List.setIfInBounds_toArray, List.set_cons_zero, List.set_cons_succ, i64_w, i32_w]
        rfl
      refine pure_ (i := 7) (N := some 10) (v := ?_) (a' := ?_) #[true, true, true, true, true, true, true, true, false, false, false, false, false, false, false, false, false, false] rfl rfl (by kernel_rfl) (fun _ _ _ h => h) (Or.inl ⟨by rfl, ?_⟩) ?_ ?_
      rotate_left
      · intro w'
        go_simp
        with_reducible rfl
      rotate_left
      · simp only [Act.put, List.setIfInBounds_toArray, List.set_cons_zero, List.set_cons_succ, i64_w, i32_w]
        rfl
      refine pure_ (i := 8) (N := some 11) (v := ?_) (a' := ?_) #[true, true, true, true, true, true, true, true, true, false, false, false, false, false, false, false, false, false] rfl rfl (by kernel_rfl) (fun _ _ _ h => h) (Or.inl ⟨by rfl, ?_⟩) ?_ ?_
      rotate_left
      · intro w'
        go_simp
        with_reducible rfl
      rotate_left
      · simp only [Act.put, List.setIfInBounds_toArray, List.set_cons_zero, List.set_cons_succ, i64_w, i32_w]
        rfl
      refine pure_ (i := 10) (N := some 13) (v := ?_) (a' := ?_) #[true, true, true, true, true, true, true, true, true, false, true, false, false, false, false, false, false, false] rfl rfl (by kernel_rfl) (fun _ _ _ h => h) (Or.inl ⟨by rfl, ?_⟩) ?_ ?_
      rotate_left
      · intro w'
        go_simp
        with_reducible rfl
      rotate_left
      · simp only [Act.put, List.setIfInBounds_toArray, List.set_cons_zero, List.set_cons_succ, i64_w, i32_w]
        rfl
      refine pure_ (i := 11) (N := some 14) (v := ?_) (a' := ?_) #[true, true, true, true, true, true, true, true, true, false, true, true, false, false, false, false, false, false] rfl rfl (by kernel_rfl) (fun _ _ _ h => h) (Or.inl ⟨by rfl, ?_⟩) ?_ ?_
      rotate_left
      · intro w'
        go_simp
        with_reducible rfl
      rotate_left
      · simp only [Act.put, List.setIfInBounds_toArray, List.set_cons_zero, List.set_cons_succ, i64_w, i32_w]
        rfl
      refine pure_ (i := 12) (N := some 15) (v := ?_) (a' := ?_) #[true, true, true, true, true, true, true, true, true, false, true, true, true, false, false, false, false, false] rfl rfl (by kernel_rfl) (fun _ _ _ h => h) (Or.inl ⟨by rfl, ?_⟩) ?_ ?_
      rotate_left
      · intro w'
        go_simp
        with_reducible rfl
      rotate_left
      · simp only [Act.put, List.setIfInBounds_toArray, List.set_cons_zero, List.set_cons_succ, i64_w, i32_w]
        rfl
      refine take_ (i := 9) (N := some 12) (v := ?_) (a' := ?_) #[true, true, true, true, true, true, true, true, true, true, true, true, true, false, false, false, false, false] rfl rfl (by kernel_rfl) (fun _ _ _ h => h) (Or.inl ⟨by rfl, ?_⟩) hHeld ?_ ?_
      rotate_left
      · rintro w' ⟨s0, s1, s2⟩
        go_simp
        with_reducible rfl
      rotate_left
      · simp only [Act.put, List.setIfInBounds_toArray, List.set_cons_zero, List.set_cons_succ, i64_w, i32_w]
        rfl
      refine take_ (i := 13) (N := some 16) (v := ?_) (a' := ?_) #[true, true, true, true, true, true, true, true, true, true, true, true, true, true, false, false, false, false] rfl rfl (by kernel_rfl) (fun _ _ _ h => h) (Or.inl ⟨by rfl, ?_⟩) hHeld ?_ ?_
      rotate_left
      · rintro w' ⟨s0, s1, s2⟩
        go_simp
        with_reducible rfl
      rotate_left
      · simp only [Act.put, List.setIfInBounds_toArray, List.set_cons_zero, List.set_cons_succ, i64_w, i32_w]
        rfl
      refine pure_ (i := 14) (N := some 17) (v := ?_) (a' := ?_) #[true, true, true, true, true, true, true, true, true, true, true, true, true, true, true, false, false, false] rfl rfl (by kernel_rfl) (fun _ _ _ h => h) (Or.inl ⟨by rfl, ?_⟩) ?_ ?_
      rotate_left
      · intro w'
        go_simp
        with_reducible rfl
      rotate_left
      · simp only [Act.put, List.setIfInBounds_toArray, List.set_cons_zero, List.set_cons_succ, i64_w, i32_w]
        rfl
      refine pure_ (i := 15) (N := some 18) (v := ?_) (a' := ?_) #[true, true, true, true, true, true, true, true, true, true, true, true, true, true, true, true, false, false] rfl rfl (by kernel_rfl) (fun _ _ _ h => h) (Or.inl ⟨by rfl, ?_⟩) ?_ ?_
      rotate_left
      · intro w'
        go_simp
        with_reducible rfl
      rotate_left
      · simp only [Act.put, List.setIfInBounds_toArray, List.set_cons_zero, List.set_cons_succ, i64_w, i32_w]
        rfl
      refine pure_ (i := 16) (N := some 19) (v := ?_) (a' := ?_) #[true, true, true, true, true, true, true, true, true, true, true, true, true, true, true, true, true, false] rfl rfl (by kernel_rfl) (fun _ _ _ h => h) (Or.inl ⟨by rfl, ?_⟩) ?_ ?_
      rotate_left
      · intro w'
        go_simp
        with_reducible rfl
      rotate_left
      · simp only [Act.put, List.setIfInBounds_toArray, List.set_cons_zero, List.set_cons_succ, i64_w, i32_w]
        rfl
      refine pure_ (i := 17) (N := some 2) (v := ?_) (a' := ?_) #[true, true, true, true, true, true, true, true, true, true, true, true, true, true, true, true, true, true] rfl rfl (by kernel_rfl) (fun _ _ _ h => h) (Or.inl ⟨by rfl, ?_⟩) ?_ ?_
      rotate_left
      · intro w'
        go_simp
        with_reducible rfl
      rotate_left
      · simp only [Act.put, List.setIfInBounds_toArray, List.set_cons_zero, List.set_cons_succ, i64_w, i32_w]
        rfl
      refine done_ (by kernel_rfl) ?_
      go_wp2
      go_ret
      exact ⟨rfl, below_drew1 (Below.refl _ _)⟩
set_option maxHeartbeats 64000000 in
set_option maxRecDepth 100000 in
theorem xreadB (A : Option Addr) (c : Nat) (b : List Int) (w : World) (hC : Kd.C (Kd.int .u8) w A b.length b) (hc : b.length ≤ c) (hb : b.length ≤ 10000) (K0 : okL b) (n0 : List Int) (n1 : Int) (n2 : Bool) (n3 : Bool) (n4 : Int) (n5 : Int) (n6 : List Int) (n7 : Int) (n8 : Int) (l1 l2 l3 l4 l5 l6 l7 l8 l9 : List Int) (q1 q2 q3 q4 q5 q6 q7 q8 q9 : Bool) (H0 : someS b false 115 = (n0, l1, q1)) (H1 : smallS l1 q1 = (n1, l2, q2)) (H2 : boolS l2 q2 = (n2, l3, q3)) (H3 : boolS l3 q3 = (n3, l4, q4)) (H4 : smallS l4 q4 = (n4, l5, q5)) (H5 : smallS l5 q5 = (n5, l6, q6)) (H6 : someS l6 q6 115 = (n6, l7, q7)) (H7 : smallS l7 q7 = (n7, l8, q8)) (H8 : smallS l8 q8 = (n8, l9, q9)) (good : Bool) (hg : good = (!q9 && decide (l9 = []))) :
    Calls Try.prog 92 #[.slice A b.length c] w fun e w' => e = .returned (if good = true then .tuple #[.agg #[.string (strOfNums n0), .int .i64 n1, .bool n2, .bool n3, .int .i64 n4, .int .i64 n5, .string (strOfNums n6), .int .i64 n7, .int .i64 n8], .int .i64 0] else .tuple #[.agg #[.string ⟨#[]⟩, .int .i64 0, .bool false, .bool false, .int .i64 0, .int .i64 0, .string ⟨#[]⟩, .int .i64 0, .int .i64 0], .int .i64 4]) ∧ Below w.heap.size w w' := by
  have hut := Try.underlying89
  have HB := Aside0.mk (Below.refl w.heap.size w)
  have HC := Aside0.mk hC
  have Hc := Aside0.mk hc
  have HLN := Aside0.mk hb
  have HG := Aside0.mk hg
  clear hC hc hb hg
  have T0 : True := trivial
  go_enter Try.func92, Try.ntmps92
  go_upto_region 3 with (first
    | ((with_reducible refine gate_dst (N := 2) rfl ?_); refine box_event ?hg (N := 2) ?hd (cs := #[.string ⟨#[]⟩, .int .i64 0, .bool false, .bool false, .int .i64 0, .int .i64 0, .string ⟨#[]⟩, .int .i64 0, .int .i64 0]) (t := 89) ?hr ?_; (case hd => rfl); (case hg => rfl); (case hr => first | (go_simp; done) | (go_simp; rfl)); intro g2 hg wz hbox hb; have BK2 := Aside0.mk hbox; have GE2 := Aside0.mk (by rw [hg]; exact below_size HB.out : w.heap.size ≤ g2); have nb_ := Aside0.mk (below_step HB.out hb); clear HB; have HB := nb_; clear nb_ hbox hb hg)
    | ((with_reducible refine gate_dst (N := 8) rfl ?_); refine box_event ?hg (N := 8) ?hd (cs := #[.slice A b.length c, .int .i64 0, .bool false]) (t := 55) ?hr ?_; (case hd => rfl); (case hg => rfl); (case hr => first | (go_simp; done) | (go_simp; rfl)); intro g hg wy hbox hb; have G := Aside0.mk (by rw [hg]; exact below_size HB.out : w.heap.size ≤ g); have HI := Aside0.mk (show IsX w g wy b b false from ⟨0, Nat.zero_le _, rfl, A, c, hbox, ⟨G.out, Hc.out⟩, HC.out⟩); have N2 := Aside0.mk (by rw [hg]; exact Nat.ne_of_lt (blk_lt BK2.out) : g2 ≠ g); have nb_ := Aside0.mk (below_step HB.out hb); have B2_ := Aside0.mk (blk_below BK2.out hb); clear HB BK2; have HB := nb_; have BK2 := B2_; clear nb_ B2_ hbox hb hg)
    | ((with_reducible refine gate_dst (N := 5) rfl ?_); refine box_event ?hg (N := 5) ?hd (cs := #[.string ⟨#[]⟩, .int .i64 0, .bool false, .bool false, .int .i64 0, .int .i64 0, .string ⟨#[]⟩, .int .i64 0, .int .i64 0]) (t := 89) ?hr ?_; (case hd => rfl); (case hg => rfl); (case hr => first | (go_simp; done) | (go_simp; rfl)); intro g5 hg wv hbox hb; have BK5 := Aside0.mk hbox; have GE5 := Aside0.mk (by rw [hg]; exact below_size HB.out : w.heap.size ≤ g5); have N5 := Aside0.mk (by rw [hg]; exact Nat.ne_of_gt (IsX.ltt HI.out) : g5 ≠ g); have N25 := Aside0.mk (by rw [hg]; exact Nat.ne_of_lt (blk_lt BK2.out) : g2 ≠ g5); have LT25 := Aside0.mk (by rw [hg]; exact blk_lt BK2.out : g2 < g5); have nb_ := Aside0.mk (below_step HB.out hb); have HI_ := Aside0.mk (IsX.beloww HI.out hb); have B2_ := Aside0.mk (blk_below BK2.out hb); clear HB HI BK2; have HB := nb_; have HI := HI_; have BK2 := B2_; clear nb_ HI_ B2_ hbox hb hg; have hw0 := (blk_cell BK5.out 0).trans (show _ = some (.string ⟨#[]⟩) from rfl); have fw0 := blk_frozen BK5.out 0; have hw1 := (blk_cell BK5.out 1).trans (show _ = some (.int .i64 0) from rfl); have fw1 := blk_frozen BK5.out 1; have hw2 := (blk_cell BK5.out 2).trans (show _ = some (.bool false) from rfl); have fw2 := blk_frozen BK5.out 2; have hw3 := (blk_cell BK5.out 3).trans (show _ = some (.bool false) from rfl); have fw3 := blk_frozen BK5.out 3; have hw4 := (blk_cell BK5.out 4).trans (show _ = some (.int .i64 0) from rfl); have fw4 := blk_frozen BK5.out 4; have hw5 := (blk_cell BK5.out 5).trans (show _ = some (.int .i64 0) from rfl); have fw5 := blk_frozen BK5.out 5; have hw6 := (blk_cell BK5.out 6).trans (show _ = some (.string ⟨#[]⟩) from rfl); have fw6 := blk_frozen BK5.out 6; have hw7 := (blk_cell BK5.out 7).trans (show _ = some (.int .i64 0) from rfl); have fw7 := blk_frozen BK5.out 7; have hw8 := (blk_cell BK5.out 8).trans (show _ = some (.int .i64 0) from rfl); have fw8 := blk_frozen BK5.out 8))
  (try simp only [Act.put, List.setIfInBounds_toArray, List.set_cons_zero, List.set_cons_succ])
  generalize hwv : (World.setCell (World.setCell (World.setCell (World.setCell (World.setCell (World.setCell (World.setCell (World.setCell (World.setCell wv ⟨g5, 0, none⟩ (.string ⟨#[]⟩)) ⟨g5, 1, none⟩ (.int .i64 0)) ⟨g5, 2, none⟩ (.bool false)) ⟨g5, 3, none⟩ (.bool false)) ⟨g5, 4, none⟩ (.int .i64 0)) ⟨g5, 5, none⟩ (.int .i64 0)) ⟨g5, 6, none⟩ (.string ⟨#[]⟩)) ⟨g5, 7, none⟩ (.int .i64 0)) ⟨g5, 8, none⟩ (.int .i64 0)) = wu
  have BK5u := Aside0.mk (show wu.heap[g5]? = some (.cells #[.string ⟨#[]⟩, .int .i64 0, .bool false, .bool false, .int .i64 0, .int .i64 0, .string ⟨#[]⟩, .int .i64 0, .int .i64 0] 89 (0, 0)) from (by rw [← hwv]; refine blk_put (cs := #[.string ⟨#[]⟩, .int .i64 0, .bool false, .bool false, .int .i64 0, .int .i64 0, .string ⟨#[]⟩, .int .i64 0, .int .i64 0]) ?_ 8 _ rfl; refine blk_put (cs := #[.string ⟨#[]⟩, .int .i64 0, .bool false, .bool false, .int .i64 0, .int .i64 0, .string ⟨#[]⟩, .int .i64 0, .int .i64 0]) ?_ 7 _ rfl; refine blk_put (cs := #[.string ⟨#[]⟩, .int .i64 0, .bool false, .bool false, .int .i64 0, .int .i64 0, .string ⟨#[]⟩, .int .i64 0, .int .i64 0]) ?_ 6 _ rfl; refine blk_put (cs := #[.string ⟨#[]⟩, .int .i64 0, .bool false, .bool false, .int .i64 0, .int .i64 0, .string ⟨#[]⟩, .int .i64 0, .int .i64 0]) ?_ 5 _ rfl; refine blk_put (cs := #[.string ⟨#[]⟩, .int .i64 0, .bool false, .bool false, .int .i64 0, .int .i64 0, .string ⟨#[]⟩, .int .i64 0, .int .i64 0]) ?_ 4 _ rfl; refine blk_put (cs := #[.string ⟨#[]⟩, .int .i64 0, .bool false, .bool false, .int .i64 0, .int .i64 0, .string ⟨#[]⟩, .int .i64 0, .int .i64 0]) ?_ 3 _ rfl; refine blk_put (cs := #[.string ⟨#[]⟩, .int .i64 0, .bool false, .bool false, .int .i64 0, .int .i64 0, .string ⟨#[]⟩, .int .i64 0, .int .i64 0]) ?_ 2 _ rfl; refine blk_put (cs := #[.string ⟨#[]⟩, .int .i64 0, .bool false, .bool false, .int .i64 0, .int .i64 0, .string ⟨#[]⟩, .int .i64 0, .int .i64 0]) ?_ 1 _ rfl; refine blk_put (cs := #[.string ⟨#[]⟩, .int .i64 0, .bool false, .bool false, .int .i64 0, .int .i64 0, .string ⟨#[]⟩, .int .i64 0, .int .i64 0]) ?_ 0 _ rfl; exact BK5.out))
  have BK2u := Aside0.mk (show wu.heap[g2]? = some (.cells #[.string ⟨#[]⟩, .int .i64 0, .bool false, .bool false, .int .i64 0, .int .i64 0, .string ⟨#[]⟩, .int .i64 0, .int .i64 0] 89 (0, 0)) from (by rw [← hwv]; (iterate 9 (refine blk_far ?_ N25.out _)); exact BK2.out))
  have HIu := Aside0.mk (show IsX w g wu b b false from (by rw [← hwv]; exact IsX.wrr HI.out (((((((((((Wr.refl _ g5 _).setCell 0 _).setCell 1 _).setCell 2 _).setCell 3 _).setCell 4 _).setCell 5 _).setCell 6 _).setCell 7 _).setCell 8 _)) (Ne.symm N5.out)))
  have HBu := Aside0.mk (show Below w.heap.size w wu from (by rw [← hwv]; repeat (first | (with_reducible first | exact HB.out | apply below_alloc | apply pw_below_drewN | apply below_drew1 | refine below_set ?_ GE5.out | refine below_set ?_ GE2.out) | exact HB.out)))
  clear hwv BK5 BK2 HI HB hw0 fw0 hw1 fw1 hw2 fw2 hw3 fw3 hw4 fw4 hw5 fw5 hw6 fw6 hw7 fw7 hw8 fw8
  have BK5 := BK5u
  have BK2 := BK2u
  have HI := HIu
  have HB := HBu
  clear BK5u BK2u HIu HBu
  have M0 := Aside0.mk (fun W h hB => xtext_any w g W b b false h hB K0)
  rw [H0] at M0
  have M1 := Aside0.mk (fun W h hB => xsmall_any w g W b l1 q1 h hB K0)
  rw [H1] at M1
  have M2 := Aside0.mk (fun W h hB => xbool_any w g W b l2 q2 h hB K0)
  rw [H2] at M2
  have M3 := Aside0.mk (fun W h hB => xbool_any w g W b l3 q3 h hB K0)
  rw [H3] at M3
  have M4 := Aside0.mk (fun W h hB => xsmall_any w g W b l4 q4 h hB K0)
  rw [H4] at M4
  have M5 := Aside0.mk (fun W h hB => xsmall_any w g W b l5 q5 h hB K0)
  rw [H5] at M5
  have M6 := Aside0.mk (fun W h hB => xtext_any w g W b l6 q6 h hB K0)
  rw [H6] at M6
  have M7 := Aside0.mk (fun W h hB => xsmall_any w g W b l7 q7 h hB K0)
  rw [H7] at M7
  have M8 := Aside0.mk (fun W h hB => xsmall_any w g W b l8 q8 h hB K0)
  rw [H8] at M8
  clear H0 H1 H2 H3 H4 H5 H6 H7 H8
  go_upto_region 11 with (first
    | (go_at_call 62; have _t := T0; (with_reducible refine (M0.out _ HI.out HB.out).mono ?_); rintro e wx0 ⟨rfl, hi, hW⟩; have HB_ := Aside0.mk (below_wr HB.out hW G.out); have B2_ := Aside0.mk (hW.blk BK2.out (blk_lt BK2.out) N2.out); have B5_ := Aside0.mk (hW.blk BK5.out (blk_lt BK5.out) N5.out); have HI_ := Aside0.mk hi; clear HI HB BK2 BK5 hi hW; have HI := HI_; have HB := HB_; have BK2 := B2_; have BK5 := B5_; clear HI_ HB_ B2_ B5_ T0; have T1 : True := trivial; have hz0 := (blk_cell BK5.out 0).trans rfl; have fz0 := blk_frozen BK5.out 0)
    | (go_at_call 154; have _t := T1; have HI_ := Aside0.mk (show IsX w g (World.setCell wx0 ⟨g5, 0, none⟩ (.string (strOfNums n0))) b l1 q1 from IsX.wrr HI.out ((Wr.refl _ g5 _).setCell 0 _) (Ne.symm N5.out)); have B5_ := Aside0.mk (show (World.setCell wx0 ⟨g5, 0, none⟩ (.string (strOfNums n0))).heap[g5]? = some (.cells #[.string (strOfNums n0), .int .i64 0, .bool false, .bool false, .int .i64 0, .int .i64 0, .string ⟨#[]⟩, .int .i64 0, .int .i64 0] 89 (0, 0)) from blk_put (cs := #[.string ⟨#[]⟩, .int .i64 0, .bool false, .bool false, .int .i64 0, .int .i64 0, .string ⟨#[]⟩, .int .i64 0, .int .i64 0]) BK5.out 0 _ rfl); have B2_ := Aside0.mk (show (World.setCell wx0 ⟨g5, 0, none⟩ (.string (strOfNums n0))).heap[g2]? = some (.cells #[.string ⟨#[]⟩, .int .i64 0, .bool false, .bool false, .int .i64 0, .int .i64 0, .string ⟨#[]⟩, .int .i64 0, .int .i64 0] 89 (0, 0)) from blk_far BK2.out N25.out _); have HB_ := Aside0.mk (show Below w.heap.size w (World.setCell wx0 ⟨g5, 0, none⟩ (.string (strOfNums n0))) from below_set HB.out GE5.out); clear HI BK5 BK2 HB; have HI := HI_; have BK5 := B5_; have BK2 := B2_; have HB := HB_; clear HI_ B5_ B2_ HB_; (with_reducible refine (M1.out _ HI.out HB.out).mono ?_); rintro e wx1 ⟨rfl, hi, hW⟩; have HB_ := Aside0.mk (below_wr HB.out hW G.out); have B2_ := Aside0.mk (hW.blk BK2.out (blk_lt BK2.out) N2.out); have B5_ := Aside0.mk (hW.blk BK5.out (blk_lt BK5.out) N5.out); have HI_ := Aside0.mk hi; clear HI HB BK2 BK5 hi hW; have HI := HI_; have HB := HB_; have BK2 := B2_; have BK5 := B5_; clear HI_ HB_ B2_ B5_ T1; have T2 : True := trivial; have hz1 := (blk_cell BK5.out 1).trans rfl; have fz1 := blk_frozen BK5.out 1)
    | (go_at_call 64; have _t := T2; have HI_ := Aside0.mk (show IsX w g (World.setCell wx1 ⟨g5, 1, none⟩ (.int .i64 n1)) b l2 q2 from IsX.wrr HI.out ((Wr.refl _ g5 _).setCell 1 _) (Ne.symm N5.out)); have B5_ := Aside0.mk (show (World.setCell wx1 ⟨g5, 1, none⟩ (.int .i64 n1)).heap[g5]? = some (.cells #[.string (strOfNums n0), .int .i64 n1, .bool false, .bool false, .int .i64 0, .int .i64 0, .string ⟨#[]⟩, .int .i64 0, .int .i64 0] 89 (0, 0)) from blk_put (cs := #[.string (strOfNums n0), .int .i64 0, .bool false, .bool false, .int .i64 0, .int .i64 0, .string ⟨#[]⟩, .int .i64 0, .int .i64 0]) BK5.out 1 _ rfl); have B2_ := Aside0.mk (show (World.setCell wx1 ⟨g5, 1, none⟩ (.int .i64 n1)).heap[g2]? = some (.cells #[.string ⟨#[]⟩, .int .i64 0, .bool false, .bool false, .int .i64 0, .int .i64 0, .string ⟨#[]⟩, .int .i64 0, .int .i64 0] 89 (0, 0)) from blk_far BK2.out N25.out _); have HB_ := Aside0.mk (show Below w.heap.size w (World.setCell wx1 ⟨g5, 1, none⟩ (.int .i64 n1)) from below_set HB.out GE5.out); clear HI BK5 BK2 HB; have HI := HI_; have BK5 := B5_; have BK2 := B2_; have HB := HB_; clear HI_ B5_ B2_ HB_; (with_reducible refine (M2.out _ HI.out HB.out).mono ?_); rintro e wx2 ⟨rfl, hi, hW⟩; have HB_ := Aside0.mk (below_wr HB.out hW G.out); have B2_ := Aside0.mk (hW.blk BK2.out (blk_lt BK2.out) N2.out); have B5_ := Aside0.mk (hW.blk BK5.out (blk_lt BK5.out) N5.out); have HI_ := Aside0.mk hi; clear HI HB BK2 BK5 hi hW; have HI := HI_; have HB := HB_; have BK2 := B2_; have BK5 := B5_; clear HI_ HB_ B2_ B5_ T2; have T3 : True := trivial; have hz2 := (blk_cell BK5.out 2).trans rfl; have fz2 := blk_frozen BK5.out 2)
    | (go_at_call 64; have _t := T3; have HI_ := Aside0.mk (show IsX w g (World.setCell wx2 ⟨g5, 2, none⟩ (.bool n2)) b l3 q3 from IsX.wrr HI.out ((Wr.refl _ g5 _).setCell 2 _) (Ne.symm N5.out)); have B5_ := Aside0.mk (show (World.setCell wx2 ⟨g5, 2, none⟩ (.bool n2)).heap[g5]? = some (.cells #[.string (strOfNums n0), .int .i64 n1, .bool n2, .bool false, .int .i64 0, .int .i64 0, .string ⟨#[]⟩, .int .i64 0, .int .i64 0] 89 (0, 0)) from blk_put (cs := #[.string (strOfNums n0), .int .i64 n1, .bool false, .bool false, .int .i64 0, .int .i64 0, .string ⟨#[]⟩, .int .i64 0, .int .i64 0]) BK5.out 2 _ rfl); have B2_ := Aside0.mk (show (World.setCell wx2 ⟨g5, 2, none⟩ (.bool n2)).heap[g2]? = some (.cells #[.string ⟨#[]⟩, .int .i64 0, .bool false, .bool false, .int .i64 0, .int .i64 0, .string ⟨#[]⟩, .int .i64 0, .int .i64 0] 89 (0, 0)) from blk_far BK2.out N25.out _); have HB_ := Aside0.mk (show Below w.heap.size w (World.setCell wx2 ⟨g5, 2, none⟩ (.bool n2)) from below_set HB.out GE5.out); clear HI BK5 BK2 HB; have HI := HI_; have BK5 := B5_; have BK2 := B2_; have HB := HB_; clear HI_ B5_ B2_ HB_; (with_reducible refine (M3.out _ HI.out HB.out).mono ?_); rintro e wx3 ⟨rfl, hi, hW⟩; have HB_ := Aside0.mk (below_wr HB.out hW G.out); have B2_ := Aside0.mk (hW.blk BK2.out (blk_lt BK2.out) N2.out); have B5_ := Aside0.mk (hW.blk BK5.out (blk_lt BK5.out) N5.out); have HI_ := Aside0.mk hi; clear HI HB BK2 BK5 hi hW; have HI := HI_; have HB := HB_; have BK2 := B2_; have BK5 := B5_; clear HI_ HB_ B2_ B5_ T3; have T4 : True := trivial; have hz3 := (blk_cell BK5.out 3).trans rfl; have fz3 := blk_frozen BK5.out 3)
    | (go_at_call 154; have _t := T4; have HI_ := Aside0.mk (show IsX w g (World.setCell wx3 ⟨g5, 3, none⟩ (.bool n3)) b l4 q4 from IsX.wrr HI.out ((Wr.refl _ g5 _).setCell 3 _) (Ne.symm N5.out)); have B5_ := Aside0.mk (show (World.setCell wx3 ⟨g5, 3, none⟩ (.bool n3)).heap[g5]? = some (.cells #[.string (strOfNums n0), .int .i64 n1, .bool n2, .bool n3, .int .i64 0, .int .i64 0, .string ⟨#[]⟩, .int .i64 0, .int .i64 0] 89 (0, 0)) from blk_put (cs := #[.string (strOfNums n0), .int .i64 n1, .bool n2, .bool false, .int .i64 0, .int .i64 0, .string ⟨#[]⟩, .int .i64 0, .int .i64 0]) BK5.out 3 _ rfl); have B2_ := Aside0.mk (show (World.setCell wx3 ⟨g5, 3, none⟩ (.bool n3)).heap[g2]? = some (.cells #[.string ⟨#[]⟩, .int .i64 0, .bool false, .bool false, .int .i64 0, .int .i64 0, .string ⟨#[]⟩, .int .i64 0, .int .i64 0] 89 (0, 0)) from blk_far BK2.out N25.out _); have HB_ := Aside0.mk (show Below w.heap.size w (World.setCell wx3 ⟨g5, 3, none⟩ (.bool n3)) from below_set HB.out GE5.out); clear HI BK5 BK2 HB; have HI := HI_; have BK5 := B5_; have BK2 := B2_; have HB := HB_; clear HI_ B5_ B2_ HB_; (with_reducible refine (M4.out _ HI.out HB.out).mono ?_); rintro e wx4 ⟨rfl, hi, hW⟩; have HB_ := Aside0.mk (below_wr HB.out hW G.out); have B2_ := Aside0.mk (hW.blk BK2.out (blk_lt BK2.out) N2.out); have B5_ := Aside0.mk (hW.blk BK5.out (blk_lt BK5.out) N5.out); have HI_ := Aside0.mk hi; clear HI HB BK2 BK5 hi hW; have HI := HI_; have HB := HB_; have BK2 := B2_; have BK5 := B5_; clear HI_ HB_ B2_ B5_ T4; have T5 : True := trivial; have hz4 := (blk_cell BK5.out 4).trans rfl; have fz4 := blk_frozen BK5.out 4)
    | (go_at_call 154; have _t := T5; have HI_ := Aside0.mk (show IsX w g (World.setCell wx4 ⟨g5, 4, none⟩ (.int .i64 n4)) b l5 q5 from IsX.wrr HI.out ((Wr.refl _ g5 _).setCell 4 _) (Ne.symm N5.out)); have B5_ := Aside0.mk (show (World.setCell wx4 ⟨g5, 4, none⟩ (.int .i64 n4)).heap[g5]? = some (.cells #[.string (strOfNums n0), .int .i64 n1, .bool n2, .bool n3, .int .i64 n4, .int .i64 0, .string ⟨#[]⟩, .int .i64 0, .int .i64 0] 89 (0, 0)) from blk_put (cs := #[.string (strOfNums n0), .int .i64 n1, .bool n2, .bool n3, .int .i64 0, .int .i64 0, .string ⟨#[]⟩, .int .i64 0, .int .i64 0]) BK5.out 4 _ rfl); have B2_ := Aside0.mk (show (World.setCell wx4 ⟨g5, 4, none⟩ (.int .i64 n4)).heap[g2]? = some (.cells #[.string ⟨#[]⟩, .int .i64 0, .bool false, .bool false, .int .i64 0, .int .i64 0, .string ⟨#[]⟩, .int .i64 0, .int .i64 0] 89 (0, 0)) from blk_far BK2.out N25.out _); have HB_ := Aside0.mk (show Below w.heap.size w (World.setCell wx4 ⟨g5, 4, none⟩ (.int .i64 n4)) from below_set HB.out GE5.out); clear HI BK5 BK2 HB; have HI := HI_; have BK5 := B5_; have BK2 := B2_; have HB := HB_; clear HI_ B5_ B2_ HB_; (with_reducible refine (M5.out _ HI.out HB.out).mono ?_); rintro e wx5 ⟨rfl, hi, hW⟩; have HB_ := Aside0.mk (below_wr HB.out hW G.out); have B2_ := Aside0.mk (hW.blk BK2.out (blk_lt BK2.out) N2.out); have B5_ := Aside0.mk (hW.blk BK5.out (blk_lt BK5.out) N5.out); have HI_ := Aside0.mk hi; clear HI HB BK2 BK5 hi hW; have HI := HI_; have HB := HB_; have BK2 := B2_; have BK5 := B5_; clear HI_ HB_ B2_ B5_ T5; have T6 : True := trivial; have hz5 := (blk_cell BK5.out 5).trans rfl; have fz5 := blk_frozen BK5.out 5)
    | (go_at_call 62; have _t := T6; have HI_ := Aside0.mk (show IsX w g (World.setCell wx5 ⟨g5, 5, none⟩ (.int .i64 n5)) b l6 q6 from IsX.wrr HI.out ((Wr.refl _ g5 _).setCell 5 _) (Ne.symm N5.out)); have B5_ := Aside0.mk (show (World.setCell wx5 ⟨g5, 5, none⟩ (.int .i64 n5)).heap[g5]? = some (.cells #[.string (strOfNums n0), .int .i64 n1, .bool n2, .bool n3, .int .i64 n4, .int .i64 n5, .string ⟨#[]⟩, .int .i64 0, .int .i64 0] 89 (0, 0)) from blk_put (cs := #[.string (strOfNums n0), .int .i64 n1, .bool n2, .bool n3, .int .i64 n4, .int .i64 0, .string ⟨#[]⟩, .int .i64 0, .int .i64 0]) BK5.out 5 _ rfl); have B2_ := Aside0.mk (show (World.setCell wx5 ⟨g5, 5, none⟩ (.int .i64 n5)).heap[g2]? = some (.cells #[.string ⟨#[]⟩, .int .i64 0, .bool false, .bool false, .int .i64 0, .int .i64 0, .string ⟨#[]⟩, .int .i64 0, .int .i64 0] 89 (0, 0)) from blk_far BK2.out N25.out _); have HB_ := Aside0.mk (show Below w.heap.size w (World.setCell wx5 ⟨g5, 5, none⟩ (.int .i64 n5)) from below_set HB.out GE5.out); clear HI BK5 BK2 HB; have HI := HI_; have BK5 := B5_; have BK2 := B2_; have HB := HB_; clear HI_ B5_ B2_ HB_; (with_reducible refine (M6.out _ HI.out HB.out).mono ?_); rintro e wx6 ⟨rfl, hi, hW⟩; have HB_ := Aside0.mk (below_wr HB.out hW G.out); have B2_ := Aside0.mk (hW.blk BK2.out (blk_lt BK2.out) N2.out); have B5_ := Aside0.mk (hW.blk BK5.out (blk_lt BK5.out) N5.out); have HI_ := Aside0.mk hi; clear HI HB BK2 BK5 hi hW; have HI := HI_; have HB := HB_; have BK2 := B2_; have BK5 := B5_; clear HI_ HB_ B2_ B5_ T6; have T7 : True := trivial; have hz6 := (blk_cell BK5.out 6).trans rfl; have fz6 := blk_frozen BK5.out 6)
    | (go_at_call 154; have _t := T7; have HI_ := Aside0.mk (show IsX w g (World.setCell wx6 ⟨g5, 6, none⟩ (.string (strOfNums n6))) b l7 q7 from IsX.wrr HI.out ((Wr.refl _ g5 _).setCell 6 _) (Ne.symm N5.out)); have B5_ := Aside0.mk (show (World.setCell wx6 ⟨g5, 6, none⟩ (.string (strOfNums n6))).heap[g5]? = some (.cells #[.string (strOfNums n0), .int .i64 n1, .bool n2, .bool n3, .int .i64 n4, .int .i64 n5, .string (strOfNums n6), .int .i64 0, .int .i64 0] 89 (0, 0)) from blk_put (cs := #[.string (strOfNums n0), .int .i64 n1, .bool n2, .bool n3, .int .i64 n4, .int .i64 n5, .string ⟨#[]⟩, .int .i64 0, .int .i64 0]) BK5.out 6 _ rfl); have B2_ := Aside0.mk (show (World.setCell wx6 ⟨g5, 6, none⟩ (.string (strOfNums n6))).heap[g2]? = some (.cells #[.string ⟨#[]⟩, .int .i64 0, .bool false, .bool false, .int .i64 0, .int .i64 0, .string ⟨#[]⟩, .int .i64 0, .int .i64 0] 89 (0, 0)) from blk_far BK2.out N25.out _); have HB_ := Aside0.mk (show Below w.heap.size w (World.setCell wx6 ⟨g5, 6, none⟩ (.string (strOfNums n6))) from below_set HB.out GE5.out); clear HI BK5 BK2 HB; have HI := HI_; have BK5 := B5_; have BK2 := B2_; have HB := HB_; clear HI_ B5_ B2_ HB_; (with_reducible refine (M7.out _ HI.out HB.out).mono ?_); rintro e wx7 ⟨rfl, hi, hW⟩; have HB_ := Aside0.mk (below_wr HB.out hW G.out); have B2_ := Aside0.mk (hW.blk BK2.out (blk_lt BK2.out) N2.out); have B5_ := Aside0.mk (hW.blk BK5.out (blk_lt BK5.out) N5.out); have HI_ := Aside0.mk hi; clear HI HB BK2 BK5 hi hW; have HI := HI_; have HB := HB_; have BK2 := B2_; have BK5 := B5_; clear HI_ HB_ B2_ B5_ T7; have T8 : True := trivial; have hz7 := (blk_cell BK5.out 7).trans rfl; have fz7 := blk_frozen BK5.out 7))
  (try simp only [Act.put, List.setIfInBounds_toArray, List.set_cons_zero, List.set_cons_succ])
  go_cut [] (fun wc => Aside0 (IsX w g wc b l9 q9) ∧ Aside0 (wc.heap[g2]? = some (.cells #[.string ⟨#[]⟩, .int .i64 0, .bool false, .bool false, .int .i64 0, .int .i64 0, .string ⟨#[]⟩, .int .i64 0, .int .i64 0] 89 (0, 0))) ∧ Aside0 (wc.heap[g5]? = some (.cells #[.string (strOfNums n0), .int .i64 n1, .bool n2, .bool n3, .int .i64 n4, .int .i64 n5, .string (strOfNums n6), .int .i64 n7, .int .i64 n8] 89 (0, 0))) ∧ Aside0 (Below w.heap.size w wc))
  case first =>
    go_wp2_with (first
      | (go_at_call 154; have _t := T8; have HI_ := Aside0.mk (show IsX w g (World.setCell wx7 ⟨g5, 7, none⟩ (.int .i64 n7)) b l8 q8 from IsX.wrr HI.out ((Wr.refl _ g5 _).setCell 7 _) (Ne.symm N5.out)); have B5_ := Aside0.mk (show (World.setCell wx7 ⟨g5, 7, none⟩ (.int .i64 n7)).heap[g5]? = some (.cells #[.string (strOfNums n0), .int .i64 n1, .bool n2, .bool n3, .int .i64 n4, .int .i64 n5, .string (strOfNums n6), .int .i64 n7, .int .i64 0] 89 (0, 0)) from blk_put (cs := #[.string (strOfNums n0), .int .i64 n1, .bool n2, .bool n3, .int .i64 n4, .int .i64 n5, .string (strOfNums n6), .int .i64 0, .int .i64 0]) BK5.out 7 _ rfl); have B2_ := Aside0.mk (show (World.setCell wx7 ⟨g5, 7, none⟩ (.int .i64 n7)).heap[g2]? = some (.cells #[.string ⟨#[]⟩, .int .i64 0, .bool false, .bool false, .int .i64 0, .int .i64 0, .string ⟨#[]⟩, .int .i64 0, .int .i64 0] 89 (0, 0)) from blk_far BK2.out N25.out _); have HB_ := Aside0.mk (show Below w.heap.size w (World.setCell wx7 ⟨g5, 7, none⟩ (.int .i64 n7)) from below_set HB.out GE5.out); clear HI BK5 BK2 HB; have HI := HI_; have BK5 := B5_; have BK2 := B2_; have HB := HB_; clear HI_ B5_ B2_ HB_; (with_reducible refine (M8.out _ HI.out HB.out).mono ?_); rintro e wx8 ⟨rfl, hi, hW⟩; have HB_ := Aside0.mk (below_wr HB.out hW G.out); have B2_ := Aside0.mk (hW.blk BK2.out (blk_lt BK2.out) N2.out); have B5_ := Aside0.mk (hW.blk BK5.out (blk_lt BK5.out) N5.out); have HI_ := Aside0.mk hi; clear HI HB BK2 BK5 hi hW; have HI := HI_; have HB := HB_; have BK2 := B2_; have BK5 := B5_; clear HI_ HB_ B2_ B5_ T8; have T9 : True := trivial; have hz8 := (blk_cell BK5.out 8).trans rfl; have fz8 := blk_frozen BK5.out 8))
    go_meet
    case rel => exact ⟨⟨IsX.wrr HI.out ((Wr.refl _ g5 _).setCell 8 _) (Ne.symm N5.out)⟩, ⟨by refine blk_far ?_ N25.out _; exact BK2.out⟩, ⟨by refine blk_put (cs := #[.string (strOfNums n0), .int .i64 n1, .bool n2, .bool n3, .int .i64 n4, .int .i64 n5, .string (strOfNums n6), .int .i64 n7, .int .i64 0]) ?_ 8 _ rfl; exact BK5.out⟩, ⟨by repeat (first | (with_reducible first | exact HB.out | apply below_alloc | apply pw_below_drewN | apply below_drew1 | refine below_set ?_ GE5.out | refine below_set ?_ GE2.out) | exact HB.out)⟩⟩
  case rest =>
    obtain ⟨HI, BK2, BK5, HB⟩ := hcut
    have DN := Aside0.mk (fun W h => xdone_any w g W b l9 q9 h good HG.out)
    have hn25 := N25.out
    have hn52 := Ne.symm N25.out
    clear HG
    cases good with
    | true =>
      go_wp2_with (go_at_call 155; (with_reducible refine (DN.out _ HI.out).mono ?_); rintro e wd ⟨rfl, hb⟩; have x_ := Aside0.mk (blk_below BK2.out hb); have y_ := Aside0.mk (blk_below BK5.out hb); have nb_ := Aside0.mk (below_step HB.out hb); clear BK2 BK5 HB HI hb; have BK2 := x_; have BK5 := y_; have HB := nb_; clear x_ y_ nb_; have hu0 := (blk_cell BK5.out 0).trans (show _ = some (.string (strOfNums n0)) from rfl); have fu0 := blk_frozen BK5.out 0; have hu1 := (blk_cell BK5.out 1).trans (show _ = some (.int .i64 n1) from rfl); have fu1 := blk_frozen BK5.out 1; have hu2 := (blk_cell BK5.out 2).trans (show _ = some (.bool n2) from rfl); have fu2 := blk_frozen BK5.out 2; have hu3 := (blk_cell BK5.out 3).trans (show _ = some (.bool n3) from rfl); have fu3 := blk_frozen BK5.out 3; have hu4 := (blk_cell BK5.out 4).trans (show _ = some (.int .i64 n4) from rfl); have fu4 := blk_frozen BK5.out 4; have hu5 := (blk_cell BK5.out 5).trans (show _ = some (.int .i64 n5) from rfl); have fu5 := blk_frozen BK5.out 5; have hu6 := (blk_cell BK5.out 6).trans (show _ = some (.string (strOfNums n6)) from rfl); have fu6 := blk_frozen BK5.out 6; have hu7 := (blk_cell BK5.out 7).trans (show _ = some (.int .i64 n7) from rfl); have fu7 := blk_frozen BK5.out 7; have hu8 := (blk_cell BK5.out 8).trans (show _ = some (.int .i64 n8) from rfl); have fu8 := blk_frozen BK5.out 8; have hy0 := (blk_cell BK2.out 0).trans (show _ = some (.string ⟨#[]⟩) from rfl); have fy0 := blk_frozen BK2.out 0; have hy1 := (blk_cell BK2.out 1).trans (show _ = some (.int .i64 0) from rfl); have fy1 := blk_frozen BK2.out 1; have hy2 := (blk_cell BK2.out 2).trans (show _ = some (.bool false) from rfl); have fy2 := blk_frozen BK2.out 2; have hy3 := (blk_cell BK2.out 3).trans (show _ = some (.bool false) from rfl); have fy3 := blk_frozen BK2.out 3; have hy4 := (blk_cell BK2.out 4).trans (show _ = some (.int .i64 0) from rfl); have fy4 := blk_frozen BK2.out 4; have hy5 := (blk_cell BK2.out 5).trans (show _ = some (.int .i64 0) from rfl); have fy5 := blk_frozen BK2.out 5; have hy6 := (blk_cell BK2.out 6).trans (show _ = some (.string ⟨#[]⟩) from rfl); have fy6 := blk_frozen BK2.out 6; have hy7 := (blk_cell BK2.out 7).trans (show _ = some (.int .i64 0) from rfl); have fy7 := blk_frozen BK2.out 7; have hy8 := (blk_cell BK2.out 8).trans (show _ = some (.int .i64 0) from rfl); have fy8 := blk_frozen BK2.out 8)
      refine bodyPost_ret (results_cell_tmpR rfl _ _ g2 89 #[.string (strOfNums n0), .int .i64 n1, .bool n2, .bool n3, .int .i64 n4, .int .i64 n5, .string (strOfNums n6), .int .i64 n7, .int .i64 n8] (0, 0) _ (.int .i64 0) rfl (by refine blk_put (cs := #[.string (strOfNums n0), .int .i64 n1, .bool n2, .bool n3, .int .i64 n4, .int .i64 n5, .string (strOfNums n6), .int .i64 n7, .int .i64 0]) ?_ 8 _ rfl; refine blk_put (cs := #[.string (strOfNums n0), .int .i64 n1, .bool n2, .bool n3, .int .i64 n4, .int .i64 n5, .string (strOfNums n6), .int .i64 0, .int .i64 0]) ?_ 7 _ rfl; refine blk_put (cs := #[.string (strOfNums n0), .int .i64 n1, .bool n2, .bool n3, .int .i64 n4, .int .i64 n5, .string ⟨#[]⟩, .int .i64 0, .int .i64 0]) ?_ 6 _ rfl; refine blk_put (cs := #[.string (strOfNums n0), .int .i64 n1, .bool n2, .bool n3, .int .i64 n4, .int .i64 0, .string ⟨#[]⟩, .int .i64 0, .int .i64 0]) ?_ 5 _ rfl; refine blk_put (cs := #[.string (strOfNums n0), .int .i64 n1, .bool n2, .bool n3, .int .i64 0, .int .i64 0, .string ⟨#[]⟩, .int .i64 0, .int .i64 0]) ?_ 4 _ rfl; refine blk_put (cs := #[.string (strOfNums n0), .int .i64 n1, .bool n2, .bool false, .int .i64 0, .int .i64 0, .string ⟨#[]⟩, .int .i64 0, .int .i64 0]) ?_ 3 _ rfl; refine blk_put (cs := #[.string (strOfNums n0), .int .i64 n1, .bool false, .bool false, .int .i64 0, .int .i64 0, .string ⟨#[]⟩, .int .i64 0, .int .i64 0]) ?_ 2 _ rfl; refine blk_put (cs := #[.string (strOfNums n0), .int .i64 0, .bool false, .bool false, .int .i64 0, .int .i64 0, .string ⟨#[]⟩, .int .i64 0, .int .i64 0]) ?_ 1 _ rfl; refine blk_put (cs := #[.string ⟨#[]⟩, .int .i64 0, .bool false, .bool false, .int .i64 0, .int .i64 0, .string ⟨#[]⟩, .int .i64 0, .int .i64 0]) ?_ 0 _ rfl; exact BK2.out) Try.underlying89 rfl (by kernel_rfl) rfl) rfl ?_
      exact ⟨rfl, by repeat (first | (with_reducible first | exact HB.out | apply below_alloc | apply pw_below_drewN | apply below_drew1 | refine below_set ?_ GE5.out | refine below_set ?_ GE2.out) | exact HB.out)⟩
    | false =>
      go_wp2_with (first
        | (go_at_call 155; (with_reducible refine (DN.out _ HI.out).mono ?_); rintro e wd ⟨rfl, hb⟩; have x_ := Aside0.mk (blk_below BK2.out hb); have y_ := Aside0.mk (blk_below BK5.out hb); have nb_ := Aside0.mk (below_step HB.out hb); clear BK2 BK5 HB HI hb; have BK2 := x_; have BK5 := y_; have HB := nb_; clear x_ y_ nb_; have hu0 := (blk_cell BK5.out 0).trans (show _ = some (.string (strOfNums n0)) from rfl); have fu0 := blk_frozen BK5.out 0; have hu1 := (blk_cell BK5.out 1).trans (show _ = some (.int .i64 n1) from rfl); have fu1 := blk_frozen BK5.out 1; have hu2 := (blk_cell BK5.out 2).trans (show _ = some (.bool n2) from rfl); have fu2 := blk_frozen BK5.out 2; have hu3 := (blk_cell BK5.out 3).trans (show _ = some (.bool n3) from rfl); have fu3 := blk_frozen BK5.out 3; have hu4 := (blk_cell BK5.out 4).trans (show _ = some (.int .i64 n4) from rfl); have fu4 := blk_frozen BK5.out 4; have hu5 := (blk_cell BK5.out 5).trans (show _ = some (.int .i64 n5) from rfl); have fu5 := blk_frozen BK5.out 5; have hu6 := (blk_cell BK5.out 6).trans (show _ = some (.string (strOfNums n6)) from rfl); have fu6 := blk_frozen BK5.out 6; have hu7 := (blk_cell BK5.out 7).trans (show _ = some (.int .i64 n7) from rfl); have fu7 := blk_frozen BK5.out 7; have hu8 := (blk_cell BK5.out 8).trans (show _ = some (.int .i64 n8) from rfl); have fu8 := blk_frozen BK5.out 8; have hy0 := (blk_cell BK2.out 0).trans (show _ = some (.string ⟨#[]⟩) from rfl); have fy0 := blk_frozen BK2.out 0; have hy1 := (blk_cell BK2.out 1).trans (show _ = some (.int .i64 0) from rfl); have fy1 := blk_frozen BK2.out 1; have hy2 := (blk_cell BK2.out 2).trans (show _ = some (.bool false) from rfl); have fy2 := blk_frozen BK2.out 2; have hy3 := (blk_cell BK2.out 3).trans (show _ = some (.bool false) from rfl); have fy3 := blk_frozen BK2.out 3; have hy4 := (blk_cell BK2.out 4).trans (show _ = some (.int .i64 0) from rfl); have fy4 := blk_frozen BK2.out 4; have hy5 := (blk_cell BK2.out 5).trans (show _ = some (.int .i64 0) from rfl); have fy5 := blk_frozen BK2.out 5; have hy6 := (blk_cell BK2.out 6).trans (show _ = some (.string ⟨#[]⟩) from rfl); have fy6 := blk_frozen BK2.out 6; have hy7 := (blk_cell BK2.out 7).trans (show _ = some (.int .i64 0) from rfl); have fy7 := blk_frozen BK2.out 7; have hy8 := (blk_cell BK2.out 8).trans (show _ = some (.int .i64 0) from rfl); have fy8 := blk_frozen BK2.out 8)
        | fail)
      refine bodyPost_ret (results_cell_tmpR rfl _ _ g2 89 #[.string ⟨#[]⟩, .int .i64 0, .bool false, .bool false, .int .i64 0, .int .i64 0, .string ⟨#[]⟩, .int .i64 0, .int .i64 0] (0, 0) _ (.int .i64 4) rfl (by refine blk_put (cs := #[.string ⟨#[]⟩, .int .i64 0, .bool false, .bool false, .int .i64 0, .int .i64 0, .string ⟨#[]⟩, .int .i64 0, .int .i64 0]) ?_ 8 _ rfl; refine blk_put (cs := #[.string ⟨#[]⟩, .int .i64 0, .bool false, .bool false, .int .i64 0, .int .i64 0, .string ⟨#[]⟩, .int .i64 0, .int .i64 0]) ?_ 7 _ rfl; refine blk_put (cs := #[.string ⟨#[]⟩, .int .i64 0, .bool false, .bool false, .int .i64 0, .int .i64 0, .string ⟨#[]⟩, .int .i64 0, .int .i64 0]) ?_ 6 _ rfl; refine blk_put (cs := #[.string ⟨#[]⟩, .int .i64 0, .bool false, .bool false, .int .i64 0, .int .i64 0, .string ⟨#[]⟩, .int .i64 0, .int .i64 0]) ?_ 5 _ rfl; refine blk_put (cs := #[.string ⟨#[]⟩, .int .i64 0, .bool false, .bool false, .int .i64 0, .int .i64 0, .string ⟨#[]⟩, .int .i64 0, .int .i64 0]) ?_ 4 _ rfl; refine blk_put (cs := #[.string ⟨#[]⟩, .int .i64 0, .bool false, .bool false, .int .i64 0, .int .i64 0, .string ⟨#[]⟩, .int .i64 0, .int .i64 0]) ?_ 3 _ rfl; refine blk_put (cs := #[.string ⟨#[]⟩, .int .i64 0, .bool false, .bool false, .int .i64 0, .int .i64 0, .string ⟨#[]⟩, .int .i64 0, .int .i64 0]) ?_ 2 _ rfl; refine blk_put (cs := #[.string ⟨#[]⟩, .int .i64 0, .bool false, .bool false, .int .i64 0, .int .i64 0, .string ⟨#[]⟩, .int .i64 0, .int .i64 0]) ?_ 1 _ rfl; refine blk_put (cs := #[.string ⟨#[]⟩, .int .i64 0, .bool false, .bool false, .int .i64 0, .int .i64 0, .string ⟨#[]⟩, .int .i64 0, .int .i64 0]) ?_ 0 _ rfl; exact BK2.out) Try.underlying89 rfl (by kernel_rfl) rfl) rfl ?_
      exact ⟨rfl, by repeat (first | (with_reducible first | exact HB.out | apply below_alloc | apply pw_below_drewN | apply below_drew1 | refine below_set ?_ GE5.out | refine below_set ?_ GE2.out) | exact HB.out)⟩
set_option maxHeartbeats 64000000 in
set_option maxRecDepth 100000 in
theorem xreadV (A : Option Addr) (c : Nat) (b : List Int) (w : World) (hC : Kd.C (Kd.int .u8) w A b.length b) (hc : b.length ≤ c) (hb : b.length ≤ 10000) (K0 : okL b) (n0 : List Int) (n1 : List Int) (n2 : Int) (n3 : Int) (n4 : Bool) (n5 : Int) (n6 : Int) (n7 : Bool) (n8 : Int) (l1 l2 l3 l4 l5 l6 l7 l8 l9 : List Int) (q1 q2 q3 q4 q5 q6 q7 q8 q9 : Bool) (H0 : someS b false 115 = (n0, l1, q1)) (H1 : someS l1 q1 115 = (n1, l2, q2)) (H2 : uintS l2 q2 = (n2, l3, q3)) (H3 : uintS l3 q3 = (n3, l4, q4)) (H4 : boolS l4 q4 = (n4, l5, q5)) (H5 : smallS l5 q5 = (n5, l6, q6)) (H6 : uintS l6 q6 = (n6, l7, q7)) (H7 : boolS l7 q7 = (n7, l8, q8)) (H8 : uintS l8 q8 = (n8, l9, q9)) (good : Bool) (hg : good = (!q9 && decide (l9 = []))) :
    Calls Try.prog 94 #[.slice A b.length c] w fun e w' => e = .returned (if good = true then .tuple #[.agg #[.string (strOfNums n0), .string (strOfNums n1), .int .u64 n2, .int .u64 n3, .bool n4, .slice none 0 0, .int .i64 n5, .int .u64 n6, .bool n7, .int .u64 n8], .int .i64 0] else .tuple #[.agg #[.string ⟨#[]⟩, .string ⟨#[]⟩, .int .u64 0, .int .u64 0, .bool false, .slice none 0 0, .int .i64 0, .int .u64 0, .bool false, .int .u64 0], .int .i64 4]) ∧ Below w.heap.size w w' := by
  have hut := Try.underlying95
  have HB := Aside0.mk (Below.refl w.heap.size w)
  have HC := Aside0.mk hC
  have Hc := Aside0.mk hc
  have HLN := Aside0.mk hb
  have HG := Aside0.mk hg
  clear hC hc hb hg
  have T0 : True := trivial
  go_enter Try.func94, Try.ntmps94
  go_upto_region 3 with (first
    | ((with_reducible refine gate_dst (N := 2) rfl ?_); refine box_event ?hg (N := 2) ?hd (cs := #[.string ⟨#[]⟩, .string ⟨#[]⟩, .int .u64 0, .int .u64 0, .bool false, .slice none 0 0, .int .i64 0, .int .u64 0, .bool false, .int .u64 0]) (t := 95) ?hr ?_; (case hd => rfl); (case hg => rfl); (case hr => first | (go_simp; done) | (go_simp; rfl)); intro g2 hg wz hbox hb; have BK2 := Aside0.mk hbox; have GE2 := Aside0.mk (by rw [hg]; exact below_size HB.out : w.heap.size ≤ g2); have nb_ := Aside0.mk (below_step HB.out hb); clear HB; have HB := nb_; clear nb_ hbox hb hg)
    | ((with_reducible refine gate_dst (N := 8) rfl ?_); refine box_event ?hg (N := 8) ?hd (cs := #[.slice A b.length c, .int .i64 0, .bool false]) (t := 55) ?hr ?_; (case hd => rfl); (case hg => rfl); (case hr => first | (go_simp; done) | (go_simp; rfl)); intro g hg wy hbox hb; have G := Aside0.mk (by rw [hg]; exact below_size HB.out : w.heap.size ≤ g); have HI := Aside0.mk (show IsX w g wy b b false from ⟨0, Nat.zero_le _, rfl, A, c, hbox, ⟨G.out, Hc.out⟩, HC.out⟩); have N2 := Aside0.mk (by rw [hg]; exact Nat.ne_of_lt (blk_lt BK2.out) : g2 ≠ g); have nb_ := Aside0.mk (below_step HB.out hb); have B2_ := Aside0.mk (blk_below BK2.out hb); clear HB BK2; have HB := nb_; have BK2 := B2_; clear nb_ B2_ hbox hb hg)
    | ((with_reducible refine gate_dst (N := 5) rfl ?_); refine box_event ?hg (N := 5) ?hd (cs := #[.string ⟨#[]⟩, .string ⟨#[]⟩, .int .u64 0, .int .u64 0, .bool false, .slice none 0 0, .int .i64 0, .int .u64 0, .bool false, .int .u64 0]) (t := 95) ?hr ?_; (case hd => rfl); (case hg => rfl); (case hr => first | (go_simp; done) | (go_simp; rfl)); intro g5 hg wv hbox hb; have BK5 := Aside0.mk hbox; have GE5 := Aside0.mk (by rw [hg]; exact below_size HB.out : w.heap.size ≤ g5); have N5 := Aside0.mk (by rw [hg]; exact Nat.ne_of_gt (IsX.ltt HI.out) : g5 ≠ g); have N25 := Aside0.mk (by rw [hg]; exact Nat.ne_of_lt (blk_lt BK2.out) : g2 ≠ g5); have LT25 := Aside0.mk (by rw [hg]; exact blk_lt BK2.out : g2 < g5); have nb_ := Aside0.mk (below_step HB.out hb); have HI_ := Aside0.mk (IsX.beloww HI.out hb); have B2_ := Aside0.mk (blk_below BK2.out hb); clear HB HI BK2; have HB := nb_; have HI := HI_; have BK2 := B2_; clear nb_ HI_ B2_ hbox hb hg; have hw0 := (blk_cell BK5.out 0).trans (show _ = some (.string ⟨#[]⟩) from rfl); have fw0 := blk_frozen BK5.out 0; have hw1 := (blk_cell BK5.out 1).trans (show _ = some (.string ⟨#[]⟩) from rfl); have fw1 := blk_frozen BK5.out 1; have hw2 := (blk_cell BK5.out 2).trans (show _ = some (.int .u64 0) from rfl); have fw2 := blk_frozen BK5.out 2; have hw3 := (blk_cell BK5.out 3).trans (show _ = some (.int .u64 0) from rfl); have fw3 := blk_frozen BK5.out 3; have hw4 := (blk_cell BK5.out 4).trans (show _ = some (.bool false) from rfl); have fw4 := blk_frozen BK5.out 4; have hw5 := (blk_cell BK5.out 5).trans (show _ = some (.slice none 0 0) from rfl); have fw5 := blk_frozen BK5.out 5; have hw6 := (blk_cell BK5.out 6).trans (show _ = some (.int .i64 0) from rfl); have fw6 := blk_frozen BK5.out 6; have hw7 := (blk_cell BK5.out 7).trans (show _ = some (.int .u64 0) from rfl); have fw7 := blk_frozen BK5.out 7; have hw8 := (blk_cell BK5.out 8).trans (show _ = some (.bool false) from rfl); have fw8 := blk_frozen BK5.out 8; have hw9 := (blk_cell BK5.out 9).trans (show _ = some (.int .u64 0) from rfl); have fw9 := blk_frozen BK5.out 9))
  (try simp only [Act.put, List.setIfInBounds_toArray, List.set_cons_zero, List.set_cons_succ])
  generalize hwv : (World.setCell (World.setCell (World.setCell (World.setCell (World.setCell (World.setCell (World.setCell (World.setCell (World.setCell (World.setCell wv ⟨g5, 0, none⟩ (.string ⟨#[]⟩)) ⟨g5, 1, none⟩ (.string ⟨#[]⟩)) ⟨g5, 2, none⟩ (.int .u64 0)) ⟨g5, 3, none⟩ (.int .u64 0)) ⟨g5, 4, none⟩ (.bool false)) ⟨g5, 5, none⟩ (.slice none 0 0)) ⟨g5, 6, none⟩ (.int .i64 0)) ⟨g5, 7, none⟩ (.int .u64 0)) ⟨g5, 8, none⟩ (.bool false)) ⟨g5, 9, none⟩ (.int .u64 0)) = wu
  have BK5u := Aside0.mk (show wu.heap[g5]? = some (.cells #[.string ⟨#[]⟩, .string ⟨#[]⟩, .int .u64 0, .int .u64 0, .bool false, .slice none 0 0, .int .i64 0, .int .u64 0, .bool false, .int .u64 0] 95 (0, 0)) from (by rw [← hwv]; refine blk_put (cs := #[.string ⟨#[]⟩, .string ⟨#[]⟩, .int .u64 0, .int .u64 0, .bool false, .slice none 0 0, .int .i64 0, .int .u64 0, .bool false, .int .u64 0]) ?_ 9 _ rfl; refine blk_put (cs := #[.string ⟨#[]⟩, .string ⟨#[]⟩, .int .u64 0, .int .u64 0, .bool false, .slice none 0 0, .int .i64 0, .int .u64 0, .bool false, .int .u64 0]) ?_ 8 _ rfl; refine blk_put (cs := #[.string ⟨#[]⟩, .string ⟨#[]⟩, .int .u64 0, .int .u64 0, .bool false, .slice none 0 0, .int .i64 0, .int .u64 0, .bool false, .int .u64 0]) ?_ 7 _ rfl; refine blk_put (cs := #[.string ⟨#[]⟩, .string ⟨#[]⟩, .int .u64 0, .int .u64 0, .bool false, .slice none 0 0, .int .i64 0, .int .u64 0, .bool false, .int .u64 0]) ?_ 6 _ rfl; refine blk_put (cs := #[.string ⟨#[]⟩, .string ⟨#[]⟩, .int .u64 0, .int .u64 0, .bool false, .slice none 0 0, .int .i64 0, .int .u64 0, .bool false, .int .u64 0]) ?_ 5 _ rfl; refine blk_put (cs := #[.string ⟨#[]⟩, .string ⟨#[]⟩, .int .u64 0, .int .u64 0, .bool false, .slice none 0 0, .int .i64 0, .int .u64 0, .bool false, .int .u64 0]) ?_ 4 _ rfl; refine blk_put (cs := #[.string ⟨#[]⟩, .string ⟨#[]⟩, .int .u64 0, .int .u64 0, .bool false, .slice none 0 0, .int .i64 0, .int .u64 0, .bool false, .int .u64 0]) ?_ 3 _ rfl; refine blk_put (cs := #[.string ⟨#[]⟩, .string ⟨#[]⟩, .int .u64 0, .int .u64 0, .bool false, .slice none 0 0, .int .i64 0, .int .u64 0, .bool false, .int .u64 0]) ?_ 2 _ rfl; refine blk_put (cs := #[.string ⟨#[]⟩, .string ⟨#[]⟩, .int .u64 0, .int .u64 0, .bool false, .slice none 0 0, .int .i64 0, .int .u64 0, .bool false, .int .u64 0]) ?_ 1 _ rfl; refine blk_put (cs := #[.string ⟨#[]⟩, .string ⟨#[]⟩, .int .u64 0, .int .u64 0, .bool false, .slice none 0 0, .int .i64 0, .int .u64 0, .bool false, .int .u64 0]) ?_ 0 _ rfl; exact BK5.out))
  have BK2u := Aside0.mk (show wu.heap[g2]? = some (.cells #[.string ⟨#[]⟩, .string ⟨#[]⟩, .int .u64 0, .int .u64 0, .bool false, .slice none 0 0, .int .i64 0, .int .u64 0, .bool false, .int .u64 0] 95 (0, 0)) from (by rw [← hwv]; (iterate 10 (refine blk_far ?_ N25.out _)); exact BK2.out))
  have HIu := Aside0.mk (show IsX w g wu b b false from (by rw [← hwv]; exact IsX.wrr HI.out ((((((((((((Wr.refl _ g5 _).setCell 0 _).setCell 1 _).setCell 2 _).setCell 3 _).setCell 4 _).setCell 5 _).setCell 6 _).setCell 7 _).setCell 8 _).setCell 9 _)) (Ne.symm N5.out)))
  have HBu := Aside0.mk (show Below w.heap.size w wu from (by rw [← hwv]; repeat (first | (with_reducible first | exact HB.out | apply below_alloc | apply pw_below_drewN | apply below_drew1 | refine below_set ?_ GE5.out | refine below_set ?_ GE2.out) | exact HB.out)))
  clear hwv BK5 BK2 HI HB hw0 fw0 hw1 fw1 hw2 fw2 hw3 fw3 hw4 fw4 hw5 fw5 hw6 fw6 hw7 fw7 hw8 fw8 hw9 fw9
  have BK5 := BK5u
  have BK2 := BK2u
  have HI := HIu
  have HB := HBu
  clear BK5u BK2u HIu HBu
  have M0 := Aside0.mk (fun W h hB => xtext_any w g W b b false h hB K0)
  rw [H0] at M0
  have M1 := Aside0.mk (fun W h hB => xtext_any w g W b l1 q1 h hB K0)
  rw [H1] at M1
  have M2 := Aside0.mk (fun W h hB => xuint_any w g W b l2 q2 h hB K0)
  rw [H2] at M2
  have M3 := Aside0.mk (fun W h hB => xuint_any w g W b l3 q3 h hB K0)
  rw [H3] at M3
  have M4 := Aside0.mk (fun W h hB => xbool_any w g W b l4 q4 h hB K0)
  rw [H4] at M4
  have M5 := Aside0.mk (fun W h hB => xsmall_any w g W b l5 q5 h hB K0)
  rw [H5] at M5
  have M6 := Aside0.mk (fun W h hB => xuint_any w g W b l6 q6 h hB K0)
  rw [H6] at M6
  have M7 := Aside0.mk (fun W h hB => xbool_any w g W b l7 q7 h hB K0)
  rw [H7] at M7
  have M8 := Aside0.mk (fun W h hB => xuint_any w g W b l8 q8 h hB K0)
  rw [H8] at M8
  clear H0 H1 H2 H3 H4 H5 H6 H7 H8
  go_upto_region 11 with (first
    | (go_at_call 62; have _t := T0; (with_reducible refine (M0.out _ HI.out HB.out).mono ?_); rintro e wx0 ⟨rfl, hi, hW⟩; have HB_ := Aside0.mk (below_wr HB.out hW G.out); have B2_ := Aside0.mk (hW.blk BK2.out (blk_lt BK2.out) N2.out); have B5_ := Aside0.mk (hW.blk BK5.out (blk_lt BK5.out) N5.out); have HI_ := Aside0.mk hi; clear HI HB BK2 BK5 hi hW; have HI := HI_; have HB := HB_; have BK2 := B2_; have BK5 := B5_; clear HI_ HB_ B2_ B5_ T0; have T1 : True := trivial; have hz0 := (blk_cell BK5.out 0).trans rfl; have fz0 := blk_frozen BK5.out 0)
    | (go_at_call 62; have _t := T1; have HI_ := Aside0.mk (show IsX w g (World.setCell wx0 ⟨g5, 0, none⟩ (.string (strOfNums n0))) b l1 q1 from IsX.wrr HI.out ((Wr.refl _ g5 _).setCell 0 _) (Ne.symm N5.out)); have B5_ := Aside0.mk (show (World.setCell wx0 ⟨g5, 0, none⟩ (.string (strOfNums n0))).heap[g5]? = some (.cells #[.string (strOfNums n0), .string ⟨#[]⟩, .int .u64 0, .int .u64 0, .bool false, .slice none 0 0, .int .i64 0, .int .u64 0, .bool false, .int .u64 0] 95 (0, 0)) from blk_put (cs := #[.string ⟨#[]⟩, .string ⟨#[]⟩, .int .u64 0, .int .u64 0, .bool false, .slice none 0 0, .int .i64 0, .int .u64 0, .bool false, .int .u64 0]) BK5.out 0 _ rfl); have B2_ := Aside0.mk (show (World.setCell wx0 ⟨g5, 0, none⟩ (.string (strOfNums n0))).heap[g2]? = some (.cells #[.string ⟨#[]⟩, .string ⟨#[]⟩, .int .u64 0, .int .u64 0, .bool false, .slice none 0 0, .int .i64 0, .int .u64 0, .bool false, .int .u64 0] 95 (0, 0)) from blk_far BK2.out N25.out _); have HB_ := Aside0.mk (show Below w.heap.size w (World.setCell wx0 ⟨g5, 0, none⟩ (.string (strOfNums n0))) from below_set HB.out GE5.out); clear HI BK5 BK2 HB; have HI := HI_; have BK5 := B5_; have BK2 := B2_; have HB := HB_; clear HI_ B5_ B2_ HB_; (with_reducible refine (M1.out _ HI.out HB.out).mono ?_); rintro e wx1 ⟨rfl, hi, hW⟩; have HB_ := Aside0.mk (below_wr HB.out hW G.out); have B2_ := Aside0.mk (hW.blk BK2.out (blk_lt BK2.out) N2.out); have B5_ := Aside0.mk (hW.blk BK5.out (blk_lt BK5.out) N5.out); have HI_ := Aside0.mk hi; clear HI HB BK2 BK5 hi hW; have HI := HI_; have HB := HB_; have BK2 := B2_; have BK5 := B5_; clear HI_ HB_ B2_ B5_ T1; have T2 : True := trivial; have hz1 := (blk_cell BK5.out 1).trans rfl; have fz1 := blk_frozen BK5.out 1)
    | (go_at_call 58; have _t := T2; have HI_ := Aside0.mk (show IsX w g (World.setCell wx1 ⟨g5, 1, none⟩ (.string (strOfNums n1))) b l2 q2 from IsX.wrr HI.out ((Wr.refl _ g5 _).setCell 1 _) (Ne.symm N5.out)); have B5_ := Aside0.mk (show (World.setCell wx1 ⟨g5, 1, none⟩ (.string (strOfNums n1))).heap[g5]? = some (.cells #[.string (strOfNums n0), .string (strOfNums n1), .int .u64 0, .int .u64 0, .bool false, .slice none 0 0, .int .i64 0, .int .u64 0, .bool false, .int .u64 0] 95 (0, 0)) from blk_put (cs := #[.string (strOfNums n0), .string ⟨#[]⟩, .int .u64 0, .int .u64 0, .bool false, .slice none 0 0, .int .i64 0, .int .u64 0, .bool false, .int .u64 0]) BK5.out 1 _ rfl); have B2_ := Aside0.mk (show (World.setCell wx1 ⟨g5, 1, none⟩ (.string (strOfNums n1))).heap[g2]? = some (.cells #[.string ⟨#[]⟩, .string ⟨#[]⟩, .int .u64 0, .int .u64 0, .bool false, .slice none 0 0, .int .i64 0, .int .u64 0, .bool false, .int .u64 0] 95 (0, 0)) from blk_far BK2.out N25.out _); have HB_ := Aside0.mk (show Below w.heap.size w (World.setCell wx1 ⟨g5, 1, none⟩ (.string (strOfNums n1))) from below_set HB.out GE5.out); clear HI BK5 BK2 HB; have HI := HI_; have BK5 := B5_; have BK2 := B2_; have HB := HB_; clear HI_ B5_ B2_ HB_; (with_reducible refine (M2.out _ HI.out HB.out).mono ?_); rintro e wx2 ⟨rfl, hi, hW⟩; have HB_ := Aside0.mk (below_wr HB.out hW G.out); have B2_ := Aside0.mk (hW.blk BK2.out (blk_lt BK2.out) N2.out); have B5_ := Aside0.mk (hW.blk BK5.out (blk_lt BK5.out) N5.out); have HI_ := Aside0.mk hi; clear HI HB BK2 BK5 hi hW; have HI := HI_; have HB := HB_; have BK2 := B2_; have BK5 := B5_; clear HI_ HB_ B2_ B5_ T2; have T3 : True := trivial; have hz2 := (blk_cell BK5.out 2).trans rfl; have fz2 := blk_frozen BK5.out 2)
    | (go_at_call 58; have _t := T3; have HI_ := Aside0.mk (show IsX w g (World.setCell wx2 ⟨g5, 2, none⟩ (.int .u64 n2)) b l3 q3 from IsX.wrr HI.out ((Wr.refl _ g5 _).setCell 2 _) (Ne.symm N5.out)); have B5_ := Aside0.mk (show (World.setCell wx2 ⟨g5, 2, none⟩ (.int .u64 n2)).heap[g5]? = some (.cells #[.string (strOfNums n0), .string (strOfNums n1), .int .u64 n2, .int .u64 0, .bool false, .slice none 0 0, .int .i64 0, .int .u64 0, .bool false, .int .u64 0] 95 (0, 0)) from blk_put (cs := #[.string (strOfNums n0), .string (strOfNums n1), .int .u64 0, .int .u64 0, .bool false, .slice none 0 0, .int .i64 0, .int .u64 0, .bool false, .int .u64 0]) BK5.out 2 _ rfl); have B2_ := Aside0.mk (show (World.setCell wx2 ⟨g5, 2, none⟩ (.int .u64 n2)).heap[g2]? = some (.cells #[.string ⟨#[]⟩, .string ⟨#[]⟩, .int .u64 0, .int .u64 0, .bool false, .slice none 0 0, .int .i64 0, .int .u64 0, .bool false, .int .u64 0] 95 (0, 0)) from blk_far BK2.out N25.out _); have HB_ := Aside0.mk (show Below w.heap.size w (World.setCell wx2 ⟨g5, 2, none⟩ (.int .u64 n2)) from below_set HB.out GE5.out); clear HI BK5 BK2 HB; have HI := HI_; have BK5 := B5_; have BK2 := B2_; have HB := HB_; clear HI_ B5_ B2_ HB_; (with_reducible refine (M3.out _ HI.out HB.out).mono ?_); rintro e wx3 ⟨rfl, hi, hW⟩; have HB_ := Aside0.mk (below_wr HB.out hW G.out); have B2_ := Aside0.mk (hW.blk BK2.out (blk_lt BK2.out) N2.out); have B5_ := Aside0.mk (hW.blk BK5.out (blk_lt BK5.out) N5.out); have HI_ := Aside0.mk hi; clear HI HB BK2 BK5 hi hW; have HI := HI_; have HB := HB_; have BK2 := B2_; have BK5 := B5_; clear HI_ HB_ B2_ B5_ T3; have T4 : True := trivial; have hz3 := (blk_cell BK5.out 3).trans rfl; have fz3 := blk_frozen BK5.out 3)
    | (go_at_call 64; have _t := T4; have HI_ := Aside0.mk (show IsX w g (World.setCell wx3 ⟨g5, 3, none⟩ (.int .u64 n3)) b l4 q4 from IsX.wrr HI.out ((Wr.refl _ g5 _).setCell 3 _) (Ne.symm N5.out)); have B5_ := Aside0.mk (show (World.setCell wx3 ⟨g5, 3, none⟩ (.int .u64 n3)).heap[g5]? = some (.cells #[.string (strOfNums n0), .string (strOfNums n1), .int .u64 n2, .int .u64 n3, .bool false, .slice none 0 0, .int .i64 0, .int .u64 0, .bool false, .int .u64 0] 95 (0, 0)) from blk_put (cs := #[.string (strOfNums n0), .string (strOfNums n1), .int .u64 n2, .int .u64 0, .bool false, .slice none 0 0, .int .i64 0, .int .u64 0, .bool false, .int .u64 0]) BK5.out 3 _ rfl); have B2_ := Aside0.mk (show (World.setCell wx3 ⟨g5, 3, none⟩ (.int .u64 n3)).heap[g2]? = some (.cells #[.string ⟨#[]⟩, .string ⟨#[]⟩, .int .u64 0, .int .u64 0, .bool false, .slice none 0 0, .int .i64 0, .int .u64 0, .bool false, .int .u64 0] 95 (0, 0)) from blk_far BK2.out N25.out _); have HB_ := Aside0.mk (show Below w.heap.size w (World.setCell wx3 ⟨g5, 3, none⟩ (.int .u64 n3)) from below_set HB.out GE5.out); clear HI BK5 BK2 HB; have HI := HI_; have BK5 := B5_; have BK2 := B2_; have HB := HB_; clear HI_ B5_ B2_ HB_; (with_reducible refine (M4.out _ HI.out HB.out).mono ?_); rintro e wx4 ⟨rfl, hi, hW⟩; have HB_ := Aside0.mk (below_wr HB.out hW G.out); have B2_ := Aside0.mk (hW.blk BK2.out (blk_lt BK2.out) N2.out); have B5_ := Aside0.mk (hW.blk BK5.out (blk_lt BK5.out) N5.out); have HI_ := Aside0.mk hi; clear HI HB BK2 BK5 hi hW; have HI := HI_; have HB := HB_; have BK2 := B2_; have BK5 := B5_; clear HI_ HB_ B2_ B5_ T4; have T5 : True := trivial; have hz4 := (blk_cell BK5.out 4).trans rfl; have fz4 := blk_frozen BK5.out 4)
    | (go_at_call 154; have _t := T5; have HI_ := Aside0.mk (show IsX w g (World.setCell wx4 ⟨g5, 4, none⟩ (.bool n4)) b l5 q5 from IsX.wrr HI.out ((Wr.refl _ g5 _).setCell 4 _) (Ne.symm N5.out)); have B5_ := Aside0.mk (show (World.setCell wx4 ⟨g5, 4, none⟩ (.bool n4)).heap[g5]? = some (.cells #[.string (strOfNums n0), .string (strOfNums n1), .int .u64 n2, .int .u64 n3, .bool n4, .slice none 0 0, .int .i64 0, .int .u64 0, .bool false, .int .u64 0] 95 (0, 0)) from blk_put (cs := #[.string (strOfNums n0), .string (strOfNums n1), .int .u64 n2, .int .u64 n3, .bool false, .slice none 0 0, .int .i64 0, .int .u64 0, .bool false, .int .u64 0]) BK5.out 4 _ rfl); have B2_ := Aside0.mk (show (World.setCell wx4 ⟨g5, 4, none⟩ (.bool n4)).heap[g2]? = some (.cells #[.string ⟨#[]⟩, .string ⟨#[]⟩, .int .u64 0, .int .u64 0, .bool false, .slice none 0 0, .int .i64 0, .int .u64 0, .bool false, .int .u64 0] 95 (0, 0)) from blk_far BK2.out N25.out _); have HB_ := Aside0.mk (show Below w.heap.size w (World.setCell wx4 ⟨g5, 4, none⟩ (.bool n4)) from below_set HB.out GE5.out); clear HI BK5 BK2 HB; have HI := HI_; have BK5 := B5_; have BK2 := B2_; have HB := HB_; clear HI_ B5_ B2_ HB_; (with_reducible refine (M5.out _ HI.out HB.out).mono ?_); rintro e wx5 ⟨rfl, hi, hW⟩; have HB_ := Aside0.mk (below_wr HB.out hW G.out); have B2_ := Aside0.mk (hW.blk BK2.out (blk_lt BK2.out) N2.out); have B5_ := Aside0.mk (hW.blk BK5.out (blk_lt BK5.out) N5.out); have HI_ := Aside0.mk hi; clear HI HB BK2 BK5 hi hW; have HI := HI_; have HB := HB_; have BK2 := B2_; have BK5 := B5_; clear HI_ HB_ B2_ B5_ T5; have T6 : True := trivial; have hz5 := (blk_cell BK5.out 6).trans rfl; have fz5 := blk_frozen BK5.out 6)
    | (go_at_call 58; have _t := T6; have HI_ := Aside0.mk (show IsX w g (World.setCell wx5 ⟨g5, 6, none⟩ (.int .i64 n5)) b l6 q6 from IsX.wrr HI.out ((Wr.refl _ g5 _).setCell 6 _) (Ne.symm N5.out)); have B5_ := Aside0.mk (show (World.setCell wx5 ⟨g5, 6, none⟩ (.int .i64 n5)).heap[g5]? = some (.cells #[.string (strOfNums n0), .string (strOfNums n1), .int .u64 n2, .int .u64 n3, .bool n4, .slice none 0 0, .int .i64 n5, .int .u64 0, .bool false, .int .u64 0] 95 (0, 0)) from blk_put (cs := #[.string (strOfNums n0), .string (strOfNums n1), .int .u64 n2, .int .u64 n3, .bool n4, .slice none 0 0, .int .i64 0, .int .u64 0, .bool false, .int .u64 0]) BK5.out 6 _ rfl); have B2_ := Aside0.mk (show (World.setCell wx5 ⟨g5, 6, none⟩ (.int .i64 n5)).heap[g2]? = some (.cells #[.string ⟨#[]⟩, .string ⟨#[]⟩, .int .u64 0, .int .u64 0, .bool false, .slice none 0 0, .int .i64 0, .int .u64 0, .bool false, .int .u64 0] 95 (0, 0)) from blk_far BK2.out N25.out _); have HB_ := Aside0.mk (show Below w.heap.size w (World.setCell wx5 ⟨g5, 6, none⟩ (.int .i64 n5)) from below_set HB.out GE5.out); clear HI BK5 BK2 HB; have HI := HI_; have BK5 := B5_; have BK2 := B2_; have HB := HB_; clear HI_ B5_ B2_ HB_; (with_reducible refine (M6.out _ HI.out HB.out).mono ?_); rintro e wx6 ⟨rfl, hi, hW⟩; have HB_ := Aside0.mk (below_wr HB.out hW G.out); have B2_ := Aside0.mk (hW.blk BK2.out (blk_lt BK2.out) N2.out); have B5_ := Aside0.mk (hW.blk BK5.out (blk_lt BK5.out) N5.out); have HI_ := Aside0.mk hi; clear HI HB BK2 BK5 hi hW; have HI := HI_; have HB := HB_; have BK2 := B2_; have BK5 := B5_; clear HI_ HB_ B2_ B5_ T6; have T7 : True := trivial; have hz6 := (blk_cell BK5.out 7).trans rfl; have fz6 := blk_frozen BK5.out 7)
    | (go_at_call 64; have _t := T7; have HI_ := Aside0.mk (show IsX w g (World.setCell wx6 ⟨g5, 7, none⟩ (.int .u64 n6)) b l7 q7 from IsX.wrr HI.out ((Wr.refl _ g5 _).setCell 7 _) (Ne.symm N5.out)); have B5_ := Aside0.mk (show (World.setCell wx6 ⟨g5, 7, none⟩ (.int .u64 n6)).heap[g5]? = some (.cells #[.string (strOfNums n0), .string (strOfNums n1), .int .u64 n2, .int .u64 n3, .bool n4, .slice none 0 0, .int .i64 n5, .int .u64 n6, .bool false, .int .u64 0] 95 (0, 0)) from blk_put (cs := #[.string (strOfNums n0), .string (strOfNums n1), .int .u64 n2, .int .u64 n3, .bool n4, .slice none 0 0, .int .i64 n5, .int .u64 0, .bool false, .int .u64 0]) BK5.out 7 _ rfl); have B2_ := Aside0.mk (show (World.setCell wx6 ⟨g5, 7, none⟩ (.int .u64 n6)).heap[g2]? = some (.cells #[.string ⟨#[]⟩, .string ⟨#[]⟩, .int .u64 0, .int .u64 0, .bool false, .slice none 0 0, .int .i64 0, .int .u64 0, .bool false, .int .u64 0] 95 (0, 0)) from blk_far BK2.out N25.out _); have HB_ := Aside0.mk (show Below w.heap.size w (World.setCell wx6 ⟨g5, 7, none⟩ (.int .u64 n6)) from below_set HB.out GE5.out); clear HI BK5 BK2 HB; have HI := HI_; have BK5 := B5_; have BK2 := B2_; have HB := HB_; clear HI_ B5_ B2_ HB_; (with_reducible refine (M7.out _ HI.out HB.out).mono ?_); rintro e wx7 ⟨rfl, hi, hW⟩; have HB_ := Aside0.mk (below_wr HB.out hW G.out); have B2_ := Aside0.mk (hW.blk BK2.out (blk_lt BK2.out) N2.out); have B5_ := Aside0.mk (hW.blk BK5.out (blk_lt BK5.out) N5.out); have HI_ := Aside0.mk hi; clear HI HB BK2 BK5 hi hW; have HI := HI_; have HB := HB_; have BK2 := B2_; have BK5 := B5_; clear HI_ HB_ B2_ B5_ T7; have T8 : True := trivial; have hz7 := (blk_cell BK5.out 8).trans rfl; have fz7 := blk_frozen BK5.out 8))
  (try simp only [Act.put, List.setIfInBounds_toArray, List.set_cons_zero, List.set_cons_succ])
  go_cut [] (fun wc => Aside0 (IsX w g wc b l9 q9) ∧ Aside0 (wc.heap[g2]? = some (.cells #[.string ⟨#[]⟩, .string ⟨#[]⟩, .int .u64 0, .int .u64 0, .bool false, .slice none 0 0, .int .i64 0, .int .u64 0, .bool false, .int .u64 0] 95 (0, 0))) ∧ Aside0 (wc.heap[g5]? = some (.cells #[.string (strOfNums n0), .string (strOfNums n1), .int .u64 n2, .int .u64 n3, .bool n4, .slice none 0 0, .int .i64 n5, .int .u64 n6, .bool n7, .int .u64 n8] 95 (0, 0))) ∧ Aside0 (Below w.heap.size w wc))
  case first =>
    go_wp2_with (first
      | (go_at_call 58; have _t := T8; have HI_ := Aside0.mk (show IsX w g (World.setCell wx7 ⟨g5, 8, none⟩ (.bool n7)) b l8 q8 from IsX.wrr HI.out ((Wr.refl _ g5 _).setCell 8 _) (Ne.symm N5.out)); have B5_ := Aside0.mk (show (World.setCell wx7 ⟨g5, 8, none⟩ (.bool n7)).heap[g5]? = some (.cells #[.string (strOfNums n0), .string (strOfNums n1), .int .u64 n2, .int .u64 n3, .bool n4, .slice none 0 0, .int .i64 n5, .int .u64 n6, .bool n7, .int .u64 0] 95 (0, 0)) from blk_put (cs := #[.string (strOfNums n0), .string (strOfNums n1), .int .u64 n2, .int .u64 n3, .bool n4, .slice none 0 0, .int .i64 n5, .int .u64 n6, .bool false, .int .u64 0]) BK5.out 8 _ rfl); have B2_ := Aside0.mk (show (World.setCell wx7 ⟨g5, 8, none⟩ (.bool n7)).heap[g2]? = some (.cells #[.string ⟨#[]⟩, .string ⟨#[]⟩, .int .u64 0, .int .u64 0, .bool false, .slice none 0 0, .int .i64 0, .int .u64 0, .bool false, .int .u64 0] 95 (0, 0)) from blk_far BK2.out N25.out _); have HB_ := Aside0.mk (show Below w.heap.size w (World.setCell wx7 ⟨g5, 8, none⟩ (.bool n7)) from below_set HB.out GE5.out); clear HI BK5 BK2 HB; have HI := HI_; have BK5 := B5_; have BK2 := B2_; have HB := HB_; clear HI_ B5_ B2_ HB_; (with_reducible refine (M8.out _ HI.out HB.out).mono ?_); rintro e wx8 ⟨rfl, hi, hW⟩; have HB_ := Aside0.mk (below_wr HB.out hW G.out); have B2_ := Aside0.mk (hW.blk BK2.out (blk_lt BK2.out) N2.out); have B5_ := Aside0.mk (hW.blk BK5.out (blk_lt BK5.out) N5.out); have HI_ := Aside0.mk hi; clear HI HB BK2 BK5 hi hW; have HI := HI_; have HB := HB_; have BK2 := B2_; have BK5 := B5_; clear HI_ HB_ B2_ B5_ T8; have T9 : True := trivial; have hz8 := (blk_cell BK5.out 9).trans rfl; have fz8 := blk_frozen BK5.out 9))
    go_meet
    case rel => exact ⟨⟨IsX.wrr HI.out ((Wr.refl _ g5 _).setCell 9 _) (Ne.symm N5.out)⟩, ⟨by refine blk_far ?_ N25.out _; exact BK2.out⟩, ⟨by refine blk_put (cs := #[.string (strOfNums n0), .string (strOfNums n1), .int .u64 n2, .int .u64 n3, .bool n4, .slice none 0 0, .int .i64 n5, .int .u64 n6, .bool n7, .int .u64 0]) ?_ 9 _ rfl; exact BK5.out⟩, ⟨by repeat (first | (with_reducible first | exact HB.out | apply below_alloc | apply pw_below_drewN | apply below_drew1 | refine below_set ?_ GE5.out | refine below_set ?_ GE2.out) | exact HB.out)⟩⟩
  case rest =>
    obtain ⟨HI, BK2, BK5, HB⟩ := hcut
    have DN := Aside0.mk (fun W h => xdone_any w g W b l9 q9 h good HG.out)
    have hn25 := N25.out
    have hn52 := Ne.symm N25.out
    clear HG
    cases good with
    | true =>
      go_wp2_with (go_at_call 155; (with_reducible refine (DN.out _ HI.out).mono ?_); rintro e wd ⟨rfl, hb⟩; have x_ := Aside0.mk (blk_below BK2.out hb); have y_ := Aside0.mk (blk_below BK5.out hb); have nb_ := Aside0.mk (below_step HB.out hb); clear BK2 BK5 HB HI hb; have BK2 := x_; have BK5 := y_; have HB := nb_; clear x_ y_ nb_; have hu0 := (blk_cell BK5.out 0).trans (show _ = some (.string (strOfNums n0)) from rfl); have fu0 := blk_frozen BK5.out 0; have hu1 := (blk_cell BK5.out 1).trans (show _ = some (.string (strOfNums n1)) from rfl); have fu1 := blk_frozen BK5.out 1; have hu2 := (blk_cell BK5.out 2).trans (show _ = some (.int .u64 n2) from rfl); have fu2 := blk_frozen BK5.out 2; have hu3 := (blk_cell BK5.out 3).trans (show _ = some (.int .u64 n3) from rfl); have fu3 := blk_frozen BK5.out 3; have hu4 := (blk_cell BK5.out 4).trans (show _ = some (.bool n4) from rfl); have fu4 := blk_frozen BK5.out 4; have hu5 := (blk_cell BK5.out 5).trans (show _ = some (.slice none 0 0) from rfl); have fu5 := blk_frozen BK5.out 5; have hu6 := (blk_cell BK5.out 6).trans (show _ = some (.int .i64 n5) from rfl); have fu6 := blk_frozen BK5.out 6; have hu7 := (blk_cell BK5.out 7).trans (show _ = some (.int .u64 n6) from rfl); have fu7 := blk_frozen BK5.out 7; have hu8 := (blk_cell BK5.out 8).trans (show _ = some (.bool n7) from rfl); have fu8 := blk_frozen BK5.out 8; have hu9 := (blk_cell BK5.out 9).trans (show _ = some (.int .u64 n8) from rfl); have fu9 := blk_frozen BK5.out 9; have hy0 := (blk_cell BK2.out 0).trans (show _ = some (.string ⟨#[]⟩) from rfl); have fy0 := blk_frozen BK2.out 0; have hy1 := (blk_cell BK2.out 1).trans (show _ = some (.string ⟨#[]⟩) from rfl); have fy1 := blk_frozen BK2.out 1; have hy2 := (blk_cell BK2.out 2).trans (show _ = some (.int .u64 0) from rfl); have fy2 := blk_frozen BK2.out 2; have hy3 := (blk_cell BK2.out 3).trans (show _ = some (.int .u64 0) from rfl); have fy3 := blk_frozen BK2.out 3; have hy4 := (blk_cell BK2.out 4).trans (show _ = some (.bool false) from rfl); have fy4 := blk_frozen BK2.out 4; have hy5 := (blk_cell BK2.out 5).trans (show _ = some (.slice none 0 0) from rfl); have fy5 := blk_frozen BK2.out 5; have hy6 := (blk_cell BK2.out 6).trans (show _ = some (.int .i64 0) from rfl); have fy6 := blk_frozen BK2.out 6; have hy7 := (blk_cell BK2.out 7).trans (show _ = some (.int .u64 0) from rfl); have fy7 := blk_frozen BK2.out 7; have hy8 := (blk_cell BK2.out 8).trans (show _ = some (.bool false) from rfl); have fy8 := blk_frozen BK2.out 8; have hy9 := (blk_cell BK2.out 9).trans (show _ = some (.int .u64 0) from rfl); have fy9 := blk_frozen BK2.out 9)
      refine bodyPost_ret (results_cell_tmpR rfl _ _ g2 95 #[.string (strOfNums n0), .string (strOfNums n1), .int .u64 n2, .int .u64 n3, .bool n4, .slice none 0 0, .int .i64 n5, .int .u64 n6, .bool n7, .int .u64 n8] (0, 0) _ (.int .i64 0) rfl (by refine blk_put (cs := #[.string (strOfNums n0), .string (strOfNums n1), .int .u64 n2, .int .u64 n3, .bool n4, .slice none 0 0, .int .i64 n5, .int .u64 n6, .bool n7, .int .u64 0]) ?_ 9 _ rfl; refine blk_put (cs := #[.string (strOfNums n0), .string (strOfNums n1), .int .u64 n2, .int .u64 n3, .bool n4, .slice none 0 0, .int .i64 n5, .int .u64 n6, .bool false, .int .u64 0]) ?_ 8 _ rfl; refine blk_put (cs := #[.string (strOfNums n0), .string (strOfNums n1), .int .u64 n2, .int .u64 n3, .bool n4, .slice none 0 0, .int .i64 n5, .int .u64 0, .bool false, .int .u64 0]) ?_ 7 _ rfl; refine blk_put (cs := #[.string (strOfNums n0), .string (strOfNums n1), .int .u64 n2, .int .u64 n3, .bool n4, .slice none 0 0, .int .i64 0, .int .u64 0, .bool false, .int .u64 0]) ?_ 6 _ rfl; refine blk_put (cs := #[.string (strOfNums n0), .string (strOfNums n1), .int .u64 n2, .int .u64 n3, .bool n4, .slice none 0 0, .int .i64 0, .int .u64 0, .bool false, .int .u64 0]) ?_ 5 _ rfl; refine blk_put (cs := #[.string (strOfNums n0), .string (strOfNums n1), .int .u64 n2, .int .u64 n3, .bool false, .slice none 0 0, .int .i64 0, .int .u64 0, .bool false, .int .u64 0]) ?_ 4 _ rfl; refine blk_put (cs := #[.string (strOfNums n0), .string (strOfNums n1), .int .u64 n2, .int .u64 0, .bool false, .slice none 0 0, .int .i64 0, .int .u64 0, .bool false, .int .u64 0]) ?_ 3 _ rfl; refine blk_put (cs := #[.string (strOfNums n0), .string (strOfNums n1), .int .u64 0, .int .u64 0, .bool false, .slice none 0 0, .int .i64 0, .int .u64 0, .bool false, .int .u64 0]) ?_ 2 _ rfl; refine blk_put (cs := #[.string (strOfNums n0), .string ⟨#[]⟩, .int .u64 0, .int .u64 0, .bool false, .slice none 0 0, .int .i64 0, .int .u64 0, .bool false, .int .u64 0]) ?_ 1 _ rfl; refine blk_put (cs := #[.string ⟨#[]⟩, .string ⟨#[]⟩, .int .u64 0, .int .u64 0, .bool false, .slice none 0 0, .int .i64 0, .int .u64 0, .bool false, .int .u64 0]) ?_ 0 _ rfl; exact BK2.out) Try.underlying95 rfl (by kernel_rfl) rfl) rfl ?_
      exact ⟨rfl, by repeat (first | (with_reducible first | exact HB.out | apply below_alloc | apply pw_below_drewN | apply below_drew1 | refine below_set ?_ GE5.out | refine below_set ?_ GE2.out) | exact HB.out)⟩
    | false =>
      go_wp2_with (first
        | (go_at_call 155; (with_reducible refine (DN.out _ HI.out).mono ?_); rintro e wd ⟨rfl, hb⟩; have x_ := Aside0.mk (blk_below BK2.out hb); have y_ := Aside0.mk (blk_below BK5.out hb); have nb_ := Aside0.mk (below_step HB.out hb); clear BK2 BK5 HB HI hb; have BK2 := x_; have BK5 := y_; have HB := nb_; clear x_ y_ nb_; have hu0 := (blk_cell BK5.out 0).trans (show _ = some (.string (strOfNums n0)) from rfl); have fu0 := blk_frozen BK5.out 0; have hu1 := (blk_cell BK5.out 1).trans (show _ = some (.string (strOfNums n1)) from rfl); have fu1 := blk_frozen BK5.out 1; have hu2 := (blk_cell BK5.out 2).trans (show _ = some (.int .u64 n2) from rfl); have fu2 := blk_frozen BK5.out 2; have hu3 := (blk_cell BK5.out 3).trans (show _ = some (.int .u64 n3) from rfl); have fu3 := blk_frozen BK5.out 3; have hu4 := (blk_cell BK5.out 4).trans (show _ = some (.bool n4) from rfl); have fu4 := blk_frozen BK5.out 4; have hu5 := (blk_cell BK5.out 5).trans (show _ = some (.slice none 0 0) from rfl); have fu5 := blk_frozen BK5.out 5; have hu6 := (blk_cell BK5.out 6).trans (show _ = some (.int .i64 n5) from rfl); have fu6 := blk_frozen BK5.out 6; have hu7 := (blk_cell BK5.out 7).trans (show _ = some (.int .u64 n6) from rfl); have fu7 := blk_frozen BK5.out 7; have hu8 := (blk_cell BK5.out 8).trans (show _ = some (.bool n7) from rfl); have fu8 := blk_frozen BK5.out 8; have hu9 := (blk_cell BK5.out 9).trans (show _ = some (.int .u64 n8) from rfl); have fu9 := blk_frozen BK5.out 9; have hy0 := (blk_cell BK2.out 0).trans (show _ = some (.string ⟨#[]⟩) from rfl); have fy0 := blk_frozen BK2.out 0; have hy1 := (blk_cell BK2.out 1).trans (show _ = some (.string ⟨#[]⟩) from rfl); have fy1 := blk_frozen BK2.out 1; have hy2 := (blk_cell BK2.out 2).trans (show _ = some (.int .u64 0) from rfl); have fy2 := blk_frozen BK2.out 2; have hy3 := (blk_cell BK2.out 3).trans (show _ = some (.int .u64 0) from rfl); have fy3 := blk_frozen BK2.out 3; have hy4 := (blk_cell BK2.out 4).trans (show _ = some (.bool false) from rfl); have fy4 := blk_frozen BK2.out 4; have hy5 := (blk_cell BK2.out 5).trans (show _ = some (.slice none 0 0) from rfl); have fy5 := blk_frozen BK2.out 5; have hy6 := (blk_cell BK2.out 6).trans (show _ = some (.int .i64 0) from rfl); have fy6 := blk_frozen BK2.out 6; have hy7 := (blk_cell BK2.out 7).trans (show _ = some (.int .u64 0) from rfl); have fy7 := blk_frozen BK2.out 7; have hy8 := (blk_cell BK2.out 8).trans (show _ = some (.bool false) from rfl); have fy8 := blk_frozen BK2.out 8; have hy9 := (blk_cell BK2.out 9).trans (show _ = some (.int .u64 0) from rfl); have fy9 := blk_frozen BK2.out 9)
        | fail)
      refine bodyPost_ret (results_cell_tmpR rfl _ _ g2 95 #[.string ⟨#[]⟩, .string ⟨#[]⟩, .int .u64 0, .int .u64 0, .bool false, .slice none 0 0, .int .i64 0, .int .u64 0, .bool false, .int .u64 0] (0, 0) _ (.int .i64 4) rfl (by refine blk_put (cs := #[.string ⟨#[]⟩, .string ⟨#[]⟩, .int .u64 0, .int .u64 0, .bool false, .slice none 0 0, .int .i64 0, .int .u64 0, .bool false, .int .u64 0]) ?_ 9 _ rfl; refine blk_put (cs := #[.string ⟨#[]⟩, .string ⟨#[]⟩, .int .u64 0, .int .u64 0, .bool false, .slice none 0 0, .int .i64 0, .int .u64 0, .bool false, .int .u64 0]) ?_ 8 _ rfl; refine blk_put (cs := #[.string ⟨#[]⟩, .string ⟨#[]⟩, .int .u64 0, .int .u64 0, .bool false, .slice none 0 0, .int .i64 0, .int .u64 0, .bool false, .int .u64 0]) ?_ 7 _ rfl; refine blk_put (cs := #[.string ⟨#[]⟩, .string ⟨#[]⟩, .int .u64 0, .int .u64 0, .bool false, .slice none 0 0, .int .i64 0, .int .u64 0, .bool false, .int .u64 0]) ?_ 6 _ rfl; refine blk_put (cs := #[.string ⟨#[]⟩, .string ⟨#[]⟩, .int .u64 0, .int .u64 0, .bool false, .slice none 0 0, .int .i64 0, .int .u64 0, .bool false, .int .u64 0]) ?_ 5 _ rfl; refine blk_put (cs := #[.string ⟨#[]⟩, .string ⟨#[]⟩, .int .u64 0, .int .u64 0, .bool false, .slice none 0 0, .int .i64 0, .int .u64 0, .bool false, .int .u64 0]) ?_ 4 _ rfl; refine blk_put (cs := #[.string ⟨#[]⟩, .string ⟨#[]⟩, .int .u64 0, .int .u64 0, .bool false, .slice none 0 0, .int .i64 0, .int .u64 0, .bool false, .int .u64 0]) ?_ 3 _ rfl; refine blk_put (cs := #[.string ⟨#[]⟩, .string ⟨#[]⟩, .int .u64 0, .int .u64 0, .bool false, .slice none 0 0, .int .i64 0, .int .u64 0, .bool false, .int .u64 0]) ?_ 2 _ rfl; refine blk_put (cs := #[.string ⟨#[]⟩, .string ⟨#[]⟩, .int .u64 0, .int .u64 0, .bool false, .slice none 0 0, .int .i64 0, .int .u64 0, .bool false, .int .u64 0]) ?_ 1 _ rfl; refine blk_put (cs := #[.string ⟨#[]⟩, .string ⟨#[]⟩, .int .u64 0, .int .u64 0, .bool false, .slice none 0 0, .int .i64 0, .int .u64 0, .bool false, .int .u64 0]) ?_ 0 _ rfl; exact BK2.out) Try.underlying95 rfl (by kernel_rfl) rfl) rfl ?_
      exact ⟨rfl, by repeat (first | (with_reducible first | exact HB.out | apply below_alloc | apply pw_below_drewN | apply below_drew1 | refine below_set ?_ GE5.out | refine below_set ?_ GE2.out) | exact HB.out)⟩
set_option maxHeartbeats 64000000 in
set_option maxRecDepth 100000 in
theorem xreadU (A : Option Addr) (c : Nat) (b : List Int) (w : World) (hC : Kd.C (Kd.int .u8) w A b.length b) (hc : b.length ≤ c) (hb : b.length ≤ 10000) (K0 : okL b) (n0 : List Int) (n1 : List Int) (n2 : Int) (n3 : Int) (l1 l2 l3 l4 : List Int) (q1 q2 q3 q4 : Bool) (H0 : someS b false 115 = (n0, l1, q1)) (H1 : someS l1 q1 115 = (n1, l2, q2)) (H2 : uintS l2 q2 = (n2, l3, q3)) (H3 : uintS l3 q3 = (n3, l4, q4)) (good : Bool) (hg : good = (!q4 && decide (l4 = []))) :
    Calls Try.prog 97 #[.slice A b.length c] w fun e w' => e = .returned (if good = true then .tuple #[.agg #[.string (strOfNums n0), .string (strOfNums n1), .int .u64 n2, .int .u64 n3, .slice none 0 0], .int .i64 0] else .tuple #[.agg #[.string ⟨#[]⟩, .string ⟨#[]⟩, .int .u64 0, .int .u64 0, .slice none 0 0], .int .i64 4]) ∧ Below w.heap.size w w' := by
  have hut := Try.underlying101
  have HB := Aside0.mk (Below.refl w.heap.size w)
  have HC := Aside0.mk hC
  have Hc := Aside0.mk hc
  have HLN := Aside0.mk hb
  have HG := Aside0.mk hg
  clear hC hc hb hg
  have T0 : True := trivial
  go_enter Try.func97, Try.ntmps97
  go_upto_region 3 with (first
    | ((with_reducible refine gate_dst (N := 2) rfl ?_); refine box_event ?hg (N := 2) ?hd (cs := #[.string ⟨#[]⟩, .string ⟨#[]⟩, .int .u64 0, .int .u64 0, .slice none 0 0]) (t := 101) ?hr ?_; (case hd => rfl); (case hg => rfl); (case hr => first | (go_simp; done) | (go_simp; rfl)); intro g2 hg wz hbox hb; have BK2 := Aside0.mk hbox; have GE2 := Aside0.mk (by rw [hg]; exact below_size HB.out : w.heap.size ≤ g2); have nb_ := Aside0.mk (below_step HB.out hb); clear HB; have HB := nb_; clear nb_ hbox hb hg)
    | ((with_reducible refine gate_dst (N := 8) rfl ?_); refine box_event ?hg (N := 8) ?hd (cs := #[.slice A b.length c, .int .i64 0, .bool false]) (t := 55) ?hr ?_; (case hd => rfl); (case hg => rfl); (case hr => first | (go_simp; done) | (go_simp; rfl)); intro g hg wy hbox hb; have G := Aside0.mk (by rw [hg]; exact below_size HB.out : w.heap.size ≤ g); have HI := Aside0.mk (show IsX w g wy b b false from ⟨0, Nat.zero_le _, rfl, A, c, hbox, ⟨G.out, Hc.out⟩, HC.out⟩); have N2 := Aside0.mk (by rw [hg]; exact Nat.ne_of_lt (blk_lt BK2.out) : g2 ≠ g); have nb_ := Aside0.mk (below_step HB.out hb); have B2_ := Aside0.mk (blk_below BK2.out hb); clear HB BK2; have HB := nb_; have BK2 := B2_; clear nb_ B2_ hbox hb hg)
    | ((with_reducible refine gate_dst (N := 5) rfl ?_); refine box_event ?hg (N := 5) ?hd (cs := #[.string ⟨#[]⟩, .string ⟨#[]⟩, .int .u64 0, .int .u64 0, .slice none 0 0]) (t := 101) ?hr ?_; (case hd => rfl); (case hg => rfl); (case hr => first | (go_simp; done) | (go_simp; rfl)); intro g5 hg wv hbox hb; have BK5 := Aside0.mk hbox; have GE5 := Aside0.mk (by rw [hg]; exact below_size HB.out : w.heap.size ≤ g5); have N5 := Aside0.mk (by rw [hg]; exact Nat.ne_of_gt (IsX.ltt HI.out) : g5 ≠ g); have N25 := Aside0.mk (by rw [hg]; exact Nat.ne_of_lt (blk_lt BK2.out) : g2 ≠ g5); have LT25 := Aside0.mk (by rw [hg]; exact blk_lt BK2.out : g2 < g5); have nb_ := Aside0.mk (below_step HB.out hb); have HI_ := Aside0.mk (IsX.beloww HI.out hb); have B2_ := Aside0.mk (blk_below BK2.out hb); clear HB HI BK2; have HB := nb_; have HI := HI_; have BK2 := B2_; clear nb_ HI_ B2_ hbox hb hg; have hw0 := (blk_cell BK5.out 0).trans (show _ = some (.string ⟨#[]⟩) from rfl); have fw0 := blk_frozen BK5.out 0; have hw1 := (blk_cell BK5.out 1).trans (show _ = some (.string ⟨#[]⟩) from rfl); have fw1 := blk_frozen BK5.out 1; have hw2 := (blk_cell BK5.out 2).trans (show _ = some (.int .u64 0) from rfl); have fw2 := blk_frozen BK5.out 2; have hw3 := (blk_cell BK5.out 3).trans (show _ = some (.int .u64 0) from rfl); have fw3 := blk_frozen BK5.out 3; have hw4 := (blk_cell BK5.out 4).trans (show _ = some (.slice none 0 0) from rfl); have fw4 := blk_frozen BK5.out 4))
  (try simp only [Act.put, List.setIfInBounds_toArray, List.set_cons_zero, List.set_cons_succ])
  generalize hwv : (World.setCell (World.setCell (World.setCell (World.setCell (World.setCell wv ⟨g5, 0, none⟩ (.string ⟨#[]⟩)) ⟨g5, 1, none⟩ (.string ⟨#[]⟩)) ⟨g5, 2, none⟩ (.int .u64 0)) ⟨g5, 3, none⟩ (.int .u64 0)) ⟨g5, 4, none⟩ (.slice none 0 0)) = wu
  have BK5u := Aside0.mk (show wu.heap[g5]? = some (.cells #[.string ⟨#[]⟩, .string ⟨#[]⟩, .int .u64 0, .int .u64 0, .slice none 0 0] 101 (0, 0)) from (by rw [← hwv]; refine blk_put (cs := #[.string ⟨#[]⟩, .string ⟨#[]⟩, .int .u64 0, .int .u64 0, .slice none 0 0]) ?_ 4 _ rfl; refine blk_put (cs := #[.string ⟨#[]⟩, .string ⟨#[]⟩, .int .u64 0, .int .u64 0, .slice none 0 0]) ?_ 3 _ rfl; refine blk_put (cs := #[.string ⟨#[]⟩, .string ⟨#[]⟩, .int .u64 0, .int .u64 0, .slice none 0 0]) ?_ 2 _ rfl; refine blk_put (cs := #[.string ⟨#[]⟩, .string ⟨#[]⟩, .int .u64 0, .int .u64 0, .slice none 0 0]) ?_ 1 _ rfl; refine blk_put (cs := #[.string ⟨#[]⟩, .string ⟨#[]⟩, .int .u64 0, .int .u64 0, .slice none 0 0]) ?_ 0 _ rfl; exact BK5.out))
  have BK2u := Aside0.mk (show wu.heap[g2]? = some (.cells #[.string ⟨#[]⟩, .string ⟨#[]⟩, .int .u64 0, .int .u64 0, .slice none 0 0] 101 (0, 0)) from (by rw [← hwv]; (iterate 5 (refine blk_far ?_ N25.out _)); exact BK2.out))
  have HIu := Aside0.mk (show IsX w g wu b b false from (by rw [← hwv]; exact IsX.wrr HI.out (((((((Wr.refl _ g5 _).setCell 0 _).setCell 1 _).setCell 2 _).setCell 3 _).setCell 4 _)) (Ne.symm N5.out)))
  have HBu := Aside0.mk (show Below w.heap.size w wu from (by rw [← hwv]; repeat (first | (with_reducible first | exact HB.out | apply below_alloc | apply pw_below_drewN | apply below_drew1 | refine below_set ?_ GE5.out | refine below_set ?_ GE2.out) | exact HB.out)))
  clear hwv BK5 BK2 HI HB hw0 fw0 hw1 fw1 hw2 fw2 hw3 fw3 hw4 fw4
  have BK5 := BK5u
  have BK2 := BK2u
  have HI := HIu
  have HB := HBu
  clear BK5u BK2u HIu HBu
  have M0 := Aside0.mk (fun W h hB => xtext_any w g W b b false h hB K0)
  rw [H0] at M0
  have M1 := Aside0.mk (fun W h hB => xtext_any w g W b l1 q1 h hB K0)
  rw [H1] at M1
  have M2 := Aside0.mk (fun W h hB => xuint_any w g W b l2 q2 h hB K0)
  rw [H2] at M2
  have M3 := Aside0.mk (fun W h hB => xuint_any w g W b l3 q3 h hB K0)
  rw [H3] at M3
  clear H0 H1 H2 H3
  go_upto_region 6 with (first
    | (go_at_call 62; have _t := T0; (with_reducible refine (M0.out _ HI.out HB.out).mono ?_); rintro e wx0 ⟨rfl, hi, hW⟩; have HB_ := Aside0.mk (below_wr HB.out hW G.out); have B2_ := Aside0.mk (hW.blk BK2.out (blk_lt BK2.out) N2.out); have B5_ := Aside0.mk (hW.blk BK5.out (blk_lt BK5.out) N5.out); have HI_ := Aside0.mk hi; clear HI HB BK2 BK5 hi hW; have HI := HI_; have HB := HB_; have BK2 := B2_; have BK5 := B5_; clear HI_ HB_ B2_ B5_ T0; have T1 : True := trivial; have hz0 := (blk_cell BK5.out 0).trans rfl; have fz0 := blk_frozen BK5.out 0)
    | (go_at_call 62; have _t := T1; have HI_ := Aside0.mk (show IsX w g (World.setCell wx0 ⟨g5, 0, none⟩ (.string (strOfNums n0))) b l1 q1 from IsX.wrr HI.out ((Wr.refl _ g5 _).setCell 0 _) (Ne.symm N5.out)); have B5_ := Aside0.mk (show (World.setCell wx0 ⟨g5, 0, none⟩ (.string (strOfNums n0))).heap[g5]? = some (.cells #[.string (strOfNums n0), .string ⟨#[]⟩, .int .u64 0, .int .u64 0, .slice none 0 0] 101 (0, 0)) from blk_put (cs := #[.string ⟨#[]⟩, .string ⟨#[]⟩, .int .u64 0, .int .u64 0, .slice none 0 0]) BK5.out 0 _ rfl); have B2_ := Aside0.mk (show (World.setCell wx0 ⟨g5, 0, none⟩ (.string (strOfNums n0))).heap[g2]? = some (.cells #[.string ⟨#[]⟩, .string ⟨#[]⟩, .int .u64 0, .int .u64 0, .slice none 0 0] 101 (0, 0)) from blk_far BK2.out N25.out _); have HB_ := Aside0.mk (show Below w.heap.size w (World.setCell wx0 ⟨g5, 0, none⟩ (.string (strOfNums n0))) from below_set HB.out GE5.out); clear HI BK5 BK2 HB; have HI := HI_; have BK5 := B5_; have BK2 := B2_; have HB := HB_; clear HI_ B5_ B2_ HB_; (with_reducible refine (M1.out _ HI.out HB.out).mono ?_); rintro e wx1 ⟨rfl, hi, hW⟩; have HB_ := Aside0.mk (below_wr HB.out hW G.out); have B2_ := Aside0.mk (hW.blk BK2.out (blk_lt BK2.out) N2.out); have B5_ := Aside0.mk (hW.blk BK5.out (blk_lt BK5.out) N5.out); have HI_ := Aside0.mk hi; clear HI HB BK2 BK5 hi hW; have HI := HI_; have HB := HB_; have BK2 := B2_; have BK5 := B5_; clear HI_ HB_ B2_ B5_ T1; have T2 : True := trivial; have hz1 := (blk_cell BK5.out 1).trans rfl; have fz1 := blk_frozen BK5.out 1)
    | (go_at_call 58; have _t := T2; have HI_ := Aside0.mk (show IsX w g (World.setCell wx1 ⟨g5, 1, none⟩ (.string (strOfNums n1))) b l2 q2 from IsX.wrr HI.out ((Wr.refl _ g5 _).setCell 1 _) (Ne.symm N5.out)); have B5_ := Aside0.mk (show (World.setCell wx1 ⟨g5, 1, none⟩ (.string (strOfNums n1))).heap[g5]? = some (.cells #[.string (strOfNums n0), .string (strOfNums n1), .int .u64 0, .int .u64 0, .slice none 0 0] 101 (0, 0)) from blk_put (cs := #[.string (strOfNums n0), .string ⟨#[]⟩, .int .u64 0, .int .u64 0, .slice none 0 0]) BK5.out 1 _ rfl); have B2_ := Aside0.mk (show (World.setCell wx1 ⟨g5, 1, none⟩ (.string (strOfNums n1))).heap[g2]? = some (.cells #[.string ⟨#[]⟩, .string ⟨#[]⟩, .int .u64 0, .int .u64 0, .slice none 0 0] 101 (0, 0)) from blk_far BK2.out N25.out _); have HB_ := Aside0.mk (show Below w.heap.size w (World.setCell wx1 ⟨g5, 1, none⟩ (.string (strOfNums n1))) from below_set HB.out GE5.out); clear HI BK5 BK2 HB; have HI := HI_; have BK5 := B5_; have BK2 := B2_; have HB := HB_; clear HI_ B5_ B2_ HB_; (with_reducible refine (M2.out _ HI.out HB.out).mono ?_); rintro e wx2 ⟨rfl, hi, hW⟩; have HB_ := Aside0.mk (below_wr HB.out hW G.out); have B2_ := Aside0.mk (hW.blk BK2.out (blk_lt BK2.out) N2.out); have B5_ := Aside0.mk (hW.blk BK5.out (blk_lt BK5.out) N5.out); have HI_ := Aside0.mk hi; clear HI HB BK2 BK5 hi hW; have HI := HI_; have HB := HB_; have BK2 := B2_; have BK5 := B5_; clear HI_ HB_ B2_ B5_ T2; have T3 : True := trivial; have hz2 := (blk_cell BK5.out 2).trans rfl; have fz2 := blk_frozen BK5.out 2))
  (try simp only [Act.put, List.setIfInBounds_toArray, List.set_cons_zero, List.set_cons_succ])
  go_cut [] (fun wc => Aside0 (IsX w g wc b l4 q4) ∧ Aside0 (wc.heap[g2]? = some (.cells #[.string ⟨#[]⟩, .string ⟨#[]⟩, .int .u64 0, .int .u64 0, .slice none 0 0] 101 (0, 0))) ∧ Aside0 (wc.heap[g5]? = some (.cells #[.string (strOfNums n0), .string (strOfNums n1), .int .u64 n2, .int .u64 n3, .slice none 0 0] 101 (0, 0))) ∧ Aside0 (Below w.heap.size w wc))
  case first =>
    go_wp2_with (first
      | (go_at_call 58; have _t := T3; have HI_ := Aside0.mk (show IsX w g (World.setCell wx2 ⟨g5, 2, none⟩ (.int .u64 n2)) b l3 q3 from IsX.wrr HI.out ((Wr.refl _ g5 _).setCell 2 _) (Ne.symm N5.out)); have B5_ := Aside0.mk (show (World.setCell wx2 ⟨g5, 2, none⟩ (.int .u64 n2)).heap[g5]? = some (.cells #[.string (strOfNums n0), .string (strOfNums n1), .int .u64 n2, .int .u64 0, .slice none 0 0] 101 (0, 0)) from blk_put (cs := #[.string (strOfNums n0), .string (strOfNums n1), .int .u64 0, .int .u64 0, .slice none 0 0]) BK5.out 2 _ rfl); have B2_ := Aside0.mk (show (World.setCell wx2 ⟨g5, 2, none⟩ (.int .u64 n2)).heap[g2]? = some (.cells #[.string ⟨#[]⟩, .string ⟨#[]⟩, .int .u64 0, .int .u64 0, .slice none 0 0] 101 (0, 0)) from blk_far BK2.out N25.out _); have HB_ := Aside0.mk (show Below w.heap.size w (World.setCell wx2 ⟨g5, 2, none⟩ (.int .u64 n2)) from below_set HB.out GE5.out); clear HI BK5 BK2 HB; have HI := HI_; have BK5 := B5_; have BK2 := B2_; have HB := HB_; clear HI_ B5_ B2_ HB_; (with_reducible refine (M3.out _ HI.out HB.out).mono ?_); rintro e wx3 ⟨rfl, hi, hW⟩; have HB_ := Aside0.mk (below_wr HB.out hW G.out); have B2_ := Aside0.mk (hW.blk BK2.out (blk_lt BK2.out) N2.out); have B5_ := Aside0.mk (hW.blk BK5.out (blk_lt BK5.out) N5.out); have HI_ := Aside0.mk hi; clear HI HB BK2 BK5 hi hW; have HI := HI_; have HB := HB_; have BK2 := B2_; have BK5 := B5_; clear HI_ HB_ B2_ B5_ T3; have T4 : True := trivial; have hz3 := (blk_cell BK5.out 3).trans rfl; have fz3 := blk_frozen BK5.out 3))
    go_meet
    case rel => exact ⟨⟨IsX.wrr HI.out ((Wr.refl _ g5 _).setCell 3 _) (Ne.symm N5.out)⟩, ⟨by refine blk_far ?_ N25.out _; exact BK2.out⟩, ⟨by refine blk_put (cs := #[.string (strOfNums n0), .string (strOfNums n1), .int .u64 n2, .int .u64 0, .slice none 0 0]) ?_ 3 _ rfl; exact BK5.out⟩, ⟨by repeat (first | (with_reducible first | exact HB.out | apply below_alloc | apply pw_below_drewN | apply below_drew1 | refine below_set ?_ GE5.out | refine below_set ?_ GE2.out) | exact HB.out)⟩⟩
  case rest =>
    obtain ⟨HI, BK2, BK5, HB⟩ := hcut
    have DN := Aside0.mk (fun W h => xdone_any w g W b l4 q4 h good HG.out)
    have hn25 := N25.out
    have hn52 := Ne.symm N25.out
    clear HG
    cases good with
    | true =>
      go_wp2_with (go_at_call 155; (with_reducible refine (DN.out _ HI.out).mono ?_); rintro e wd ⟨rfl, hb⟩; have x_ := Aside0.mk (blk_below BK2.out hb); have y_ := Aside0.mk (blk_below BK5.out hb); have nb_ := Aside0.mk (below_step HB.out hb); clear BK2 BK5 HB HI hb; have BK2 := x_; have BK5 := y_; have HB := nb_; clear x_ y_ nb_; have hu0 := (blk_cell BK5.out 0).trans (show _ = some (.string (strOfNums n0)) from rfl); have fu0 := blk_frozen BK5.out 0; have hu1 := (blk_cell BK5.out 1).trans (show _ = some (.string (strOfNums n1)) from rfl); have fu1 := blk_frozen BK5.out 1; have hu2 := (blk_cell BK5.out 2).trans (show _ = some (.int .u64 n2) from rfl); have fu2 := blk_frozen BK5.out 2; have hu3 := (blk_cell BK5.out 3).trans (show _ = some (.int .u64 n3) from rfl); have fu3 := blk_frozen BK5.out 3; have hu4 := (blk_cell BK5.out 4).trans (show _ = some (.slice none 0 0) from rfl); have fu4 := blk_frozen BK5.out 4; have hy0 := (blk_cell BK2.out 0).trans (show _ = some (.string ⟨#[]⟩) from rfl); have fy0 := blk_frozen BK2.out 0; have hy1 := (blk_cell BK2.out 1).trans (show _ = some (.string ⟨#[]⟩) from rfl); have fy1 := blk_frozen BK2.out 1; have hy2 := (blk_cell BK2.out 2).trans (show _ = some (.int .u64 0) from rfl); have fy2 := blk_frozen BK2.out 2; have hy3 := (blk_cell BK2.out 3).trans (show _ = some (.int .u64 0) from rfl); have fy3 := blk_frozen BK2.out 3; have hy4 := (blk_cell BK2.out 4).trans (show _ = some (.slice none 0 0) from rfl); have fy4 := blk_frozen BK2.out 4)
      refine bodyPost_ret (results_cell_tmpR rfl _ _ g2 101 #[.string (strOfNums n0), .string (strOfNums n1), .int .u64 n2, .int .u64 n3, .slice none 0 0] (0, 0) _ (.int .i64 0) rfl (by refine blk_put (cs := #[.string (strOfNums n0), .string (strOfNums n1), .int .u64 n2, .int .u64 n3, .slice none 0 0]) ?_ 4 _ rfl; refine blk_put (cs := #[.string (strOfNums n0), .string (strOfNums n1), .int .u64 n2, .int .u64 0, .slice none 0 0]) ?_ 3 _ rfl; refine blk_put (cs := #[.string (strOfNums n0), .string (strOfNums n1), .int .u64 0, .int .u64 0, .slice none 0 0]) ?_ 2 _ rfl; refine blk_put (cs := #[.string (strOfNums n0), .string ⟨#[]⟩, .int .u64 0, .int .u64 0, .slice none 0 0]) ?_ 1 _ rfl; refine blk_put (cs := #[.string ⟨#[]⟩, .string ⟨#[]⟩, .int .u64 0, .int .u64 0, .slice none 0 0]) ?_ 0 _ rfl; exact BK2.out) Try.underlying101 rfl (by kernel_rfl) rfl) rfl ?_
      exact ⟨rfl, by repeat (first | (with_reducible first | exact HB.out | apply below_alloc | apply pw_below_drewN | apply below_drew1 | refine below_set ?_ GE5.out | refine below_set ?_ GE2.out) | exact HB.out)⟩
    | false =>
      go_wp2_with (first
        | (go_at_call 155; (with_reducible refine (DN.out _ HI.out).mono ?_); rintro e wd ⟨rfl, hb⟩; have x_ := Aside0.mk (blk_below BK2.out hb); have y_ := Aside0.mk (blk_below BK5.out hb); have nb_ := Aside0.mk (below_step HB.out hb); clear BK2 BK5 HB HI hb; have BK2 := x_; have BK5 := y_; have HB := nb_; clear x_ y_ nb_; have hu0 := (blk_cell BK5.out 0).trans (show _ = some (.string (strOfNums n0)) from rfl); have fu0 := blk_frozen BK5.out 0; have hu1 := (blk_cell BK5.out 1).trans (show _ = some (.string (strOfNums n1)) from rfl); have fu1 := blk_frozen BK5.out 1; have hu2 := (blk_cell BK5.out 2).trans (show _ = some (.int .u64 n2) from rfl); have fu2 := blk_frozen BK5.out 2; have hu3 := (blk_cell BK5.out 3).trans (show _ = some (.int .u64 n3) from rfl); have fu3 := blk_frozen BK5.out 3; have hu4 := (blk_cell BK5.out 4).trans (show _ = some (.slice none 0 0) from rfl); have fu4 := blk_frozen BK5.out 4; have hy0 := (blk_cell BK2.out 0).trans (show _ = some (.string ⟨#[]⟩) from rfl); have fy0 := blk_frozen BK2.out 0; have hy1 := (blk_cell BK2.out 1).trans (show _ = some (.string ⟨#[]⟩) from rfl); have fy1 := blk_frozen BK2.out 1; have hy2 := (blk_cell BK2.out 2).trans (show _ = some (.int .u64 0) from rfl); have fy2 := blk_frozen BK2.out 2; have hy3 := (blk_cell BK2.out 3).trans (show _ = some (.int .u64 0) from rfl); have fy3 := blk_frozen BK2.out 3; have hy4 := (blk_cell BK2.out 4).trans (show _ = some (.slice none 0 0) from rfl); have fy4 := blk_frozen BK2.out 4)
        | fail)
      refine bodyPost_ret (results_cell_tmpR rfl _ _ g2 101 #[.string ⟨#[]⟩, .string ⟨#[]⟩, .int .u64 0, .int .u64 0, .slice none 0 0] (0, 0) _ (.int .i64 4) rfl (by refine blk_put (cs := #[.string ⟨#[]⟩, .string ⟨#[]⟩, .int .u64 0, .int .u64 0, .slice none 0 0]) ?_ 4 _ rfl; refine blk_put (cs := #[.string ⟨#[]⟩, .string ⟨#[]⟩, .int .u64 0, .int .u64 0, .slice none 0 0]) ?_ 3 _ rfl; refine blk_put (cs := #[.string ⟨#[]⟩, .string ⟨#[]⟩, .int .u64 0, .int .u64 0, .slice none 0 0]) ?_ 2 _ rfl; refine blk_put (cs := #[.string ⟨#[]⟩, .string ⟨#[]⟩, .int .u64 0, .int .u64 0, .slice none 0 0]) ?_ 1 _ rfl; refine blk_put (cs := #[.string ⟨#[]⟩, .string ⟨#[]⟩, .int .u64 0, .int .u64 0, .slice none 0 0]) ?_ 0 _ rfl; exact BK2.out) Try.underlying101 rfl (by kernel_rfl) rfl) rfl ?_
      exact ⟨rfl, by repeat (first | (with_reducible first | exact HB.out | apply below_alloc | apply pw_below_drewN | apply below_drew1 | refine below_set ?_ GE5.out | refine below_set ?_ GE2.out) | exact HB.out)⟩
set_option maxHeartbeats 8000000 in
set_option maxRecDepth 100000 in
theorem xreadC (A : Option Addr) (c : Nat) (b : List Int) (w : World) (hC : Kd.C (Kd.int .u8) w A b.length b) (hc : b.length ≤ c) (hb : b.length ≤ 10000) (K0 : okL b) (n0 n1 : Int) (l1 l2 : List Int) (q1 q2 : Bool) (H0 : uintS b false = (n0, l1, q1)) (H1 : uintS l1 q1 = (n1, l2, q2)) (good : Bool) (hg : good = (!q2 && decide (l2 = []))) :
    Calls Try.prog 99 #[.slice A b.length c] w fun e w' => e = .returned (if good = true then .tuple #[.int .u64 n0, .int .u64 n1, .int .i64 0] else .tuple #[.int .u64 0, .int .u64 0, .int .i64 4]) ∧ Below w.heap.size w w' := by
  have HB := Aside0.mk (Below.refl w.heap.size w)
  have HC := Aside0.mk hC
  have Hc := Aside0.mk hc
  have HG := Aside0.mk hg
  have M0 := Aside0.mk (fun g W h hB => xuint_any w g W b b false h hB K0)
  rw [H0] at M0
  have M1 := Aside0.mk (fun g W h hB => xuint_any w g W b l1 q1 h hB K0)
  rw [H1] at M1
  have DN := Aside0.mk (fun g W h => xdone_any w g W b l2 q2 h good HG.out)
  clear hC hc hb hg H0 H1
  have T0 : True := trivial
  cases good with
  | true =>
    go_enter Try.func99, Try.ntmps99
    go_wp2_with (first
      | ((with_reducible refine gate_dst (N := 10) rfl ?_); refine box_event ?hg (N := 10) ?hd (cs := #[.slice A b.length c, .int .i64 0, .bool false]) (t := 55) ?hr ?_; (case hd => rfl); (case hg => rfl); (case hr => first | (go_simp; done) | (go_simp; rfl)); intro g hg wy hbox hb; have G := Aside0.mk (by rw [hg]; exact below_size HB.out : w.heap.size ≤ g); have HI := Aside0.mk (show IsX w g wy b b false from ⟨0, Nat.zero_le _, rfl, A, c, hbox, ⟨G.out, Hc.out⟩, HC.out⟩); have nb_ := Aside0.mk (below_step HB.out hb); clear HB; have HB := nb_; clear nb_ hbox hb hg)
      | (go_at_call 58; have _t := T0; (with_reducible refine (M0.out _ _ HI.out HB.out).mono ?_); rintro e w0 ⟨rfl, hi, hW⟩; have HB_ := Aside0.mk (below_wr HB.out hW G.out); have HI_ := Aside0.mk hi; clear HI HB hi hW; have HI := HI_; have HB := HB_; clear HI_ HB_ T0; have T1 : True := trivial)
      | (go_at_call 58; have _t := T1; (with_reducible refine (M1.out _ _ HI.out HB.out).mono ?_); rintro e w1 ⟨rfl, hi, hW⟩; have HB_ := Aside0.mk (below_wr HB.out hW G.out); have HI_ := Aside0.mk hi; clear HI HB hi hW; have HI := HI_; have HB := HB_; clear HI_ HB_ T1)
      | (go_at_call 155; (with_reducible refine (DN.out _ _ HI.out).mono ?_); rintro e wd ⟨rfl, hb⟩; have nb_ := Aside0.mk (below_step HB.out hb); clear HB hb; have HB := nb_; clear nb_))
    go_ret3
    exact ⟨rfl, HB.out⟩
  | false =>
    go_enter Try.func99, Try.ntmps99
    go_wp2_with (first
      | ((with_reducible refine gate_dst (N := 10) rfl ?_); refine box_event ?hg (N := 10) ?hd (cs := #[.slice A b.length c, .int .i64 0, .bool false]) (t := 55) ?hr ?_; (case hd => rfl); (case hg => rfl); (case hr => first | (go_simp; done) | (go_simp; rfl)); intro g hg wy hbox hb; have G := Aside0.mk (by rw [hg]; exact below_size HB.out : w.heap.size ≤ g); have HI := Aside0.mk (show IsX w g wy b b false from ⟨0, Nat.zero_le _, rfl, A, c, hbox, ⟨G.out, Hc.out⟩, HC.out⟩); have nb_ := Aside0.mk (below_step HB.out hb); clear HB; have HB := nb_; clear nb_ hbox hb hg)
      | (go_at_call 58; have _t := T0; (with_reducible refine (M0.out _ _ HI.out HB.out).mono ?_); rintro e w0 ⟨rfl, hi, hW⟩; have HB_ := Aside0.mk (below_wr HB.out hW G.out); have HI_ := Aside0.mk hi; clear HI HB hi hW; have HI := HI_; have HB := HB_; clear HI_ HB_ T0; have T1 : True := trivial)
      | (go_at_call 58; have _t := T1; (with_reducible refine (M1.out _ _ HI.out HB.out).mono ?_); rintro e w1 ⟨rfl, hi, hW⟩; have HB_ := Aside0.mk (below_wr HB.out hW G.out); have HI_ := Aside0.mk hi; clear HI HB hi hW; have HI := HI_; have HB := HB_; clear HI_ HB_ T1)
      | (go_at_call 155; (with_reducible refine (DN.out _ _ HI.out).mono ?_); rintro e wd ⟨rfl, hb⟩; have nb_ := Aside0.mk (below_step HB.out hb); clear HB hb; have HB := nb_; clear nb_))
    go_ret3
    exact ⟨rfl, HB.out⟩
end Go.Proofs.Ytlnpmodhejakiaa.RW
