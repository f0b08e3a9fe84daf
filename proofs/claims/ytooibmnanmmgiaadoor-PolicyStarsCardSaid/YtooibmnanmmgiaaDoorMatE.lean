/- What Match, the program's and the document's, answers. -/
import Derived.Test.YtooibmnanmmgiaaDoorPBx3
import Derived.Test.YtooibmnanmmgiaaDoorGlob
namespace Go.Proofs.YtooibmnanmmgiaaDoor.GB
open Go.RowKit Go.Proofs.YtooibmnanmmgiaaDoorW.PrintWords Go.Proofs.YtooibmnanmmgiaaDoorW.PrintLast Go.Proofs.YtooibmnanmmgiaaDoorW.PrintMore Go.Proofs.YtooibmnanmmgiaaDoor.PB Go.Proofs.YtooibmnanmmgiaaDoor.D
set_option linter.unusedVariables false
set_option linter.unusedSimpArgs false
/-- a text's signs -/
def Ls (s : ByteArray) : List Int := s.data.toList.map fun b => (b.toNat : Int)
theorem Ls_len (s : ByteArray) : (Ls s).length = s.size := by unfold Ls; rw [List.length_map, Lib.size_eq]
theorem Ls_get (s : ByteArray) (i : Nat) (h : i < s.size) : (Ls s)[i]? = some (bt s (i : Int)) := by
  have h' : i < s.data.toList.length := by rw [← Lib.size_eq]; exact h
  unfold Ls
  rw [List.getElem?_map, List.getElem?_eq_getElem h', Option.map_some, ← bt_at s (i : Int) (by simpa using h)]
  simp only [Int.toNat_natCast, Array.getElem_toList]
  rfl
theorem map_nat_inj : ∀ a b : List UInt8, a.map (fun b => (b.toNat : Int)) = b.map (fun b => (b.toNat : Int)) → a = b
  | [], [], _ => rfl
  | [], _ :: _, h => by cases h
  | _ :: _, [], h => by cases h
  | x :: a, y :: b, h => by
    rw [List.map_cons, List.map_cons, List.cons.injEq] at h
    rw [map_nat_inj a b h.2, UInt8.toNat_inj.1 (by omega : x.toNat = y.toNat)]
theorem Ls_inj {a b : ByteArray} (h : Ls a = Ls b) : a = b := Go.WideShapes.bytes_inj (map_nat_inj _ _ h)
noncomputable def gb (p s : List Int) : Bool := @decide (G p s) (Classical.propDecidable _)
theorem gb_iff (p s : List Int) : gb p s = true ↔ G p s := by unfold gb; simp
theorem gb_eq {p s : List Int} {b : Bool} (h : b = true ↔ G p s) : b = gb p s := by
  have := gb_iff p s
  cases b <;> cases hg : gb p s <;> simp_all
theorem dw_nil (c : UInt8) : ∀ l : List UInt8, l.dropWhile (· == c) = [] ↔ ∀ x ∈ l, x = c
  | [] => by simp
  | x :: l => by
    rw [List.dropWhile_cons]
    by_cases h : x = c
    · rw [if_pos (by simpa using h), dw_nil c l]; simp [h]
    · rw [if_neg (by simpa using h)]; simp [h]
theorem dw_head (c : UInt8) : ∀ l : List UInt8, l.dropWhile (· == c) = [] ∨ ∃ x r, l.dropWhile (· == c) = x :: r ∧ x ≠ c
  | [] => Or.inl rfl
  | x :: l => by
    rw [List.dropWhile_cons]
    by_cases h : x = c
    · rw [if_pos (by simpa using h)]; exact dw_head c l
    · rw [if_neg (by simpa using h)]; exact Or.inr ⟨x, l, rfl, h⟩
theorem dw_mem (c : UInt8) : ∀ (l : List UInt8) (x : UInt8), x ∈ l.dropWhile (· == c) → x ∈ l
  | [], _, h => h
  | y :: l, x, h => by
    rw [List.dropWhile_cons] at h
    split at h
    · exact List.mem_cons_of_mem _ (dw_mem c l x h)
    · exact h
theorem trim_nil (c : UInt8) (l : List UInt8) : Lib.trimB l c = [] ↔ ∀ x ∈ l, x = c := by
  unfold Lib.trimB Lib.trimLeftB Lib.trimRightB
  rw [dw_nil]
  constructor
  · intro h
    rcases dw_head c l.reverse with e | ⟨x, r, e, hx⟩
    · intro x hx
      exact (dw_nil c _).1 e x (List.mem_reverse.2 hx)
    · exact absurd (h x (List.mem_reverse.2 (by rw [e]; exact List.mem_cons_self))) hx
  · intro h x hx
    exact h x (List.mem_reverse.1 (dw_mem c _ x (List.mem_reverse.1 hx)))
theorem w1 (n : Nat) (h : n ≤ 4611686018427387904) : wrap64 ((n : Int) + 1) = ((n + 1 : Nat) : Int) := by unfold wrap64; omega
/-- policy.Match answers as the pattern says -/
theorem pm_run (p s : ByteArray) (hp : p.size ≤ 4611686018427387904) (hs : s.size ≤ 4611686018427387904) (i k : Nat) (st : Int) (fr : Nat) (h : Inv (Ls p) (Ls s) i k st fr) : ∃ n, policy_Match.l0 n p s (i : Int) (k : Int) st (fr : Int) = some (gb (Ls p) (Ls s)) := by
  have hb := h
  obtain ⟨h1, h2, h3⟩ := hb
  rw [Ls_len] at h1 h2
  have hfr : -1 ≤ st ∧ (0 ≤ st → fr ≤ k ∧ st.toNat + 1 ≤ i) := by
    rcases h3 with ⟨rfl, _⟩ | ⟨t, rfl, hle, hk, _⟩ <;> omega
  by_cases hk : k < s.size
  · have eS : ((k : Int) < (s.size : Int)) := by omega
    -- what a failed look does
    have back : ¬ m (Ls p) (Ls s) i k → ∃ n, policy_Match.j2 n p s (i : Int) (k : Int) st (fr : Int) false = some (gb (Ls p) (Ls s)) := by
      intro hno
      by_cases hst : 0 ≤ st
      · obtain ⟨t, rfl⟩ : ∃ t : Nat, st = (t : Int) := ⟨st.toNat, by omega⟩
        have hI := h.back (by rw [Ls_len]; exact hk) hno
        have hq := hI.2.1
        rw [Ls_len] at hq
        obtain ⟨n, hn⟩ := pm_run p s hp hs (t + 1) (fr + 1) (t : Int) (fr + 1) hI
        refine ⟨n + 1, ?_⟩
        unfold policy_Match.j2
        rw [if_neg (by decide), if_pos (by omega), w1 t (by omega), w1 fr (by omega)]
        exact hn
      · have e1 : st = -1 := by omega
        subst e1
        refine ⟨1, ?_⟩
        unfold policy_Match.j2
        rw [if_neg (by decide), if_neg (by omega)]
        exact congrArg some (gb_eq (by simp; exact h.none hno))
    by_cases hi : i < p.size
    · have gi := Ls_get p i hi
      have gk := Ls_get s k hk
      by_cases h42 : bt p (i : Int) = 42
      · rw [h42] at gi
        obtain ⟨n, hn⟩ := pm_run p s hp hs (i + 1) k (i : Int) k (h.star gi)
        refine ⟨n + 1 + 1, ?_⟩
        unfold policy_Match.l0
        rw [if_pos eS, if_pos (by omega), if_pos (by omega), h42]
        unfold policy_Match.j1
        rw [if_pos (by decide), w1 i (by omega)]
        exact hn
      · by_cases hx : bt p (i : Int) = 63 ∨ bt p (i : Int) = bt s (k : Int)
        · obtain ⟨n, hn⟩ := pm_run p s hp hs (i + 1) (k + 1) st fr (h.one gi h42 gk hx)
          have go : policy_Match.j2 (n + 1) p s (i : Int) (k : Int) st (fr : Int) true = some (gb (Ls p) (Ls s)) := by
            unfold policy_Match.j2
            rw [if_pos rfl, w1 i (by omega), w1 k (by omega)]
            exact hn
          refine ⟨n + 1 + 1 + 1, ?_⟩
          unfold policy_Match.l0
          rw [if_pos eS, if_pos (by omega), if_pos (by omega), show (bt p (i : Int) == 42) = false from by simpa using h42]
          unfold policy_Match.j1
          rw [if_neg (by decide), if_pos (by omega), if_pos (by omega)]
          by_cases h63 : bt p (i : Int) = 63
          · rw [if_pos h63]; exact go
          · rw [if_neg h63, if_pos (by omega), if_pos eS, show (bt p (i : Int) == bt s (k : Int)) = true from by simpa using hx.resolve_left h63]; exact go
        · have hno : ¬ m (Ls p) (Ls s) i k := no_match (by rw [Ls_len]; exact hk) (by rw [gi]; simpa using h42) (fun c x hc hx' => by rw [gi] at hc; rw [gk] at hx'; cases hc; cases hx'; exact hx)
          obtain ⟨n, hn⟩ := back hno
          refine ⟨n + 1 + 1, ?_⟩
          unfold policy_Match.l0
          rw [if_pos eS, if_pos (by omega), if_pos (by omega), show (bt p (i : Int) == 42) = false from by simpa using h42]
          unfold policy_Match.j1
          rw [if_neg (by decide), if_pos (by omega), if_pos (by omega), if_neg (fun e => hx (Or.inl e)), if_pos (by omega), if_pos eS, show (bt p (i : Int) == bt s (k : Int)) = false from by simpa using fun e => hx (Or.inr e)]
          exact hn
    · have hno : ¬ m (Ls p) (Ls s) i k := m_end (by rw [Ls_len]; omega) (by rw [Ls_len]; exact hk)
      obtain ⟨n, hn⟩ := back hno
      refine ⟨n + 1 + 1, ?_⟩
      unfold policy_Match.l0
      rw [if_pos eS, if_neg (by omega)]
      unfold policy_Match.j1
      rw [if_neg (by decide), if_neg (by omega)]
      exact hn
  · refine ⟨1, ?_⟩
    have hd := h.done (by rw [Ls_len]; omega)
    unfold policy_Match.l0
    have hsz : (p.extract i p.size).size ≤ 9223372036854775807 := by rw [ByteArray.size_extract]; omega
    rw [if_neg (by omega), if_pos (by omega), if_pos (by omega), Int.toNat_natCast]
    unfold strings_Trim.f
    rw [if_pos ⟨rfl, hsz⟩]
    refine congrArg some (gb_eq ?_)
    rw [hd]
    have e0 : (⟨(Lib.trimB (p.extract i p.size).data.toList 42).toArray⟩ : ByteArray).toList = Lib.trimB (p.extract i p.size).data.toList 42 := by
      rw [Lib.toList_data]
    rw [e0, beq_iff_eq, trim_nil]
    have e1 : (p.extract i p.size).data.toList = p.data.toList.drop i := by
      exact Lib.extract_to_end p i
    rw [e1]
    unfold Ls
    rw [← List.map_drop]
    simp only [List.mem_map, forall_exists_index, and_imp, forall_apply_eq_imp_iff₂]
    constructor
    · intro hh x hx
      rw [hh x hx]; rfl
    · intro hh x hx
      have := hh x hx
      exact UInt8.toNat_inj.1 (by rw [show (42 : UInt8).toNat = 42 from rfl]; omega)
termination_by (p.size - (st + 1).toNat, s.size - fr, s.size - k)
decreasing_by
  all_goals simp_wf
  all_goals try subst_vars
  all_goals first | (apply Prod.Lex.left; omega) | (apply Prod.Lex.right' <;> first | omega | (apply Prod.Lex.left; omega) | (apply Prod.Lex.right' <;> omega))
theorem pm_ok (p s : ByteArray) (hp : p.size ≤ 4611686018427387904) (hs : s.size ≤ 4611686018427387904) : ∃ n, policy_Match.f n p s = some (gb (Ls p) (Ls s)) := pm_run p s hp hs 0 0 (-1) 0 (Inv.start _ _)
/-- a row of the document's table -/
def RowOk (p s : List Int) (i k : Nat) (x : List Bool) : Prop := x.length = s.length + 1 ∧ (∀ j, j < k → x.getD j false = gb (p.take i) (s.take j)) ∧ ∀ j, k ≤ j → x.getD j false = false
theorem getD_set (x : List Bool) (k : Nat) (b : Bool) (h : k < x.length) (j : Nat) : (x.set k b).getD j false = if j = k then b else x.getD j false := by
  by_cases e : j = k
  · subst e
    rw [if_pos rfl, List.getD_eq_getElem?_getD, List.getElem?_set_self h]; rfl
  · rw [if_neg e, List.getD_eq_getElem?_getD, List.getElem?_set_ne (by omega), List.getD_eq_getElem?_getD]
theorem RowOk.put {p s : List Int} {i k : Nat} {x : List Bool} (h : RowOk p s i k x) (hk : k ≤ s.length) {b : Bool} (hb : b = true ↔ G (p.take i) (s.take k)) : RowOk p s i (k + 1) (x.set k b) := by
  obtain ⟨h1, h2, h3⟩ := h
  refine ⟨by rw [List.length_set]; exact h1, fun j hj => ?_, fun j hj => ?_⟩
  · rw [getD_set _ _ _ (by omega)]
    by_cases e : j = k
    · rw [if_pos e, e]; exact gb_eq hb
    · rw [if_neg e]; exact h2 j (by omega)
  · rw [getD_set _ _ _ (by omega), if_neg (by omega)]; exact h3 j (by omega)
theorem RowOk.skip {p s : List Int} {i : Nat} {x : List Bool} (h : RowOk p s i 0 x) (hb : ¬ G (p.take i) (s.take 0)) : RowOk p s i 1 x := by
  obtain ⟨h1, h2, h3⟩ := h
  refine ⟨h1, fun j hj => ?_, fun j hj => h3 j (by omega)⟩
  rw [h3 j (by omega)]
  have e : j = 0 := by omega
  rw [e]
  exact gb_eq (by simpa using hb)
theorem RowOk.zero (p s : List Int) (i : Nat) : RowOk p s i 0 (List.replicate (s.length + 1) false) := by
  refine ⟨by simp, fun j hj => absurd hj (by omega), fun j _ => ?_⟩
  rw [List.getD_eq_getElem?_getD, List.getElem?_replicate]
  split <;> rfl
theorem RowOk.at {p s : List Int} {i k : Nat} {x : List Bool} (h : RowOk p s i k x) (j : Nat) (hj : j < k) : rdOf false x (j : Int) = true ↔ G (p.take i) (s.take j) := by
  unfold rdOf
  rw [Int.toNat_natCast, h.2.1 j hj, gb_iff]
theorem w64 (n : Nat) (h : n ≤ 140737488351232) (h0 : 0 < n) : wrap64 ((n : Int) - 1) = ((n - 1 : Nat) : Int) := by unfold wrap64; omega
/-- one row of the document's table after another -/
theorem rm_in (p s : ByteArray) (hp : p.size ≤ 140737488351232) (hs : s.size ≤ 140737488351232) (i : Nat) (hi : i < p.size) (x5 : List Bool) (h5 : RowOk (Ls p) (Ls s) i (s.size + 1) x5)
    (ih : ∀ x, RowOk (Ls p) (Ls s) (i + 1) (s.size + 1) x → ∃ n, steleref08_Match.l0 n p s x ((i + 1 : Nat) : Int) = some (gb (Ls p) (Ls s))) :
    ∀ d k x7, d = s.size + 1 - k → k ≤ s.size + 1 → RowOk (Ls p) (Ls s) (i + 1) k x7 → ∃ n, steleref08_Match.l1 n p s x5 (i : Int) x7 (k : Int) = some (gb (Ls p) (Ls s)) := by
  intro d
  induction d with
  | zero =>
    intro k x7 hd hk h7
    have e : k = s.size + 1 := by omega
    obtain ⟨n, hn⟩ := ih x7 (e ▸ h7)
    refine ⟨n + 1, ?_⟩
    unfold steleref08_Match.l1
    rw [if_neg (by omega), w1 i (by omega)]
    exact hn
  | succ d ihd =>
    intro k x7 hd hk h7
    have gi := Ls_get p i hi
    have l5 : x5.length = s.size + 1 := by rw [h5.1, Ls_len]
    have l7 : x7.length = s.size + 1 := by rw [h7.1, Ls_len]
    have hkS : k ≤ s.size := by omega
    have next : ∀ b : Bool, (b = true ↔ G ((Ls p).take (i + 1)) ((Ls s).take k)) → ∃ n, steleref08_Match.l1 n p s x5 (i : Int) (x7.set k b) ((k + 1 : Nat) : Int) = some (gb (Ls p) (Ls s)) := fun b hb =>
      ihd (k + 1) _ (by omega) (by omega) (h7.put (by rw [Ls_len]; omega) hb)
    by_cases h42 : bt p (i : Int) = 42
    · rw [h42] at gi
      by_cases hr : rdOf false x5 (k : Int) = true
      · obtain ⟨n, hn⟩ := next true (by
          simp only [true_iff]
          have hg := (h5.at k (by omega)).1 hr
          by_cases hk0 : k = 0
          · subst hk0; exact (dp_star0 gi).2 hg
          · obtain ⟨k', rfl⟩ : ∃ k', k = k' + 1 := ⟨k - 1, by omega⟩
            exact (dp_star gi (Ls_get s k' (by omega))).2 (Or.inl hg))
        refine ⟨n + 1, ?_⟩
        unfold steleref08_Match.l1
        rw [if_pos (by omega), if_pos (by omega), if_pos (by omega), if_pos h42, if_pos (by omega), if_pos (by omega), if_pos hr, if_pos (by omega), Int.toNat_natCast, w1 k (by omega)]
        exact hn
      · have hng : ¬ G ((Ls p).take i) ((Ls s).take k) := fun hg => hr ((h5.at k (by omega)).2 hg)
        by_cases hk0 : k = 0
        · subst hk0
          obtain ⟨n, hn⟩ := next false (by
            simp only [Bool.false_eq_true, false_iff]
            exact fun hg => hng ((dp_star0 gi).1 hg))
          refine ⟨n + 1, ?_⟩
          unfold steleref08_Match.l1
          rw [if_pos (by omega), if_pos (by omega), if_pos (by omega), if_pos h42, if_pos (by omega), if_pos (by omega), if_neg hr, if_neg (by omega), if_pos (by omega), Int.toNat_natCast, w1 0 (by omega)]
          exact hn
        · obtain ⟨n, hn⟩ := next (rdOf false x7 ((k - 1 : Nat) : Int)) (by
            rw [h7.at (k - 1) (by omega)]
            obtain ⟨k', rfl⟩ : ∃ k', k = k' + 1 := ⟨k - 1, by omega⟩
            rw [dp_star gi (Ls_get s k' (by omega))]
            exact ⟨Or.inr, fun h => h.resolve_left hng⟩)
          refine ⟨n + 1, ?_⟩
          unfold steleref08_Match.l1
          rw [if_pos (by omega), if_pos (by omega), if_pos (by omega), if_pos h42, if_pos (by omega), if_pos (by omega), if_neg hr, if_pos (by omega), w64 k (by omega) (by omega), if_pos (by omega), if_pos (by omega), if_pos (by omega), Int.toNat_natCast, w1 k (by omega)]
          exact hn
    · by_cases hk0 : k = 0
      · subst hk0
        obtain ⟨n, hn⟩ := ihd 1 x7 (by omega) (by omega) (h7.skip (dp_one0 gi h42))
        refine ⟨n + 1, ?_⟩
        unfold steleref08_Match.l1
        rw [if_pos (by omega), if_pos (by omega), if_pos (by omega), if_neg h42, if_neg (by omega), w1 0 (by omega)]
        exact hn
      · obtain ⟨k', rfl⟩ : ∃ k', k = k' + 1 := ⟨k - 1, by omega⟩
        have gk := Ls_get s k' (by omega)
        have hd := dp_one gi h42 gk
        have e1 : wrap64 (((k' + 1 : Nat) : Int) - 1) = (k' : Int) := by unfold wrap64; omega
        by_cases hr : rdOf false x5 (k' : Int) = true
        · have hg := (h5.at k' (by omega)).1 hr
          by_cases h63 : bt p (i : Int) = 63
          · obtain ⟨n, hn⟩ := next true (by
              simp only [true_iff]
              exact hd.2 ⟨hg, Or.inl h63⟩)
            refine ⟨n + 1, ?_⟩
            unfold steleref08_Match.l1
            rw [if_pos (by omega), if_pos (by omega), if_pos (by omega), if_neg h42, if_pos (by omega), e1, if_pos (by omega), if_pos (by omega), if_pos hr, if_pos h63, if_pos (by omega), if_pos (by omega), Int.toNat_natCast, w1 (k' + 1) (by omega)]
            exact hn
          · obtain ⟨n, hn⟩ := next (bt p (i : Int) == bt s (k' : Int)) (by
              rw [hd, beq_iff_eq]
              exact ⟨fun h => ⟨hg, Or.inr h⟩, fun h => h.2.resolve_left h63⟩)
            refine ⟨n + 1, ?_⟩
            unfold steleref08_Match.l1
            rw [if_pos (by omega), if_pos (by omega), if_pos (by omega), if_neg h42, if_pos (by omega), e1, if_pos (by omega), if_pos (by omega), if_pos hr, if_neg h63, if_pos (by omega), if_pos (by omega), if_pos (by omega), Int.toNat_natCast, w1 (k' + 1) (by omega)]
            exact hn
        · obtain ⟨n, hn⟩ := next false (by
            simp only [Bool.false_eq_true, false_iff]
            intro h
            exact hr ((h5.at k' (by omega)).2 (hd.1 h).1))
          refine ⟨n + 1, ?_⟩
          unfold steleref08_Match.l1
          rw [if_pos (by omega), if_pos (by omega), if_pos (by omega), if_neg h42, if_pos (by omega), e1, if_pos (by omega), if_pos (by omega), if_neg hr, if_pos (by omega), if_pos (by omega), Int.toNat_natCast, w1 (k' + 1) (by omega)]
          exact hn
theorem rm_out (p s : ByteArray) (hp : p.size ≤ 140737488351232) (hs : s.size ≤ 140737488351232) : ∀ d i x5, d = p.size - i → i ≤ p.size → RowOk (Ls p) (Ls s) i (s.size + 1) x5 → ∃ n, steleref08_Match.l0 n p s x5 (i : Int) = some (gb (Ls p) (Ls s)) := by
  intro d
  induction d with
  | zero =>
    intro i x5 hd hi h5
    have l5 : x5.length = s.size + 1 := by rw [h5.1, Ls_len]
    refine ⟨1, ?_⟩
    unfold steleref08_Match.l0
    rw [if_neg (by omega), if_pos (by omega), if_pos (by omega)]
    refine congrArg some (gb_eq ?_)
    rw [h5.at s.size (by omega), List.take_of_length_le (by rw [Ls_len]; omega), List.take_of_length_le (by rw [Ls_len]; omega)]
  | succ d ihd =>
    intro i x5 hd hi h5
    have h0 := RowOk.zero (Ls p) (Ls s) (i + 1)
    rw [Ls_len] at h0
    obtain ⟨n, hn⟩ := rm_in p s hp hs i (by omega) x5 h5 (fun x hx => ihd (i + 1) x (by omega) (by omega) hx) (s.size + 1) 0 _ rfl (by omega) h0
    refine ⟨n + 1, ?_⟩
    unfold steleref08_Match.l0
    rw [if_pos (by omega), w1 s.size (by omega), if_pos (by omega), Int.toNat_natCast, if_pos (by omega)]
    exact hn
theorem rm_ok (p s : ByteArray) (hp : p.size ≤ 140737488351232) (hs : s.size ≤ 140737488351232) : ∃ n, steleref08_Match.f n p s = some (gb (Ls p) (Ls s)) := by
  have h0 := RowOk.zero (Ls p) (Ls s) 0
  rw [Ls_len] at h0
  have h5 : RowOk (Ls p) (Ls s) 0 (s.size + 1) ((List.replicate (s.size + 1) false).set 0 true) := by
    refine ⟨by rw [List.length_set]; exact h0.1, fun j hj => ?_, fun j hj => ?_⟩
    · rw [getD_set _ _ _ (by simp)]
      have hs0 := dp_start (Ls s) j (by rw [Ls_len]; omega)
      refine gb_eq ?_
      rw [List.take_zero, hs0]
      by_cases e : j = 0
      · simp [e]
      · rw [if_neg e, h0.2.2 j (by omega)]; simp [e]
    · rw [getD_set _ _ _ (by simp), if_neg (by omega)]; exact h0.2.2 j (by omega)
  obtain ⟨n, hn⟩ := rm_out p s hp hs p.size 0 _ (by omega) (by omega) h5
  refine ⟨n, ?_⟩
  unfold steleref08_Match.f
  rw [w1 s.size (by omega), if_pos (by omega), Int.toNat_natCast, if_pos (by omega), Option.bind_some, if_pos (by rw [List.length_replicate]; omega)]
  exact hn
theorem w1' (n : Nat) (h : n ≤ 9223372036854775806) : wrap64 ((n : Int) + 1) = ((n + 1 : Nat) : Int) := by unfold wrap64; omega
theorem light_l1 (x0 : List S34) (x1 : List ByteArray) (hl : x1.length ≤ 140737488351232) : ∀ d i a, d = x1.length - i → ∃ n b, stelelaw08_light.l1 n x0 x1 a (i : Int) = some b := by
  intro d
  induction d with
  | zero =>
    intro i a hd
    refine ⟨1, if a ≤ 2000 then decide ((x0.length : Int) ≤ 50) else false, ?_⟩
    unfold stelelaw08_light.l1
    rw [if_neg (by omega)]
    split <;> rfl
  | succ d ih =>
    intro i a hd
    obtain ⟨n, b, hn⟩ := ih (i + 1) (wrap64 (a + ((rdOf ByteArray.empty x1 (i : Int)).size : Int))) (by omega)
    refine ⟨n + 1, b, ?_⟩
    unfold stelelaw08_light.l1
    rw [if_pos (by omega), if_pos (by omega), w1' i (by omega)]
    exact hn
theorem light_l0 (x0 : List S34) (x1 : List ByteArray) (h0 : x0.length ≤ 140737488351232) (hl : x1.length ≤ 140737488351232) : ∀ d i a, d = x0.length - i → ∃ n b, stelelaw08_light.l0 n x0 x1 a (i : Int) = some b := by
  intro d
  induction d with
  | zero =>
    intro i a hd
    obtain ⟨n, b, hn⟩ := light_l1 x0 x1 hl x1.length 0 a (by omega)
    refine ⟨n + 1, b, ?_⟩
    unfold stelelaw08_light.l0
    rw [if_neg (by omega)]
    exact hn
  | succ d ih =>
    intro i a hd
    obtain ⟨n, b, hn⟩ := ih (i + 1) (wrap64 ((wrap64 ((wrap64 (a + (((rd_T34 x0 (i : Int)).f1).size : Int))) + (((rd_T34 x0 (i : Int)).f2).size : Int))) + (((rd_T34 x0 (i : Int)).f3).size : Int))) (by omega)
    refine ⟨n + 1, b, ?_⟩
    unfold stelelaw08_light.l0
    rw [if_pos (by omega), if_pos (by omega), w1' i (by omega)]
    exact hn
theorem light_any (x0 : List S34) (x1 : List ByteArray) (h0 : x0.length ≤ 140737488351232) (hl : x1.length ≤ 140737488351232) : ∃ n b, stelelaw08_light.f n x0 x1 = some b := light_l0 x0 x1 h0 hl x0.length 0 0 (by omega)
theorem pm_at {p s : ByteArray} {n : Nat} (k : Nat) (hk : n ≤ k) (h : policy_Match.f n p s = some (gb (Ls p) (Ls s))) : policy_Match.f k p s = some (gb (Ls p) (Ls s)) := at_rounds (g := fun k => policy_Match.f k p s) (policy_Match.mono p s) hk h
theorem rm_at {p s : ByteArray} {n : Nat} (k : Nat) (hk : n ≤ k) (h : steleref08_Match.f n p s = some (gb (Ls p) (Ls s))) : steleref08_Match.f k p s = some (gb (Ls p) (Ls s)) := at_rounds (g := fun k => steleref08_Match.f k p s) (steleref08_Match.mono p s) hk h
theorem light_at {x0 : List S34} {x1 : List ByteArray} {b : Bool} {n : Nat} (k : Nat) (hk : n ≤ k) (h : stelelaw08_light.f n x0 x1 = some b) : stelelaw08_light.f k x0 x1 = some b := at_rounds (g := fun k => stelelaw08_light.f k x0 x1) (stelelaw08_light.mono x0 x1) hk h
end Go.Proofs.YtooibmnanmmgiaaDoor.GB
