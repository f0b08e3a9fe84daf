/- Opening an argument of whatever depth, by its kind: out of the reading of the arguments (DataW.trod) the value that the printed contracts speak of (Kd.K), with what the form's reach tells of it, and a bound on its bulk. Laws over any program. -/
import Derived.Test.YtooibmnanmmgiaaDoorRows
import Derived.Test.YtooibmnanmmgiaaDoorWWords
import Derived.WalkKit
import Derived.ProofKit
import Derived.OpenShut
import Derived.SizedLaws
import Derived.Deep.Slices
namespace Go.Proofs.YtooibmnanmmgiaaDoor.Opn
open Go.RowKit Go.Proofs.YtooibmnanmmgiaaDoorW.PrintWords Go.ChangeShapes Go.WideShapes Go.ChangeAt Go.Deep
set_option linter.unusedVariables false

def Opens {α : Type} (P : Program) (t : TypeId) (d : Kd α) (ok : α → Prop) (sz : α → Nat) : Prop :=
  ∀ (H : Type) (enc : TypeId × Value → H) (W : World) (fuel : Nat) (cs : List Value) (x : DataW H) (ps : List MemPlace),
    DataW.trod enc P W 0 (fun _ => true) true fuel t cs = some (x, ps) → (x.weights P t).all (· ≤ reachBytes) = true →
    ∃ a : α, d.K W a cs ∧ ok a ∧ sz a ≤ Rows.uptoBulk x

def OpensF {α : Type} (P : Program) (fs : List Field) (off : Nat) (d : Kd α) (ok : α → Prop) (sz : α → Nat) : Prop :=
  ∀ (H : Type) (enc : TypeId × Value → H) (W : World) (n : Nat) (cs : List Value) (xs : List (DataW H × List MemPlace)), xs.length = fs.length →
    (∀ (i : Nat) (f : Field), fs[i]? = some f → DataW.trod enc P W 0 (fun _ => true) true n f.type ((cs.drop f.offset).take (P.cellsOf f.type)) = xs[i]?) →
    (DataW.weightsEach P (fs.map (·.type)) (xs.map (·.1))).all (· ≤ reachBytes) = true → cs.length = off + d.sz →
    ∃ a : α, d.K W a (cs.drop off) ∧ ok a ∧ sz a ≤ Rows.uptoBulkAll (xs.map (·.1))

theorem opens_int {P : Program} {t : TypeId} {k : IntKind} (ht : P.underlying t = some (.int k)) : Opens P t (Kd.int k) (fun n => (Lit.int k n).wf = true) (fun _ => 1) := by
  intro H enc W fuel cs x ps h _
  obtain ⟨n, rfl, hx, hw⟩ := DataW.trod_int ht h
  obtain ⟨rfl, rfl⟩ := Prod.mk.inj hx
  exact ⟨n, rfl, hw, by simp [Rows.uptoBulk]⟩
theorem opens_bool {P : Program} {t : TypeId} (ht : P.underlying t = some .bool) : Opens P t Kd.bool (fun _ => True) (fun _ => 1) := by
  intro H enc W fuel cs x ps h _
  obtain ⟨n, rfl, hx⟩ := DataW.trod_bool ht h
  obtain ⟨rfl, rfl⟩ := Prod.mk.inj hx
  exact ⟨n, rfl, trivial, by simp [Rows.uptoBulk]⟩
theorem opens_string {P : Program} {t : TypeId} (ht : P.underlying t = some .string) : Opens P t Kd.string (fun s => s.size ≤ 140737488351232) (fun s => s.size + 1) := by
  intro H enc W fuel cs x ps h hw
  obtain ⟨s, rfl, hx, hs⟩ := DataW.trod_string ht h
  obtain ⟨rfl, rfl⟩ := Prod.mk.inj hx
  refine ⟨s, rfl, ?_, ?_⟩
  · have : s.data.toList.length ≤ reachBytes := by simpa [DataW.weights] using hw
    rw [Array.length_toList] at this
    exact this
  · simp [Rows.uptoBulk]

theorem weightsAll_mem {H : Type} {P : Program} {e : TypeId} {d : DataW H} : ∀ {l : List (DataW H)}, d ∈ l → ∀ n ∈ d.weights P e, n ∈ DataW.weightsAll P e l
  | [], h, _, _ => by simp at h
  | y :: l, h, n, hn => by
    simp only [DataW.weightsAll, List.mem_append]
    rcases List.mem_cons.1 h with rfl | h
    · exact .inl hn
    · exact .inr (weightsAll_mem h n hn)
theorem bulkAll_list {H α : Type} (sz : α → Nat) : ∀ (l : List α) (ds : List (DataW H)), l.length = ds.length → (∀ (i : Nat) y x, l[i]? = some y → ds[i]? = some x → sz y ≤ Rows.uptoBulk x) → (l.map sz).sum ≤ Rows.uptoBulkAll ds
  | [], [], _, _ => by simp [Rows.uptoBulkAll]
  | [], _ :: _, h, _ => by simp at h
  | _ :: _, [], h, _ => by simp at h
  | y :: l, x :: ds, hl, h => by
    simp only [List.map_cons, List.sum_cons, Rows.uptoBulkAll]
    have h1 := h 0 y x rfl rfl
    have h2 := bulkAll_list sz l ds (by simpa using hl) (fun i y' x' hy hx => h (i + 1) y' x' hy hx)
    omega
theorem exists_list {α : Type} (n : Nat) (Q : Nat → α → Prop) (h : ∀ i, i < n → ∃ y, Q i y) : ∃ l : List α, l.length = n ∧ ∀ (i : Nat) y, l[i]? = some y → Q i y := by
  induction n with
  | zero => exact ⟨[], rfl, fun i y hy => by simp at hy⟩
  | succ n ih =>
    obtain ⟨l, hl, hq⟩ := ih (fun i hi => h i (by omega))
    obtain ⟨y, hy⟩ := h n (by omega)
    refine ⟨l ++ [y], by simp [hl], fun i z hz => ?_⟩
    rcases Nat.lt_or_ge i l.length with hi | hi
    · rw [List.getElem?_append_left hi] at hz; exact hq i z hz
    · have hi' : i = l.length := by
        have := (List.getElem?_eq_some_iff.1 hz).1
        simp at this; omega
      subst hi'
      simp at hz
      subst hz
      rw [hl]; exact hy
theorem cells_get {w : World} {a : Addr} {n : Nat} {cs : List Value} (h : w.cells? 0 a n = some cs) : cs.length = n ∧ ∀ i u, cs[i]? = some u → w.cell? (a.add i) = some u := by
  unfold World.cells? at h
  rw [if_pos (Nat.zero_le _)] at h
  have hl : cs.length = n := by simpa using mapM_some_length h
  refine ⟨hl, fun i u hu => ?_⟩
  have hi : i < n := by rw [← hl]; exact (List.getElem?_eq_some_iff.1 hu).1
  have := mapM_some_get h i i (by simp [hi])
  rw [this]; exact hu

theorem opens_slice {α : Type} {P : Program} {t e : TypeId} {d : Kd α} {ok : α → Prop} {sz : α → Nat} (ht : P.underlying t = some (.slice e)) {b : Nat} (hd : d.sz = P.cellsOf e) (hb : P.bytesOf e = b) (ho : Opens P e d ok sz) :
    Opens P t (Kd.slice e d) (fun l => l.length * b ≤ 140737488351232 ∧ ∀ a ∈ l, ok a) (fun l => (l.map sz).sum + 1) := by
  intro H enc W fuel cs x ps h hw
  subst hb
  rcases open_slice ht h with ⟨rfl, hx⟩ | ⟨a, len, cap, m, n, D, Pl, rfl, _, hlc, hcm, hm, hx, hel⟩
  · obtain ⟨rfl, rfl⟩ := Prod.mk.inj hx
    exact ⟨[], ⟨none, 0, rfl, Nat.le_refl _, rfl, by simp, fun h => absurd h (by simp)⟩, ⟨by rw [List.length_nil, Nat.zero_mul]; exact Nat.zero_le _, fun a ha => by simp at ha⟩, by simp [Rows.uptoBulk]⟩
  · obtain ⟨rfl, rfl⟩ := Prod.mk.inj hx
    have hm : cap = m := by simpa using hm.symm
    subst hm
    simp only [DataW.weights, ht, List.all_cons, List.all_append, Bool.and_eq_true, List.length_map, List.length_range, decide_eq_true_eq] at hw
    obtain ⟨hw0, hw1, _⟩ := hw
    obtain ⟨l, hl, hq⟩ := exists_list len (fun i (y : α) => (∃ cs', W.cells? 0 (a.add (i * P.cellsOf e)) (P.cellsOf e) = some cs' ∧ d.K W y cs') ∧ ok y ∧ sz y ≤ Rows.uptoBulk (D i)) (by
      intro i hi
      obtain ⟨cs', h1, h2⟩ := hel i (by omega)
      obtain ⟨y, hy, hoy, hsy⟩ := ho H enc W n cs' (D i) (Pl i) h2 (List.all_eq_true.2 fun k hk => List.all_eq_true.1 hw1 k (weightsAll_mem (List.mem_map.2 ⟨i, List.mem_range.2 hi, rfl⟩) k hk))
      exact ⟨y, ⟨cs', h1, hy⟩, hoy, hsy⟩)
    subst hl
    refine ⟨l, ⟨some a, cap, rfl, hlc, rfl, Nat.le_trans hlc hcm, fun _ => ⟨a, rfl, fun j p hj => ?_⟩⟩, ⟨Nat.le_trans (Nat.mul_le_mul_right _ (Nat.le_add_right _ _)) hw0, fun y hy => ?_⟩, ?_⟩
    · obtain ⟨⟨cs', h1, h2⟩, _⟩ := hq j p hj
      obtain ⟨h3, h4⟩ := cells_get h1
      refine ⟨cs', by rw [h3, hd], h2, fun i u hu => ?_⟩
      have := h4 i u hu
      rw [hd]
      rw [← Addr.add_add]; exact this
    · obtain ⟨i, hi, rfl⟩ := List.mem_iff_getElem.1 hy
      exact (hq i _ (List.getElem?_eq_getElem hi)).2.1
    · simp only [Rows.uptoBulk]
      have := bulkAll_list sz l ((List.range l.length).map D) (by simp) (fun i y x hy hx => by
        have hi : i < l.length := (List.getElem?_eq_some_iff.1 hy).1
        have : x = D i := by simpa [hi, eq_comm] using hx
        subst this
        exact (hq i y hy).2.2)
      omega

theorem opensF_one {α : Type} {P : Program} {f : Field} {off : Nat} {d : Kd α} {ok : α → Prop} {sz : α → Nat} (hf : f.offset = off) (hd : P.cellsOf f.type = d.sz) (ho : Opens P f.type d ok sz) : OpensF P [f] off d ok sz := by
  intro H enc W n cs xs hl hx hw hc
  obtain ⟨x, rfl⟩ : ∃ x, xs = [x] := by
    match xs, hl with
    | [x], _ => exact ⟨x, rfl⟩
  have h0 := hx 0 f rfl
  rw [hf, hd, List.take_of_length_le (by rw [List.length_drop]; omega)] at h0
  obtain ⟨a, h1, h2, h3⟩ := ho H enc W n (cs.drop off) x.1 x.2 h0 (by simpa [DataW.weightsEach] using hw)
  exact ⟨a, h1, h2, by simpa [Rows.uptoBulkAll] using h3⟩
theorem opensF_cons {α β : Type} {P : Program} {f : Field} {fs : List Field} {off : Nat} {d : Kd α} {d' : Kd β} {ok : α → Prop} {ok' : β → Prop} {sz : α → Nat} {sz' : β → Nat} (hf : f.offset = off) (hd : P.cellsOf f.type = d.sz) (ho : Opens P f.type d ok sz)
    (hr : OpensF P fs (off + d.sz) d' ok' sz') : OpensF P (f :: fs) off (Kd.pair d d') (fun x => ok x.1 ∧ ok' x.2) (fun x => sz x.1 + sz' x.2) := by
  intro H enc W n cs xs hl hx hw hc
  obtain ⟨x, xs, rfl⟩ : ∃ x ys, xs = x :: ys := by
    match xs, hl with
    | x :: ys, _ => exact ⟨x, ys, rfl⟩
  have hc : cs.length = off + (d.sz + d'.sz) := hc
  have h0 := hx 0 f rfl
  rw [hf, hd] at h0
  simp only [List.map_cons, DataW.weightsEach, List.all_append, Bool.and_eq_true] at hw
  obtain ⟨a, h1, h2, h3⟩ := ho H enc W n ((cs.drop off).take d.sz) x.1 x.2 h0 hw.1
  obtain ⟨b, k1, k2, k3⟩ := hr H enc W n cs xs (by simpa using hl) (fun i g hg => hx (i + 1) g hg) hw.2 (by omega)
  refine ⟨(a, b), ⟨(cs.drop off).take d.sz, cs.drop (off + d.sz), ?_, h1, k1⟩, ⟨h2, k2⟩, ?_⟩
  · rw [← List.drop_drop, List.take_append_drop]
  · simp only [List.map_cons, Rows.uptoBulkAll]; omega
theorem opens_struct {α : Type} {P : Program} {t : TypeId} {fs : Array Field} {d : Kd α} {ok : α → Prop} {sz : α → Nat} (ht : P.underlying t = some (.struct fs)) (hd : P.cellsOf t = d.sz) (ho : OpensF P fs.toList 0 d ok sz) : Opens P t d ok (fun x => sz x + 1) := by
  intro H enc W fuel cs x ps h hw
  obtain ⟨xs, n, _, hx, hl, hlen, hf⟩ := DataW.trod_struct ht h
  obtain ⟨rfl, rfl⟩ := Prod.mk.inj hx
  obtain ⟨a, h1, h2, h3⟩ := ho H enc W n cs xs (by simpa using hlen) (fun i f hi => hf i f (by simpa using hi)) (by simpa [DataW.weights, ht] using hw) (by omega)
  exact ⟨a, by simpa using h1, h2, by simp only [Rows.uptoBulk]; omega⟩
theorem opens_iso {α β : Type} {P : Program} {t : TypeId} {d : Kd α} {ok : α → Prop} {sz : α → Nat} (f : β → α) (g : α → β) (hfg : ∀ a, f (g a) = a) (ho : Opens P t d ok sz) : Opens P t (Kd.iso d f) (fun x => ok (f x)) (fun x => sz (f x)) := by
  intro H enc W fuel cs x ps h hw
  obtain ⟨a, h1, h2, h3⟩ := ho H enc W fuel cs x ps h hw
  exact ⟨g a, show d.K W (f (g a)) cs by rw [hfg]; exact h1, show ok (f (g a)) by rw [hfg]; exact h2, show sz (f (g a)) ≤ _ by rw [hfg]; exact h3⟩
theorem opens_imp {α : Type} {P : Program} {t : TypeId} {d : Kd α} {ok ok' : α → Prop} {sz sz' : α → Nat} (ho : Opens P t d ok sz) (h : ∀ a, ok a → ok' a) (hs : ∀ a, sz' a ≤ sz a) : Opens P t d ok' sz' := by
  intro H enc W fuel cs x ps hx hw
  obtain ⟨a, h1, h2, h3⟩ := ho H enc W fuel cs x ps hx hw
  exact ⟨a, h1, h _ h2, Nat.le_trans (hs a) h3⟩
/-- An argument: what the row's preamble hands over. -/
theorem opens_arg {α : Type} {P : Program} {t : TypeId} {d : Kd α} {ok : α → Prop} {sz : α → Nat} (ho : Opens P t d ok sz) {H : Type} {enc : TypeId × Value → H} {W : World} {v : Value} {x : DataW H} {ps : List MemPlace}
    (h : DataW.Trod enc P W 0 (fun _ => true) true t v x ps) {ts : List TypeId} {ds : List (DataW H)} (hsz : (DataW.weightsEach P ts ds).all (· ≤ reachBytes) = true) (j : Nat) (h1 : ts[j]? = some t) (h2 : ds[j]? = some x) :
    ∃ a : α, d.K W a v.cells.toList ∧ ok a ∧ sz a ≤ Rows.uptoBulk x := by
  obtain ⟨fuel, hf⟩ := h
  exact ho H enc W fuel _ x ps hf (List.all_eq_true.2 fun k hk => List.all_eq_true.1 hsz k (DataW.weights_mem_each h1 h2 k hk))
theorem agg_of {v : Value} {cs : Array Value} {l : List Value} (h : v = .agg cs) (hl : v.cells.toList = l) : v = .agg l.toArray := by
  subst h
  simp only [Value.cells] at hl
  rw [← hl]
end Go.Proofs.YtooibmnanmmgiaaDoor.Opn
