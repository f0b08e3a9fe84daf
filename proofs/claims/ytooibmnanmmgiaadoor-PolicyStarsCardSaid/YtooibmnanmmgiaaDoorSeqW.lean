/- A range over a function whose iterator keeps its place in a box of its own (a string that grows shorter): what a body that always goes on may know. -/
import Derived.RangeFuncNested
import Derived.RangeFuncBound
import Derived.RangeFuncCalls
import Derived.RangeFuncLeaves
import Derived.Shelf.Abstract
import Derived.Shelf.RegionOpen
import Derived.WalkKit
import Derived.OwnWalkIn
import Derived.TacticsInMore
import Derived.LoopNIn
import Derived.LoopIn
import Derived.Test.YtooibmnanmmgiaaDoorPAx0
namespace Go.Proofs.YtooibmnanmmgiaaDoor.SQ
open Go.RowKit Go.Shelf Go.Proofs.YtooibmnanmmgiaaDoorW.PrintWords Go.Proofs.YtooibmnanmmgiaaDoorW.PrintLast Go.Proofs.YtooibmnanmmgiaaDoorW.PrintMore
set_option linter.unusedVariables false
set_option linter.unusedSimpArgs false
variable {P : Program} {F : Fence} {n : Nat}
/-- all of xs come, in their order; between two rounds the iterator writes its own box Bs alone -/
def SeqAll {α : Type} (F : Fence) (n : Nat) (P : Program) (gf : Nat) (lb : Array Value) (encs : α → Array Value) (Bs : Nat) (Kp : World → World → Prop) (xs : List α) (w : World) : Prop :=
  ∀ (l : Nat) (J : List α → World → Prop) (W : World), Below w.heap.size w W → (∀ s A v, J s A → J s (A.setCell ⟨Bs, 0, none⟩ v)) →
    (∀ pre x W1, J pre W1 → pre.length < xs.length → YieldAt F (n - 1) P l (encs x) W1 fun e W' => e = .returned (.bool true) ∧ J (pre ++ [x]) W' ∧ Kp W1 W') →
    J [] W → CallsIn F n P gf (#[.func (.yield l) #[] #[]] ++ lb) W fun e W' => (∃ v, e = .returned v) ∧ J xs W'
def onPost {α : Type} (B : Nat) (Kp : World → World → Prop) (I : List α → World → Prop) (xs : List α) (W : World) : Exit → Act → World → Prop
  | .normal, _, W' => KeepsFrom B W W' ∧ Kp W W' ∧ I xs W'
  | _, _, _ => False
theorem range_on {α : Type} {g : Operand} {ps : Array Tmp} {assign body : Code} {Q : Exit → Act → World → Prop} {a : Act} {w : World} (hro : F.round = none) (h1 : 1 ≤ n) {gf : Nat} {lb : Array Value} (hg : a.eval g = .func (.func gf) #[] lb) (hFg : F.fn gf)
    (eg : ∀ args w, (callFunc gf args).run P w = .ok (.enter gf args) w) {encs : α → Array Value} {Kp : World → World → Prop} {xs : List α} {Bs : Nat} (hBs : Bs < w.heap.size) (hseq : SeqAll F (n - 1) P gf lb encs Bs Kp xs w)
    (hKt : ∀ {A B C : World}, Kp A B → Kp B C → Kp A C) (hKb : ∀ (W : World) (l : Nat) (o : Obj), w.heap.size ≤ l → Kp W (W.putObj l o)) (hps : ∀ x, (encs x).size = ps.size)
    (I : List α → World → Prop) (hI : OwnFrom w.heap.size I) (hIs : ∀ s A v, I s A → I s (A.setCell ⟨Bs, 0, none⟩ v)) (h0 : I [] w) (a₁ : α → Act)
    (hassign : ∀ (l : Nat) (pre : List α) (x : α) (W : World) (K : Act → World → Prop), I pre W → K (a₁ x) W → assign.wpIn (F.inRound l) (n - 1 - 1) P (Exit.then K (fun _ _ _ => False)) { tmps := (ps.zip (encs x)).foldl (fun t (p, v) => t.setIfInBounds p v) a.tmps, defers := [] } W)
    (hbody : ∀ (l : Nat) (pre : List α) (x : α) (W : World), w.heap.size ≤ l → I pre W → pre.length < xs.length → body.wpIn (F.inRound l) (n - 1 - 1) P (onPost w.heap.size Kp I (pre ++ [x]) W) (a₁ x) W)
    (hdone : ∀ (D : Nat) (W : World), w.heap.size ≤ D → I xs W → W.heap[D]? = some (.deferred (some [])) → Q .normal { a with defers := { target := .collected D, args := #[] } :: a.defers } W) :
    (Code.rangeFunc g ps assign body).wpIn F n P Q a w := by
  refine wpIn_rangeFunc fun fn hfn => ?_
  rw [hro]
  obtain ⟨R, hR⟩ : ∃ R : LoopState → Loop, R = fun st => { state := st, pending := none, fn := fn, tmps := a.tmps, params := ps, assign := assign, body := body, defers := w.heap.size } := ⟨_, rfl⟩
  obtain ⟨V, hV⟩ : ∃ V, (w.alloc (.deferred (some []))).alloc (.loop (R .ready)) = V := ⟨_, rfl⟩
  have bl : Below w.heap.size w V := by rw [← hV]; exact below_alloc (below_alloc (Below.refl _ w) _) _
  have sz : V.heap.size = w.heap.size + 2 := by rw [← hV, World.size_alloc, World.size_alloc]
  have atL : V.heap[w.heap.size + 1]? = some (.loop (R .ready)) := by
    have := World.alloc_heap_new (w.alloc (.deferred (some []))) (.loop (R .ready))
    rwa [World.size_alloc, hV] at this
  have atD : V.heap[w.heap.size]? = some (.deferred (some [])) := by rw [← hV]; exact (Below.heap_alloc _ _ _ (by simp)).trans (World.alloc_heap_new w _)
  have iV : I [] V := by rw [← hV]; exact hI.alloc _ (hI.alloc _ h0)
  have far : ∀ (A : World) (v : Value) (k : Nat), k ≠ Bs → (A.setCell ⟨Bs, 0, none⟩ v).heap[k]? = A.heap[k]? := fun A v k hk => Below.heap_setCell A ⟨Bs, 0, none⟩ v k hk
  refine ⟨w.heap.size + 1, [{ target := .collected w.heap.size, args := #[] }], V, { target := .fn (.func gf) lb, args := #[.func (.yield (w.heap.size + 1)) #[] #[]] }, V, gf, #[.func (.yield (w.heap.size + 1)) #[] #[]] ++ lb, V, ?_, ?_, ?_, ?_, fun _ => h1, ?_⟩
  · rw [← hV, hR]; exact run_enterLoop_outer _ _ _ _ _
  · simp only [resolve, hg]
    simp [go_sem]
  · intro f' hf'
    simp [Target.leads] at hf'
    subst hf'
    exact hFg
  · simp [invoke, go_sem, eg]
  refine (hseq (w.heap.size + 1) (fun pre W => I pre W ∧ W.heap[w.heap.size + 1]? = some (.loop (R .ready)) ∧ W.heap[w.heap.size]? = some (.deferred (some []))) V bl
    (fun s A v h => ⟨hIs s A v h.1, (far A v _ (by omega)).trans h.2.1, (far A v _ (by omega)).trans h.2.2⟩) ?_ ⟨iV, atL, atD⟩).mono ?_
  · intro pre x W h hlen
    have hlt : w.heap.size + 1 < W.heap.size := (Array.getElem?_eq_some_iff.1 h.2.1).1
    have hy := run_yield (P := P) (args := encs x) h.2.1 (by rw [hR]; exact hps x)
    rw [hR] at hy
    refine ⟨fn, _, assign, body, hy, roundIn_of_wpIn hfn (hassign _ pre x W _ h.1 ⟨_, run_beginRound h.2.1 (by rw [hR]), ?_⟩)⟩
    obtain ⟨W2, hW2⟩ : ∃ W2, W.putObj (w.heap.size + 1) (.loop { R .ready with state := .busy }) = W2 := ⟨_, rfl⟩
    rw [hW2]
    have busy : W2.heap[w.heap.size + 1]? = some (.loop { R .ready with state := .busy }) := by rw [← hW2]; exact World.putObj_heap_same hlt
    have atD2 : W2.heap[w.heap.size]? = some (.deferred (some [])) := by rw [← hW2]; exact (World.putObj_heap_other (by omega)).trans h.2.2
    have i2 : I pre W2 := by rw [← hW2]; exact hI.putObj _ h.1 (by omega) h.2.1 rfl
    have k2 : Kp W W2 := by rw [← hW2]; exact hKb _ _ _ (by omega)
    refine wpIn_mono (hbody _ pre x W2 (by omega) i2 hlen) ?_
    intro e a3 W3 hp
    match e, hp with
    | .normal, hp =>
      obtain ⟨hk3, hkp, hi3⟩ := hp
      have b3 := hk3.same _ _ (by omega) busy rfl
      have d3 := hk3.same _ _ (Nat.le_refl _) atD2 rfl
      have hr := run_endRound (P := P) none b3
      refine ⟨_, _, hr, rfl, ⟨hI.putObj _ hi3 (by omega) b3 rfl, ?_, ?_⟩, hKt k2 (hKt hkp (hKb _ _ _ (by omega)))⟩
      · refine (World.putObj_heap_same (Array.getElem?_eq_some_iff.1 b3).1).trans ?_
        rw [hR]
        rfl
      · exact (World.putObj_heap_other (by omega)).trans d3
  · rintro e W2 ⟨⟨v, rfl⟩, hi, hl, hk⟩
    have he := run_endLoop (P := P) hl (by rw [hR]; simp)
    have hp : (R .ready).pending = none := by rw [hR]
    rw [hp] at he
    exact ⟨none, _, he, hdone _ _ (Nat.le_refl _) (hI.putObj _ hi (by omega) hl rfl) ((World.putObj_heap_other (by omega)).trans hk)⟩
end Go.Proofs.YtooibmnanmmgiaaDoor.SQ
