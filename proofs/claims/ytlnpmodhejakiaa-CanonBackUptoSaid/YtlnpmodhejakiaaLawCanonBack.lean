/- The law CanonBack: for every input that the row lets in (of bulk at most 1048576), the call returns true and each argument reads behind it as it read before. No other condition. -/
import Derived.Test.YtlnpmodhejakiaaRows
import Derived.Test.YtlnpmodhejakiaaPureCanonBack
import Derived.Test.YtlnpmodhejakiaaInitW
import Derived.WalkKit
import Derived.ProofKit
import Derived.OpenShut
import Derived.ShutString
import Derived.ChangeOld
import Derived.Below
import Derived.SizedLaws
import Derived.Deep.CondSized
import Derived.JoinedCond
namespace Go.Proofs.Ytlnpmodhejakiaa.canonBackUpto
open Go.ChangeShapes Go.WideShapes Go.ChangeAt Go.RowKit Go.Proofs.Ytlnpmodhejakiaa.Opn Go.Proofs.YtlnpmodhejakiaaW.PrintWords Go.Proofs.Ytlnpmodhejakiaa.PM
open Go.ChangeMaps (open_string shut_string)
set_option linter.unusedVariables false
theorem own : ownKnob Try.prog.godebug = none := by kernel_rfl
theorem laidOut : laidOutB Try.prog = true := by kernel_rfl
set_option maxRecDepth 100000 in
theorem contract (H : Type) (enc : TypeId × Value → H) (W : World) (base : Nat) (args : Array Value) (ds gs : List (DataW H)) (before : List MemPlace)
    (hval0 : ∀ (j : Nat) t v, Try.f12.params[j]? = some t → args[j]? = some v → Value.okWide Try.prog W .any base t v)
    (hW : DataW.Whole enc Try.prog Try.f12.params.toList Rows.canonBackSpec.vars false W args.toList ds gs before) (hk : Rows.uptoSmall H (ds ++ gs) = true)
    (hsz0 : (DataW.weightsEach Try.prog (Try.f12.params.toList ++ Rows.canonBackSpec.plain.varTypes Try.prog) (ds ++ gs)).all (· ≤ reachBytes) = true) :
    Calls Try.prog 12 args W fun e W' => ∃ v, e = .returned v ∧ Rows.canonBackSpec.post enc Try.prog Try.f12 false true false false W args v W' := by
  have hsz : (DataW.weightsEach Try.prog (Try.f12.params.toList ++ Rows.canonBackSpec.plain.varTypes Try.prog) (ds ++ gs)).all (· ≤ reachBytes) = true := hsz0
  have hval : ∀ (j : Nat) t v, Try.f12.params[j]? = some t → args[j]? = some v → Value.okWide Try.prog W .any base t v := hval0
  have hW' := hW
  obtain ⟨p, q, hA0, hV, rfl, hfz, hnd⟩ := hW
  have hA : DataW.TrodAll enc Try.prog W 0 (fun _ => true) true Try.f12.params.toList args.toList ds p := hA0
  rw [Try.params12] at hA hval hsz
  obtain ⟨v0, vs0, d0, ds0, p0, q0, hargs, rfl, rfl, h0, r0⟩ := trodAll_cons hA
  obtain ⟨rfl, rfl, rfl⟩ := trodAll_nil r0
  obtain rfl : args = #[v0] := by cases args; simp_all
  obtain ⟨rfl, rfl⟩ := trodVars_none hV
  obtain ⟨x0, K0, o0, z0⟩ := opens_arg (opens_slice (b := 40) Try.underlying43 (by kernel_rfl) (by kernel_rfl) Go.Proofs.Ytlnpmodhejakiaa.PM.opens46) h0 hsz 0 rfl rfl
  obtain ⟨a0, len0, cap0, rfl⟩ := okWide_slice Try.underlying43 (hval 0 43 v0 rfl rfl)
  have k0 := h0
  have lt0 : ∀ x ∈ p0, x.block < W.heap.size := by obtain ⟨m, hm⟩ := k0; exact DataW.trod_lt m _ _ _ hm
  obtain ⟨A0, c0, E0, L0, C0⟩ := K0
  simp only [Value.cells, List.cons.injEq, Value.slice.injEq, and_true] at E0
  obtain ⟨rfl, rfl, rfl⟩ := E0
  have hb0 : Rows.uptoBulkAll [d0] ≤ 1048576 := of_decide_eq_true (by simpa [Rows.uptoSmall] using hk)
  simp only [Rows.uptoBulkAll] at hb0
  have y0 : ((x0.map (fun y => sz46 y)).sum + 1) ≤ Rows.uptoBulk d0 := z0
  have hbulk : ((x0.map (fun y => sz46 y)).sum + 1) ≤ 1048576 := by omega
  have h := Pure.CanonBack x0 o0 hbulk
  clear hA0 hval0 hsz0 hsz
  refine (Go.Proofs.Ytlnpmodhejakiaa.PM.stelelaw02_CanonBack.calls _ _ x0 true W C0 L0 h).mono fun e W' ⟨he, bel0⟩ => ?_
  have bel : Below W.heap.size W W' := bel0
  subst he
  exact ⟨_, rfl, _, _, _, [], _, [], hW', trodAll_mk1 (shut_bool Try.underlying4 _), (trodAll_cons_mk (Below.trod laidOut (by kernel_rfl) (of_decide_eq_true (by kernel_rfl)) k0 bel lt0) trodAll_mk0), rfl, bel.frame _, fun h => by cases h⟩
set_option maxRecDepth 100000 in
theorem lifted (os : Os) (started : os.Started) (H : Type) (enc : TypeId × Value → H) (F : Stop.Interp) :
    ReturnsInHanded {} Try.checked os 12 .any ((Rows.OpenSpec.upto Rows.canonBackSpec).pre6 enc Try.prog Try.f12 Rows.canonBackUptoRow.domain false) (((Rows.OpenSpec.upto Rows.canonBackSpec).at F).post enc Try.prog Try.f12 false true false false) := by
  refine returnsInHanded_of_cond_sized (C := Try.checked) (s := Rows.OpenSpec.upto Rows.canonBackSpec) (k := Rows.uptoSmall) rfl own started (by kernel_rfl) Try.func12
    (OpenSpec.witness (enc := enc) (C := Try.checked) (s := Rows.OpenSpec.upto Rows.canonBackSpec) (k := Rows.uptoSmall) rfl false ⟨#[], #[.slice none 0 0], []⟩ 8 (by kernel_rfl) (by kernel_rfl) (by kernel_rfl)
      (x := ([.nil], [], [])) (by kernel_rfl) rfl (by kernel_rfl)) ?_
  intro W base args ds gs before hval hW _ hk hsz _
  exact contract H enc W base args ds gs before hval hW hk hsz
set_option maxHeartbeats 16000000 in
theorem facts : joinedFacts Try.prog 12 Try.f12 (Rows.OpenSpec.upto Rows.canonBackSpec).bare Rows.canonBackUptoRow = true := by
  unfold joinedFacts
  repeat' (with_reducible refine Bool.and_eq_true_iff.2 ⟨?_, ?_⟩)
  all_goals (first | (with_reducible exact IO.mayEnter_) | (rw [IO.lifts_]; rfl) | (rw [IO.make_]; rfl) | (as_aux_lemma => kernel_rfl))
theorem over : Rows.canonBackUptoRow.holds Try.pinned (Rows.OpenSpec.upto Rows.canonBackSpec) :=
  OpenClaim.holds_of_cond 12 Try.f12 rfl rfl rfl rfl rfl rfl rfl ⟨rfl, rfl, rfl, rfl, rfl⟩ rfl rfl rfl rfl rfl (by kernel_rfl) Try.func12 facts
    (of_decide_eq_true (by kernel_rfl)) (by unfold Func.isWrapper; first | (rw [if_pos (by decide +kernel)]; kernel_rfl) | (rw [if_neg (by decide +kernel)]; exact ⟨rfl, rfl⟩))
    (fun os started H enc _ F => lifted os started H enc F)
theorem proved : Rows.CanonBackUptoSaid := over
#print axioms proved
end Go.Proofs.Ytlnpmodhejakiaa.canonBackUpto
namespace Go.Proofs.Ytlnpmodhejakiaa
/-- The row, under a short name, for the claim. -/
theorem canonBackUpto_holds : Rows.CanonBackUptoSaid := canonBackUpto.proved
end Go.Proofs.Ytlnpmodhejakiaa
