/- The law AuditShows: for every input that the row lets in, the call returns true and each argument reads behind it as it read before. No other condition. -/
import Derived.WalkKit
import Derived.ProofKit
import Derived.OpenShut
import Derived.ShutString
import Derived.ChangeOld
import Derived.Below
import Derived.SizedLaws
import Derived.Test.YtlnpmodhejakiaaRows
import Derived.Test.YtlnpmodhejakiaaZPureAuditShows
import Derived.Test.YtlnpmodhejakiaaZInitW
namespace Go.Proofs.Ytlnpmodhejakiaa.auditShows
open Go.ChangeShapes Go.WideShapes Go.ChangeAt Go.RowKit Go.Proofs.Ytlnpmodhejakiaa.Opn Go.Proofs.YtlnpmodhejakiaaW.PrintWords
open Go.ChangeMaps (open_string shut_string)
set_option linter.unusedVariables false
theorem own : ownKnob Try.prog.godebug = none := by kernel_rfl
theorem laidOut : laidOutB Try.prog = true := by kernel_rfl
set_option maxRecDepth 100000 in
theorem lifted (os : Os) (started : os.Started) (H : Type) (enc : TypeId × Value → H) :
    ReturnsInHanded {} Try.checked os 19 .any (Rows.auditShowsSpec.pre6 enc Try.prog Try.f19 Rows.auditShowsRow.domain false) (Rows.auditShowsSpec.post enc Try.prog Try.f19 false true false false) := by
  refine returnsInHanded_of_change_sized (C := Try.checked) own started (by kernel_rfl) Try.func19
    (ChangeSpec.witness6 (enc := enc) (C := Try.checked) false ⟨#[], #[.agg #[.int .u64 0, .int .u64 0, .string ByteArray.empty, .int .i64 0, .string ByteArray.empty, .string ByteArray.empty, .int .u64 0, .int .i64 0, .slice none 0 0, .slice none 0 0], .agg #[.int .u64 0, .int .u64 0, .string ByteArray.empty, .int .i64 0, .string ByteArray.empty, .string ByteArray.empty, .int .u64 0, .int .i64 0, .slice none 0 0, .slice none 0 0], .agg #[.int .u64 0, .int .u64 0, .string ByteArray.empty, .int .i64 0, .string ByteArray.empty, .string ByteArray.empty, .int .u64 0, .int .i64 0, .slice none 0 0, .slice none 0 0]], []⟩ 8 (by kernel_rfl) (by kernel_rfl) (by kernel_rfl) (by kernel_rfl)) ?_
  intro W base args ds gs before hval0 hW hcnd hsz0 _
  have hsz : (DataW.weightsEach Try.prog (Try.f19.params.toList ++ Rows.auditShowsSpec.plain.varTypes Try.prog) (ds ++ gs)).all (· ≤ reachBytes) = true := hsz0
  have hval : ∀ (j : Nat) t v, Try.f19.params[j]? = some t → args[j]? = some v → Value.okWide Try.prog W .any base t v := hval0
  have hW' := hW
  obtain ⟨p, q, hA0, hV, rfl, hfz, hnd⟩ := hW
  have hA : DataW.TrodAll enc Try.prog W 0 (fun _ => true) true Try.f19.params.toList args.toList ds p := hA0
  rw [Try.params19] at hA hval hsz
  obtain ⟨v0, vs0, d0, ds0, p0, q0, hargs, rfl, rfl, h0, r0⟩ := trodAll_cons hA
  obtain ⟨v1, vs1, d1, ds1, p1, q1, rfl, rfl, rfl, h1, r1⟩ := trodAll_cons r0
  obtain ⟨v2, vs2, d2, ds2, p2, q2, rfl, rfl, rfl, h2, r2⟩ := trodAll_cons r1
  obtain ⟨rfl, rfl, rfl⟩ := trodAll_nil r2
  obtain rfl : args = #[v0, v1, v2] := by cases args; simp_all
  obtain ⟨rfl, rfl⟩ := trodVars_none hV
  obtain ⟨x0, K0, o0, z0⟩ := opens_arg Go.Proofs.Ytlnpmodhejakiaa.PV.opens69 h0 hsz 0 rfl rfl
  obtain ⟨cs0, e0, _⟩ := okWide_struct Try.underlying69 (hval 0 69 v0 rfl rfl)
  obtain ⟨A0_8, c0_8, A0_9, c0_9, E0, L0_8, C0_8, L0_9, C0_9⟩ := Go.Proofs.Ytlnpmodhejakiaa.PV.k69_open K0
  have k0 := h0
  have lt0 : ∀ x ∈ p0, x.block < W.heap.size := by obtain ⟨m, hm⟩ := k0; exact DataW.trod_lt m _ _ _ hm
  obtain rfl := agg_of e0 E0
  obtain ⟨x1, K1, o1, z1⟩ := opens_arg Go.Proofs.Ytlnpmodhejakiaa.PV.opens69 h1 hsz 1 rfl rfl
  obtain ⟨cs1, e1, _⟩ := okWide_struct Try.underlying69 (hval 1 69 v1 rfl rfl)
  obtain ⟨A1_8, c1_8, A1_9, c1_9, E1, L1_8, C1_8, L1_9, C1_9⟩ := Go.Proofs.Ytlnpmodhejakiaa.PV.k69_open K1
  have k1 := h1
  have lt1 : ∀ x ∈ p1, x.block < W.heap.size := by obtain ⟨m, hm⟩ := k1; exact DataW.trod_lt m _ _ _ hm
  obtain rfl := agg_of e1 E1
  obtain ⟨x2, K2, o2, z2⟩ := opens_arg Go.Proofs.Ytlnpmodhejakiaa.PV.opens69 h2 hsz 2 rfl rfl
  obtain ⟨cs2, e2, _⟩ := okWide_struct Try.underlying69 (hval 2 69 v2 rfl rfl)
  obtain ⟨A2_8, c2_8, A2_9, c2_9, E2, L2_8, C2_8, L2_9, C2_9⟩ := Go.Proofs.Ytlnpmodhejakiaa.PV.k69_open K2
  have k2 := h2
  have lt2 : ∀ x ∈ p2, x.block < W.heap.size := by obtain ⟨m, hm⟩ := k2; exact DataW.trod_lt m _ _ _ hm
  obtain rfl := agg_of e2 E2
  have h := Pure.AuditShows x0 x1 x2 o0 o1 o2
  clear hA0 hval0 hsz0 hsz
  refine (Go.Proofs.Ytlnpmodhejakiaa.PV.stelelaw14_AuditShows.calls x0.f0 x0.f1 x0.f2 x0.f3 x0.f4 x0.f5 x0.f6 x0.f7 _ _ (x0.f8) _ _ (x0.f9) x1.f0 x1.f1 x1.f2 x1.f3 x1.f4 x1.f5 x1.f6 x1.f7 _ _ (x1.f8) _ _ (x1.f9) x2.f0 x2.f1 x2.f2 x2.f3 x2.f4 x2.f5 x2.f6 x2.f7 _ _ (x2.f8) _ _ (x2.f9) true W C0_8 L0_8 C0_9 L0_9 C1_8 L1_8 C1_9 L1_9 C2_8 L2_8 C2_9 L2_9 h).mono fun e W' ⟨he, bel0⟩ => ?_
  have bel : Below W.heap.size W W' := bel0
  subst he
  exact ⟨_, rfl, _, _, _, [], _, [], hW', trodAll_mk1 (shut_bool Try.underlying4 _), (trodAll_cons_mk (Below.trod laidOut (by kernel_rfl) (of_decide_eq_true (by kernel_rfl)) k0 bel lt0) (trodAll_cons_mk (Below.trod laidOut (by kernel_rfl) (of_decide_eq_true (by kernel_rfl)) k1 bel lt1) (trodAll_cons_mk (Below.trod laidOut (by kernel_rfl) (of_decide_eq_true (by kernel_rfl)) k2 bel lt2) trodAll_mk0))), rfl, bel.frame _, fun h => by cases h⟩
set_option maxHeartbeats 16000000 in
theorem facts : joinedFacts Try.prog 19 Try.f19 Rows.auditShowsSpec Rows.auditShowsRow = true := by
  unfold joinedFacts
  repeat' (with_reducible refine Bool.and_eq_true_iff.2 ⟨?_, ?_⟩)
  all_goals (first | (with_reducible exact IO.mayEnter_) | (rw [IO.lifts_]; rfl) | (rw [IO.make_]; rfl) | (as_aux_lemma => kernel_rfl))
theorem over : Rows.auditShowsRow.holds Try.pinned (OpenSpec.ofChange Rows.auditShowsSpec) :=
  OpenClaim.holds_of_wide 19 Try.f19 rfl rfl rfl rfl rfl rfl rfl ⟨rfl, rfl, rfl, rfl, rfl⟩ rfl rfl rfl rfl rfl (by kernel_rfl) Try.func19 facts
    (of_decide_eq_true (by kernel_rfl)) (by unfold Func.isWrapper; first | (rw [if_pos (by decide +kernel)]; kernel_rfl) | (rw [if_neg (by decide +kernel)]; exact ⟨rfl, rfl⟩))
    (fun os started H enc _ => lifted os started H enc)
theorem proved : Rows.AuditShowsSaid := over
#print axioms proved
end Go.Proofs.Ytlnpmodhejakiaa.auditShows
namespace Go.Proofs.Ytlnpmodhejakiaa
theorem auditShows_holds : Rows.AuditShowsSaid := auditShows.proved
end Go.Proofs.Ytlnpmodhejakiaa
