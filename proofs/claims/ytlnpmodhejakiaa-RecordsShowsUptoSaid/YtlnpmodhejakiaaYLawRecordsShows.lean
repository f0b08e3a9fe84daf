/- The law RecordsShows: for every input that the row lets in (of bulk at most 1048576), the call returns true and each argument reads behind it as it read before. No other condition. -/
import Derived.WalkKit
import Derived.ProofKit
import Derived.OpenShut
import Derived.ShutString
import Derived.ChangeOld
import Derived.Below
import Derived.SizedLaws
import Derived.Deep.CondSized
import Derived.JoinedCond
import Derived.Test.YtlnpmodhejakiaaRows
import Derived.Test.YtlnpmodhejakiaaYPureRecordsShows
import Derived.Test.YtlnpmodhejakiaaYInitW
namespace Go.Proofs.Ytlnpmodhejakiaa.recordsShowsUpto
open Go.ChangeShapes Go.WideShapes Go.ChangeAt Go.RowKit Go.Proofs.Ytlnpmodhejakiaa.Opn Go.Proofs.YtlnpmodhejakiaaW.PrintWords Go.Proofs.Ytlnpmodhejakiaa.PX
open Go.ChangeMaps (open_string shut_string)
set_option linter.unusedVariables false
theorem own : ownKnob Try.prog.godebug = none := by kernel_rfl
theorem laidOut : laidOutB Try.prog = true := by kernel_rfl
set_option maxRecDepth 100000 in
theorem contract (H : Type) (enc : TypeId × Value → H) (W : World) (base : Nat) (args : Array Value) (ds gs : List (DataW H)) (before : List MemPlace)
    (hval0 : ∀ (j : Nat) t v, Try.f25.params[j]? = some t → args[j]? = some v → Value.okWide Try.prog W .any base t v)
    (hW : DataW.Whole enc Try.prog Try.f25.params.toList Rows.recordsShowsSpec.vars false W args.toList ds gs before) (hk : Rows.uptoSmall H (ds ++ gs) = true)
    (hsz0 : (DataW.weightsEach Try.prog (Try.f25.params.toList ++ Rows.recordsShowsSpec.plain.varTypes Try.prog) (ds ++ gs)).all (· ≤ reachBytes) = true) :
    Calls Try.prog 25 args W fun e W' => ∃ v, e = .returned v ∧ Rows.recordsShowsSpec.post enc Try.prog Try.f25 false true false false W args v W' := by
  have hsz : (DataW.weightsEach Try.prog (Try.f25.params.toList ++ Rows.recordsShowsSpec.plain.varTypes Try.prog) (ds ++ gs)).all (· ≤ reachBytes) = true := hsz0
  have hval : ∀ (j : Nat) t v, Try.f25.params[j]? = some t → args[j]? = some v → Value.okWide Try.prog W .any base t v := hval0
  have hW' := hW
  obtain ⟨p, q, hA0, hV, rfl, hfz, hnd⟩ := hW
  have hA : DataW.TrodAll enc Try.prog W 0 (fun _ => true) true Try.f25.params.toList args.toList ds p := hA0
  rw [Try.params25] at hA hval hsz
  obtain ⟨v0, vs0, d0, ds0, p0, q0, hargs, rfl, rfl, h0, r0⟩ := trodAll_cons hA
  obtain ⟨v1, vs1, d1, ds1, p1, q1, rfl, rfl, rfl, h1, r1⟩ := trodAll_cons r0
  obtain ⟨v2, vs2, d2, ds2, p2, q2, rfl, rfl, rfl, h2, r2⟩ := trodAll_cons r1
  obtain ⟨v3, vs3, d3, ds3, p3, q3, rfl, rfl, rfl, h3, r3⟩ := trodAll_cons r2
  obtain ⟨rfl, rfl, rfl⟩ := trodAll_nil r3
  obtain rfl : args = #[v0, v1, v2, v3] := by cases args; simp_all
  obtain ⟨rfl, rfl⟩ := trodVars_none hV
  obtain ⟨x0, K0, o0, z0⟩ := opens_arg Go.Proofs.Ytlnpmodhejakiaa.PX.opens89 h0 hsz 0 rfl rfl
  obtain ⟨cs0, e0, _⟩ := okWide_struct Try.underlying89 (hval 0 89 v0 rfl rfl)
  have E0 := Go.Proofs.Ytlnpmodhejakiaa.PX.k89_open K0
  have k0 := h0
  have lt0 : ∀ x ∈ p0, x.block < W.heap.size := by obtain ⟨m, hm⟩ := k0; exact DataW.trod_lt m _ _ _ hm
  obtain rfl := agg_of e0 E0
  obtain ⟨x1, K1, o1, z1⟩ := opens_arg Go.Proofs.Ytlnpmodhejakiaa.PX.opens95 h1 hsz 1 rfl rfl
  obtain ⟨cs1, e1, _⟩ := okWide_struct Try.underlying95 (hval 1 95 v1 rfl rfl)
  obtain ⟨A1_5, c1_5, E1, L1_5, C1_5⟩ := Go.Proofs.Ytlnpmodhejakiaa.PX.k95_open K1
  have k1 := h1
  have lt1 : ∀ x ∈ p1, x.block < W.heap.size := by obtain ⟨m, hm⟩ := k1; exact DataW.trod_lt m _ _ _ hm
  obtain rfl := agg_of e1 E1
  obtain ⟨x2, K2, o2, z2⟩ := opens_arg Go.Proofs.Ytlnpmodhejakiaa.PX.opens101 h2 hsz 2 rfl rfl
  obtain ⟨cs2, e2, _⟩ := okWide_struct Try.underlying101 (hval 2 101 v2 rfl rfl)
  obtain ⟨A2_4, c2_4, E2, L2_4, C2_4⟩ := Go.Proofs.Ytlnpmodhejakiaa.PX.k101_open K2
  have k2 := h2
  have lt2 : ∀ x ∈ p2, x.block < W.heap.size := by obtain ⟨m, hm⟩ := k2; exact DataW.trod_lt m _ _ _ hm
  obtain rfl := agg_of e2 E2
  obtain ⟨x3, K3, o3, z3⟩ := opens_arg Go.Proofs.Ytlnpmodhejakiaa.PX.opens110 h3 hsz 3 rfl rfl
  obtain ⟨cs3, e3, _⟩ := okWide_struct Try.underlying110 (hval 3 110 v3 rfl rfl)
  obtain ⟨A3_0, c3_0, A3_1, c3_1, A3_2, c3_2, E3, L3_0, C3_0, L3_1, C3_1, L3_2, C3_2⟩ := Go.Proofs.Ytlnpmodhejakiaa.PX.k110_open K3
  have k3 := h3
  have lt3 : ∀ x ∈ p3, x.block < W.heap.size := by obtain ⟨m, hm⟩ := k3; exact DataW.trod_lt m _ _ _ hm
  obtain rfl := agg_of e3 E3
  have hb0 : Rows.uptoBulkAll [d0, d1, d2, d3] ≤ 1048576 := of_decide_eq_true (by simpa [Rows.uptoSmall] using hk)
  simp only [Rows.uptoBulkAll] at hb0
  have y0 : sz89 x0 ≤ Rows.uptoBulk d0 := z0
  have y1 : sz95 x1 ≤ Rows.uptoBulk d1 := z1
  have y2 : sz101 x2 ≤ Rows.uptoBulk d2 := z2
  have y3 : sz110 x3 ≤ Rows.uptoBulk d3 := z3
  have hbulk : sz89 x0 + (sz95 x1 + (sz101 x2 + (sz110 x3))) ≤ 1048576 := by omega
  have h := Pure.RecordsShows x0 x1 x2 x3 o0 o1 o2 o3 hbulk
  clear hA0 hval0 hsz0 hsz
  refine (Go.Proofs.Ytlnpmodhejakiaa.PX.stelelaw19_RecordsShows.calls x0.f0 x0.f1 x0.f2 x0.f3 x0.f4 x0.f5 x0.f6 x0.f7 x0.f8 x1.f0 x1.f1 x1.f2 x1.f3 x1.f4 _ _ (x1.f5) x1.f6.f0 x1.f6.f1 x1.f7 x1.f8 x2.f0 x2.f1 x2.f2 x2.f3 _ _ (x2.f4) _ _ (x3.f0) _ _ (x3.f1) _ _ (x3.f2) x3.f3 x3.f4 true W C1_5 L1_5 C2_4 L2_4 C3_0 L3_0 C3_1 L3_1 C3_2 L3_2 h).mono fun e W' ⟨he, bel0⟩ => ?_
  have bel : Below W.heap.size W W' := bel0
  subst he
  exact ⟨_, rfl, _, _, _, [], _, [], hW', trodAll_mk1 (shut_bool Try.underlying4 _), (trodAll_cons_mk (Below.trod laidOut (by kernel_rfl) (of_decide_eq_true (by kernel_rfl)) k0 bel lt0) (trodAll_cons_mk (Below.trod laidOut (by kernel_rfl) (of_decide_eq_true (by kernel_rfl)) k1 bel lt1) (trodAll_cons_mk (Below.trod laidOut (by kernel_rfl) (of_decide_eq_true (by kernel_rfl)) k2 bel lt2) (trodAll_cons_mk (Below.trod laidOut (by kernel_rfl) (of_decide_eq_true (by kernel_rfl)) k3 bel lt3) trodAll_mk0)))), rfl, bel.frame _, fun h => by cases h⟩
set_option maxRecDepth 100000 in
theorem lifted (os : Os) (started : os.Started) (H : Type) (enc : TypeId × Value → H) (F : Stop.Interp) :
    ReturnsInHanded {} Try.checked os 25 .any ((Rows.OpenSpec.upto Rows.recordsShowsSpec).pre6 enc Try.prog Try.f25 Rows.recordsShowsUptoRow.domain false) (((Rows.OpenSpec.upto Rows.recordsShowsSpec).at F).post enc Try.prog Try.f25 false true false false) := by
  refine returnsInHanded_of_cond_sized (C := Try.checked) (s := Rows.OpenSpec.upto Rows.recordsShowsSpec) (k := Rows.uptoSmall) rfl own started (by kernel_rfl) Try.func25
    (OpenSpec.witness (enc := enc) (C := Try.checked) (s := Rows.OpenSpec.upto Rows.recordsShowsSpec) (k := Rows.uptoSmall) rfl false ⟨#[], #[.agg #[.string ByteArray.empty, .int .i64 0, .bool false, .bool false, .int .i64 0, .int .i64 0, .string ByteArray.empty, .int .i64 0, .int .i64 0], .agg #[.string ByteArray.empty, .string ByteArray.empty, .int .u64 0, .int .u64 0, .bool false, .slice none 0 0, .int .i64 0, .int .u64 0, .bool false, .int .u64 0], .agg #[.string ByteArray.empty, .string ByteArray.empty, .int .u64 0, .int .u64 0, .slice none 0 0], .agg #[.slice none 0 0, .slice none 0 0, .slice none 0 0, .int .u64 0, .int .u64 0]], []⟩ 8 (by kernel_rfl) (by kernel_rfl) (by kernel_rfl)
      (x := ([.agg [.lit (.string []), .lit (.int .i64 0), .lit (.bool false), .lit (.bool false), .lit (.int .i64 0), .lit (.int .i64 0), .lit (.string []), .lit (.int .i64 0), .lit (.int .i64 0)], .agg [.lit (.string []), .lit (.string []), .lit (.int .u64 0), .lit (.int .u64 0), .lit (.bool false), .nil, .agg [.lit (.int .i64 0), .lit (.int .u64 0)], .lit (.bool false), .lit (.int .u64 0)], .agg [.lit (.string []), .lit (.string []), .lit (.int .u64 0), .lit (.int .u64 0), .nil], .agg [.nil, .nil, .nil, .lit (.int .u64 0), .lit (.int .u64 0)]], [], [])) (by kernel_rfl) rfl (by kernel_rfl)) ?_
  intro W base args ds gs before hval hW _ hk hsz _
  exact contract H enc W base args ds gs before hval hW hk hsz
set_option maxHeartbeats 16000000 in
theorem facts : joinedFacts Try.prog 25 Try.f25 (Rows.OpenSpec.upto Rows.recordsShowsSpec).bare Rows.recordsShowsUptoRow = true := by
  unfold joinedFacts
  repeat' (with_reducible refine Bool.and_eq_true_iff.2 ⟨?_, ?_⟩)
  all_goals (first | (with_reducible exact IO.mayEnter_) | (rw [IO.lifts_]; rfl) | (rw [IO.make_]; rfl) | (as_aux_lemma => kernel_rfl))
theorem over : Rows.recordsShowsUptoRow.holds Try.pinned (Rows.OpenSpec.upto Rows.recordsShowsSpec) :=
  OpenClaim.holds_of_cond 25 Try.f25 rfl rfl rfl rfl rfl rfl rfl ⟨rfl, rfl, rfl, rfl, rfl⟩ rfl rfl rfl rfl rfl (by kernel_rfl) Try.func25 facts
    (of_decide_eq_true (by kernel_rfl)) (by unfold Func.isWrapper; first | (rw [if_pos (by decide +kernel)]; kernel_rfl) | (rw [if_neg (by decide +kernel)]; exact ⟨rfl, rfl⟩))
    (fun os started H enc _ F => lifted os started H enc F)
theorem proved : Rows.RecordsShowsUptoSaid := over
#print axioms proved
end Go.Proofs.Ytlnpmodhejakiaa.recordsShowsUpto
namespace Go.Proofs.Ytlnpmodhejakiaa
theorem recordsShowsUpto_holds : Rows.RecordsShowsUptoSaid := recordsShowsUpto.proved
end Go.Proofs.Ytlnpmodhejakiaa
