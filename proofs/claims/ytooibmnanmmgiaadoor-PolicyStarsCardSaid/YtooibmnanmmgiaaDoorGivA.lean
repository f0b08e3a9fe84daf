/- The chapter's example (alive): true. -/
import Derived.Test.YtooibmnanmmgiaaDoorParseG
import Derived.Test.YtooibmnanmmgiaaDoorPCx1
namespace Go.Proofs.YtooibmnanmmgiaaDoor.SQ
open Go.RowKit Go.Proofs.YtooibmnanmmgiaaDoorW.PrintWords Go.Proofs.YtooibmnanmmgiaaDoorW.PrintLast Go.Proofs.YtooibmnanmmgiaaDoorW.PrintMore
open Go.Proofs.YtooibmnanmmgiaaDoor.PC (S43 k43 policy_May.f policy_May.calls)
set_option linter.unusedVariables false
set_option linter.unusedSimpArgs false
theorem goodW_of (s : ByteArray) (h0 : 0 < s.data.toList.length) (h6 : s.data.toList.length ≤ 64) (h : s.data.toList.all (fun x => decide (33 ≤ x.toNat) && decide (x.toNat ≤ 126) && decide (x.toNat ≠ 59)) = true) : GoodW s := by
  refine ⟨by rw [Lib.size_eq]; exact h0, by rw [Lib.size_eq]; exact h6, fun i hi => ?_⟩
  have hm : s[i]'hi ∈ s.data.toList := by
    rw [Array.mem_toList_iff]
    exact Array.getElem_mem _
  have := List.all_eq_true.1 h _ hm
  simp only [Bool.and_eq_true, decide_eq_true_eq] at this
  exact ⟨this.1.1, this.1.2, this.2⟩
def pr1 : PR where
  txt := ⟨#[97, 108, 108, 111, 119, 32, 97, 110, 110, 32, 103, 101, 116, 32, 98, 47, 42]⟩
  a0 := ⟨#[97, 108, 108, 111, 119]⟩
  a1 := ⟨#[97, 110, 110]⟩
  a2 := ⟨#[103, 101, 116]⟩
  a3 := ⟨#[98, 47, 42]⟩
  j := ⟨[97, 110, 110, 32, 103, 101, 116, 32, 98, 47, 42], rfl, by decide, [103, 101, 116, 32, 98, 47, 42], rfl, by decide, [98, 47, 42], rfl, by decide, rfl, by decide⟩
  d := Or.inl rfl
  g := fun x hx => by
    simp only [List.mem_cons, List.not_mem_nil, or_false] at hx
    rcases hx with rfl | rfl | rfl <;> exact goodW_of _ (by decide) (by decide) (by decide)
  sz := by decide
def pr2 : PR where
  txt := ⟨#[100, 101, 110, 121, 32, 42, 32, 100, 101, 108, 101, 116, 101, 32, 42]⟩
  a0 := ⟨#[100, 101, 110, 121]⟩
  a1 := ⟨#[42]⟩
  a2 := ⟨#[100, 101, 108, 101, 116, 101]⟩
  a3 := ⟨#[42]⟩
  j := ⟨[42, 32, 100, 101, 108, 101, 116, 101, 32, 42], rfl, by decide, [100, 101, 108, 101, 116, 101, 32, 42], rfl, by decide, [42], rfl, by decide, rfl, by decide⟩
  d := Or.inr rfl
  g := fun x hx => by
    simp only [List.mem_cons, List.not_mem_nil, or_false] at hx
    rcases hx with rfl | rfl | rfl <;> exact goodW_of _ (by decide) (by decide) (by decide)
  sz := by decide
def exT : ByteArray := ⟨#[97, 108, 108, 111, 119, 32, 97, 110, 110, 32, 103, 101, 116, 32, 98, 47, 42, 59, 100, 101, 110, 121, 32, 42, 32, 100, 101, 108, 101, 116, 101, 32, 42]⟩
theorem ex_joins : Joins 59 exT.data.toList ([pr1, pr2].map fun p => p.txt.data.toList) := ⟨_, rfl, by decide, rfl, by decide⟩
def exL : List S43 := [⟨false, ⟨#[97, 110, 110]⟩, ⟨#[103, 101, 116]⟩, ⟨#[98, 47, 42]⟩⟩, ⟨true, ⟨#[42]⟩, ⟨#[100, 101, 108, 101, 116, 101]⟩, ⟨#[42]⟩⟩]
theorem ex_rules : [pr1, pr2].map PR.rule = exL := rfl
theorem ex_may1 : policy_May.f 60 exL false ⟨#[97, 110, 110]⟩ ⟨#[103, 101, 116]⟩ ⟨#[98, 47, 107]⟩ = some true := by decide +kernel
theorem ex_may2 : policy_May.f 60 exL true ⟨#[114, 111, 111, 116]⟩ ⟨#[100, 101, 108, 101, 116, 101]⟩ ⟨#[98, 47, 107]⟩ = some false := by decide +kernel
theorem ex_parse (w : World) : Calls Tryd.prog 18 #[.string exT] w fun e w' => ∃ A c, e = .returned (.tuple #[.slice A 2 c, .int .i64 0]) ∧ 2 ≤ c ∧ Kd.C k43 w' A 2 exL ∧ Below w.heap.size w w' :=
  (parse_good [pr1, pr2] (by decide) exT (by decide) (by decide) ex_joins w).mono fun e w' ⟨v, he, hR, hb⟩ => by
    rw [ex_rules] at hR
    obtain ⟨A, c, rfl, hc, hC⟩ := Kd.R_reads hR
    exact ⟨A, c, he, hc, hC, hb⟩
set_option maxHeartbeats 4000000 in
set_option maxRecDepth 100000 in
theorem alive08 (w : World) : Calls Tryd.prog 12 #[] w fun e w' => e = .returned (.bool true) ∧ Below w.heap.size w w' := by
  have HB := Aside0.mk (Below.refl w.heap.size w)
  have EP := Aside0.mk ex_parse
  unfold exT at EP
  have M1 := Aside0.mk (fun A c W h hc => policy_May.calls 60 A c exL false ⟨#[97, 110, 110]⟩ ⟨#[103, 101, 116]⟩ ⟨#[98, 47, 107]⟩ true W h hc ex_may1)
  have M2 := Aside0.mk (fun A c W h hc => policy_May.calls 60 A c exL true ⟨#[114, 111, 111, 116]⟩ ⟨#[100, 101, 108, 101, 116, 101]⟩ ⟨#[98, 47, 107]⟩ false W h hc ex_may2)
  have T0 : True := trivial
  go_enter Tryd.func12, Tryd.ntmps12
  go_wp2_with (first
    | (go_at_call 18; (with_reducible refine (EP.out _).mono ?_); rintro e w1 ⟨A, c, rfl, hc, hC, hb⟩; have HC := Aside0.mk hC; have Hc := Aside0.mk hc; have nb_ := Aside0.mk (below_step HB.out hb); clear HB hC hc hb; have HB := nb_; clear nb_)
    | (go_at_call 16; have _t := T0; refine (M1.out A c _ HC.out Hc.out).mono ?_; rintro e w2 ⟨rfl, hb⟩; have c_ := Aside0.mk (Kd.C_below HC.out (by first | exact hb | exact hb.below)); have nb_ := Aside0.mk (below_step HB.out (by first | exact hb | exact hb.below)); clear HB HC hb T0; have HB := nb_; have HC := c_; clear nb_ c_; have T1 : True := trivial)
    | (go_at_call 16; have _t := T1; refine (M2.out A c _ HC.out Hc.out).mono ?_; rintro e w3 ⟨rfl, hb⟩; have nb_ := Aside0.mk (below_step HB.out (by first | exact hb | exact hb.below)); clear HB HC hb T1; have HB := nb_; clear nb_))
  go_ret
  exact ⟨rfl, HB.out⟩
end Go.Proofs.YtooibmnanmmgiaaDoor.SQ
namespace Go.Proofs.YtooibmnanmmgiaaDoor.D
open Go.RowKit Go.Proofs.YtooibmnanmmgiaaDoorW.PrintWords Go.Proofs.YtooibmnanmmgiaaDoorW.PrintLast Go.Proofs.YtooibmnanmmgiaaDoorW.PrintMore
def stelelaw08_alive.f : Option Bool := some true
theorem stelelaw08_alive.calls (r : Bool) (w : World) (h : stelelaw08_alive.f = some r) : Calls Tryd.prog 12 #[] w fun e w' => e = .returned (.bool r) ∧ Below w.heap.size w w' := by
  obtain rfl := Option.some.inj h
  exact Go.Proofs.YtooibmnanmmgiaaDoor.SQ.alive08 w
end Go.Proofs.YtooibmnanmmgiaaDoor.D
