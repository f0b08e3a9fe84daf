/- expiry.Due in the print's form. -/
import Derived.Test.YtioncemogbjklaaExpD
namespace Go.Proofs.Ytioncemogbjklaa.PG
open Go.RowKit Go.Maps Go.Proofs.YtioncemogbjklaaW.PrintWords Go.Proofs.YtioncemogbjklaaW.PrintLast Go.Proofs.YtioncemogbjklaaW.PrintMore Go.Proofs.Ytioncemogbjklaa.PE
def expiry_Due.f (a0_0 : ByteArray) (a0_1 : Int) (_ : Bool) (_ : Bool) (_ : Int) (_ : Int) (_ : ByteArray) (a0_7 : Int) (a0_8 : Int) (l1 : List (S37)) (a2 : Int) : Option (List Int) :=
  if Fit l1 then some (dueL a0_0 a0_1 a0_7 a0_8 a2 l1 l1.length) else none
theorem expiry_Due.calls (a0_0 : ByteArray) (a0_1 : Int) (a0_2 : Bool) (a0_3 : Bool) (a0_4 : Int) (a0_5 : Int) (a0_6 : ByteArray) (a0_7 : Int) (a0_8 : Int) (A1 : Option Addr) (c1 : Nat) (l1 : List (S37)) (a2 : Int) (r : List Int) (w : World) (hr1 : Kd.C k37 w A1 l1.length l1) (hc1 : l1.length ≤ c1) (h : expiry_Due.f a0_0 a0_1 a0_2 a0_3 a0_4 a0_5 a0_6 a0_7 a0_8 l1 a2 = some r) :
    Calls Try.prog 10 #[.agg #[.string a0_0, .int .i64 a0_1, .bool a0_2, .bool a0_3, .int .i64 a0_4, .int .i64 a0_5, .string a0_6, .int .i64 a0_7, .int .i64 a0_8], .slice A1 l1.length c1, .int .u64 a2] w fun e w' => ∃ v0_ : Value, e = .returned (v0_) ∧ Kd.R (Kd.int .u64) 28 w' w.heap.size (fun _ => True) v0_ r ∧ Below w.heap.size w w' := by
  unfold expiry_Due.f at h
  by_cases hf : Fit l1
  · rw [if_pos hf] at h
    obtain rfl := Option.some.inj h
    exact due_any a0_0 a0_1 a0_2 a0_3 a0_4 a0_5 a0_6 a0_7 a0_8 A1 c1 l1 a2 w hr1 hc1 hf.1 hf.2
  · rw [if_neg hf] at h; cases h
end Go.Proofs.Ytioncemogbjklaa.PG
