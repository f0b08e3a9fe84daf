/- Part of the proofs of this seat: CanA. -/
import Derived.Test.YtlnpmodhejakiaaZCanA
import Derived.RegionCalls
import Derived.Lib.LazyBuf
import Derived.Laws.LoneSync
import Derived.Test.YtlnpmodhejakiaaZDigB
import Derived.Test.YtlnpmodhejakiaaZWb
/- slices.Clone of bytes; the atomic flag. -/
namespace Go.Proofs.Ytlnpmodhejakiaa.D
open Go.RowKit Go.Proofs.YtlnpmodhejakiaaW.PrintWords Go.Proofs.YtlnpmodhejakiaaW.PrintLast Go.Proofs.YtlnpmodhejakiaaW.PrintMore
set_option linter.unusedVariables false
set_option linter.unusedSimpArgs false
set_option maxHeartbeats 4000000 in
theorem atomic_load (g off : Nat) (x : Int) (w : World) (h0 : w.cell? ⟨g, off, none⟩ = some (.int .u32 x)) (f0 : w.frozen? ⟨g, off, none⟩ = false) :
    Calls Try.prog 138 #[.pointer (some ⟨g, off, none⟩)] w fun e w' => e = .returned (.bool (x != 0)) ∧ w' = w := by
  have hld := run_call_load (P := Try.prog) Try.func182 (by kernel_rfl) (by kernel_rfl) (by kernel_rfl) .u32 (by kernel_rfl) h0
  go_enter Try.func138, Try.ntmps138
  go_wp2
  go_ret
  exact ⟨rfl, rfl⟩
set_option maxHeartbeats 4000000 in
theorem atomic_store (g off : Nat) (x : Int) (w : World) (h0 : w.cell? ⟨g, off, none⟩ = some (.int .u32 x)) (f0 : w.frozen? ⟨g, off, none⟩ = false) :
    Calls Try.prog 139 #[.pointer (some ⟨g, off, none⟩), .bool true] w fun e w' => e = .returned (.tuple #[]) ∧ w' = (w.setCell ⟨g, off, none⟩ (.int .u32 1)).drew := by
  have hst := run_call_store (P := Try.prog) Try.func183 (by kernel_rfl) (by kernel_rfl) (by kernel_rfl) (by kernel_rfl) (k := .u32) (y := 1) (w := w.drew) (a := ⟨g, off, none⟩) h0 f0
  go_enter Try.func139, Try.ntmps139
  go_wp2
  go_region_calls
  all_goals (go_end0; exact ⟨rfl, rfl⟩)
end Go.Proofs.Ytlnpmodhejakiaa.D
