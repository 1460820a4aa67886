/-
  The chapter's example answers true: a closed run by the kernel. No condition.
-/
import Derived.Test.YtkdmemhinolcnaaGreatDoorRuns
namespace Go.Proofs.YtkdmemhinolcnaaGreatDoor
open Go Go.Hx
set_option maxRecDepth 1000000
theorem awake_run : okT (gCall Tryz.prog env fns 50 11 [] []) = true := by kernel_rfl
end Go.Proofs.YtkdmemhinolcnaaGreatDoor
