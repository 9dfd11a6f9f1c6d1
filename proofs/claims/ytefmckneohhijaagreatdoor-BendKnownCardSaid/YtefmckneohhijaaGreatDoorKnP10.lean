/- Known calls, part 10: the kernel runs them. No condition but that the listed variables are laid. -/
import Derived.Test.YtefmckneohhijaaGreatDoorKnD
namespace Go.Proofs.YtefmckneohhijaaGreatDoor
open Go Go.Ex
set_option maxRecDepth 1000000 in
theorem k60 : chk (tab ms59) m60 = true := by kernel_rfl
set_option maxRecDepth 1000000 in
theorem k61 : chk (tab ms60) m61 = true := by kernel_rfl
set_option maxRecDepth 1000000 in
theorem k62 : chk (tab ms61) m62 = true := by kernel_rfl
set_option maxRecDepth 1000000 in
theorem k63 : chk (tab ms62) m63 = true := by kernel_rfl
set_option maxRecDepth 1000000 in
theorem k64 : chk (tab ms63) m64 = true := by kernel_rfl
set_option maxRecDepth 1000000 in
theorem k65 : chk (tab ms64) m65 = true := by kernel_rfl
end Go.Proofs.YtefmckneohhijaaGreatDoor
