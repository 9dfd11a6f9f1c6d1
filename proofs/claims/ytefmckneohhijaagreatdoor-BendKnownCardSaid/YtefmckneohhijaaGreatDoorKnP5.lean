/- Known calls, part 5: the kernel runs them. No condition but that the listed variables are laid. -/
import Derived.Test.YtefmckneohhijaaGreatDoorKnD
namespace Go.Proofs.YtefmckneohhijaaGreatDoor
open Go Go.Ex
set_option maxRecDepth 1000000 in
theorem k30 : chk (tab ms29) m30 = true := by kernel_rfl
set_option maxRecDepth 1000000 in
theorem k31 : chk (tab ms30) m31 = true := by kernel_rfl
set_option maxRecDepth 1000000 in
theorem k32 : chk (tab ms31) m32 = true := by kernel_rfl
set_option maxRecDepth 1000000 in
theorem k33 : chk (tab ms32) m33 = true := by kernel_rfl
set_option maxRecDepth 1000000 in
theorem k34 : chk (tab ms33) m34 = true := by kernel_rfl
set_option maxRecDepth 1000000 in
theorem k35 : chk (tab ms34) m35 = true := by kernel_rfl
end Go.Proofs.YtefmckneohhijaaGreatDoor
