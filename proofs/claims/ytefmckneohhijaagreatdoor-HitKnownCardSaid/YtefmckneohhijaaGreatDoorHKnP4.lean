/- Known calls, part 4: the kernel runs them. No condition but that the listed variables are laid. -/
import Derived.Test.YtefmckneohhijaaGreatDoorHKnD
namespace Go.Proofs.YtefmckneohhijaaGreatDoor
open Go Go.Ex
set_option maxRecDepth 1000000 in
theorem k32 : chk (tab ms31) m32 = true := by kernel_rfl
set_option maxRecDepth 1000000 in
theorem k33 : chk (tab ms32) m33 = true := by kernel_rfl
set_option maxRecDepth 1000000 in
theorem k34 : chk (tab ms33) m34 = true := by kernel_rfl
set_option maxRecDepth 1000000 in
theorem k35 : chk (tab ms34) m35 = true := by kernel_rfl
set_option maxRecDepth 1000000 in
theorem k36 : chk (tab ms35) m36 = true := by kernel_rfl
set_option maxRecDepth 1000000 in
theorem k37 : chk (tab ms36) m37 = true := by kernel_rfl
set_option maxRecDepth 1000000 in
theorem k38 : chk (tab ms37) m38 = true := by kernel_rfl
set_option maxRecDepth 1000000 in
theorem k39 : chk (tab ms38) m39 = true := by kernel_rfl
end Go.Proofs.YtefmckneohhijaaGreatDoor
