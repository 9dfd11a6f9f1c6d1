/- Known calls, part 6: the kernel runs them. No condition but that the listed variables are laid. -/
import Derived.Test.YtefmckneohhijaaGreatDoorKnD
namespace Go.Proofs.YtefmckneohhijaaGreatDoor
open Go Go.Ex
set_option maxRecDepth 1000000 in
theorem k36 : chk (tab ms35) m36 = true := by kernel_rfl
set_option maxRecDepth 1000000 in
theorem k37 : chk (tab ms36) m37 = true := by kernel_rfl
set_option maxRecDepth 1000000 in
theorem k38 : chk (tab ms37) m38 = true := by kernel_rfl
set_option maxRecDepth 1000000 in
theorem k39 : chk (tab ms38) m39 = true := by kernel_rfl
set_option maxRecDepth 1000000 in
theorem k40 : chk (tab ms39) m40 = true := by kernel_rfl
set_option maxRecDepth 1000000 in
theorem k41 : chk (tab ms40) m41 = true := by kernel_rfl
end Go.Proofs.YtefmckneohhijaaGreatDoor
