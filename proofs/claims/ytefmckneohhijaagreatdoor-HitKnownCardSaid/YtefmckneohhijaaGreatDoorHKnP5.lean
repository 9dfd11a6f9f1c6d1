/- Known calls, part 5: the kernel runs them. No condition but that the listed variables are laid. -/
import Derived.Test.YtefmckneohhijaaGreatDoorHKnD
namespace Go.Proofs.YtefmckneohhijaaGreatDoor
open Go Go.Ex
set_option maxRecDepth 1000000 in
theorem k40 : chk (tab ms39) m40 = true := by kernel_rfl
set_option maxRecDepth 1000000 in
theorem k41 : chk (tab ms40) m41 = true := by kernel_rfl
set_option maxRecDepth 1000000 in
theorem k42 : chk (tab ms41) m42 = true := by kernel_rfl
set_option maxRecDepth 1000000 in
theorem k43 : chk (tab ms42) m43 = true := by kernel_rfl
set_option maxRecDepth 1000000 in
theorem k44 : chk (tab ms43) m44 = true := by kernel_rfl
set_option maxRecDepth 1000000 in
theorem k45 : chk (tab ms44) m45 = true := by kernel_rfl
set_option maxRecDepth 1000000 in
theorem k46 : chk (tab ms45) m46 = true := by kernel_rfl
set_option maxRecDepth 1000000 in
theorem k47 : chk (tab ms46) m47 = true := by kernel_rfl
end Go.Proofs.YtefmckneohhijaaGreatDoor
