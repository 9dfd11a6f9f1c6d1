/- Known calls, part 12: the kernel runs them. No condition but that the listed variables are laid. -/
import Derived.Test.YtefmckneohhijaaGreatDoorHKnD
namespace Go.Proofs.YtefmckneohhijaaGreatDoor
open Go Go.Ex
set_option maxRecDepth 1000000 in
theorem k96 : chk (tab ms95) m96 = true := by kernel_rfl
set_option maxRecDepth 1000000 in
theorem k97 : chk (tab ms96) m97 = true := by kernel_rfl
set_option maxRecDepth 1000000 in
theorem k98 : chk (tab ms97) m98 = true := by kernel_rfl
end Go.Proofs.YtefmckneohhijaaGreatDoor
