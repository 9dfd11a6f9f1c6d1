/- Known calls, part 3: the kernel runs them. No condition but that the listed variables are laid. -/
import Derived.Test.YtefmckneohhijaaGreatDoorHKnD
namespace Go.Proofs.YtefmckneohhijaaGreatDoor
open Go Go.Ex
set_option maxRecDepth 1000000 in
theorem k24 : chk (tab ms23) m24 = true := by kernel_rfl
set_option maxRecDepth 1000000 in
theorem k25 : chk (tab ms24) m25 = true := by kernel_rfl
set_option maxRecDepth 1000000 in
theorem k26 : chk (tab ms25) m26 = true := by kernel_rfl
set_option maxRecDepth 1000000 in
theorem k27 : chk (tab ms26) m27 = true := by kernel_rfl
set_option maxRecDepth 1000000 in
theorem k28 : chk (tab ms27) m28 = true := by kernel_rfl
set_option maxRecDepth 1000000 in
theorem k29 : chk (tab ms28) m29 = true := by kernel_rfl
set_option maxRecDepth 1000000 in
theorem k30 : chk (tab ms29) m30 = true := by kernel_rfl
set_option maxRecDepth 1000000 in
theorem k31 : chk (tab ms30) m31 = true := by kernel_rfl
end Go.Proofs.YtefmckneohhijaaGreatDoor
