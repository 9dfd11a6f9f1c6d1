/- Known calls, part 10: the kernel runs them. No condition but that the listed variables are laid. -/
import Derived.Test.YtefmckneohhijaaGreatDoorHKnD
namespace Go.Proofs.YtefmckneohhijaaGreatDoor
open Go Go.Ex
set_option maxRecDepth 1000000 in
theorem k80 : chk (tab ms79) m80 = true := by kernel_rfl
set_option maxRecDepth 1000000 in
theorem k81 : chk (tab ms80) m81 = true := by kernel_rfl
set_option maxRecDepth 1000000 in
theorem k82 : chk (tab ms81) m82 = true := by kernel_rfl
set_option maxRecDepth 1000000 in
theorem k83 : chk (tab ms82) m83 = true := by kernel_rfl
set_option maxRecDepth 1000000 in
theorem k84 : chk (tab ms83) m84 = true := by kernel_rfl
set_option maxRecDepth 1000000 in
theorem k85 : chk (tab ms84) m85 = true := by kernel_rfl
set_option maxRecDepth 1000000 in
theorem k86 : chk (tab ms85) m86 = true := by kernel_rfl
set_option maxRecDepth 1000000 in
theorem k87 : chk (tab ms86) m87 = true := by kernel_rfl
end Go.Proofs.YtefmckneohhijaaGreatDoor
