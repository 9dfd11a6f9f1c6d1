/- Known calls, part 13: the kernel runs them. No condition but that the listed variables are laid. -/
import Derived.Test.YtefmckneohhijaaGreatDoorKnD
namespace Go.Proofs.YtefmckneohhijaaGreatDoor
open Go Go.Ex
set_option maxRecDepth 1000000 in
theorem k78 : chk (tab ms77) m78 = true := by kernel_rfl
set_option maxRecDepth 1000000 in
theorem k79 : chk (tab ms78) m79 = true := by kernel_rfl
set_option maxRecDepth 1000000 in
theorem k80 : chk (tab ms79) m80 = true := by kernel_rfl
set_option maxRecDepth 1000000 in
theorem k81 : chk (tab ms80) m81 = true := by kernel_rfl
end Go.Proofs.YtefmckneohhijaaGreatDoor
