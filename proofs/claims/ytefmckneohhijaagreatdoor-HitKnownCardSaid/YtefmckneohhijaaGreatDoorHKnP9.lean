/- Known calls, part 9: the kernel runs them. No condition but that the listed variables are laid. -/
import Derived.Test.YtefmckneohhijaaGreatDoorHKnD
namespace Go.Proofs.YtefmckneohhijaaGreatDoor
open Go Go.Ex
set_option maxRecDepth 1000000 in
theorem k72 : chk (tab ms71) m72 = true := by kernel_rfl
set_option maxRecDepth 1000000 in
theorem k73 : chk (tab ms72) m73 = true := by kernel_rfl
set_option maxRecDepth 1000000 in
theorem k74 : chk (tab ms73) m74 = true := by kernel_rfl
set_option maxRecDepth 1000000 in
theorem k75 : chk (tab ms74) m75 = true := by kernel_rfl
set_option maxRecDepth 1000000 in
theorem k76 : chk (tab ms75) m76 = true := by kernel_rfl
set_option maxRecDepth 1000000 in
theorem k77 : chk (tab ms76) m77 = true := by kernel_rfl
set_option maxRecDepth 1000000 in
theorem k78 : chk (tab ms77) m78 = true := by kernel_rfl
set_option maxRecDepth 1000000 in
theorem k79 : chk (tab ms78) m79 = true := by kernel_rfl
end Go.Proofs.YtefmckneohhijaaGreatDoor
