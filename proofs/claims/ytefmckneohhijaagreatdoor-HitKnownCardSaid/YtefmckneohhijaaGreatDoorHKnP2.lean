/- Known calls, part 2: the kernel runs them. No condition but that the listed variables are laid. -/
import Derived.Test.YtefmckneohhijaaGreatDoorHKnD
namespace Go.Proofs.YtefmckneohhijaaGreatDoor
open Go Go.Ex
set_option maxRecDepth 1000000 in
theorem k16 : chk (tab ms15) m16 = true := by kernel_rfl
set_option maxRecDepth 1000000 in
theorem k17 : chk (tab ms16) m17 = true := by kernel_rfl
set_option maxRecDepth 1000000 in
theorem k18 : chk (tab ms17) m18 = true := by kernel_rfl
set_option maxRecDepth 1000000 in
theorem k19 : chk (tab ms18) m19 = true := by kernel_rfl
set_option maxRecDepth 1000000 in
theorem k20 : chk (tab ms19) m20 = true := by kernel_rfl
set_option maxRecDepth 1000000 in
theorem k21 : chk (tab ms20) m21 = true := by kernel_rfl
set_option maxRecDepth 1000000 in
theorem k22 : chk (tab ms21) m22 = true := by kernel_rfl
set_option maxRecDepth 1000000 in
theorem k23 : chk (tab ms22) m23 = true := by kernel_rfl
end Go.Proofs.YtefmckneohhijaaGreatDoor
