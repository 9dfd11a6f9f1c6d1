/- Known calls, part 2: the kernel runs them. No condition but that the listed variables are laid. -/
import Derived.Test.YtefmckneohhijaaGreatDoorKnD
namespace Go.Proofs.YtefmckneohhijaaGreatDoor
open Go Go.Ex
set_option maxRecDepth 1000000 in
theorem k12 : chk (tab ms11) m12 = true := by kernel_rfl
set_option maxRecDepth 1000000 in
theorem k13 : chk (tab ms12) m13 = true := by kernel_rfl
set_option maxRecDepth 1000000 in
theorem k14 : chk (tab ms13) m14 = true := by kernel_rfl
set_option maxRecDepth 1000000 in
theorem k15 : chk (tab ms14) m15 = true := by kernel_rfl
set_option maxRecDepth 1000000 in
theorem k16 : chk (tab ms15) m16 = true := by kernel_rfl
set_option maxRecDepth 1000000 in
theorem k17 : chk (tab ms16) m17 = true := by kernel_rfl
end Go.Proofs.YtefmckneohhijaaGreatDoor
