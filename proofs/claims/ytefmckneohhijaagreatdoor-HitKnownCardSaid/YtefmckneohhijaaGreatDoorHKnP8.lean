/- Known calls, part 8: the kernel runs them. No condition but that the listed variables are laid. -/
import Derived.Test.YtefmckneohhijaaGreatDoorHKnD
namespace Go.Proofs.YtefmckneohhijaaGreatDoor
open Go Go.Ex
set_option maxRecDepth 1000000 in
theorem k64 : chk (tab ms63) m64 = true := by kernel_rfl
set_option maxRecDepth 1000000 in
theorem k65 : chk (tab ms64) m65 = true := by kernel_rfl
set_option maxRecDepth 1000000 in
theorem k66 : chk (tab ms65) m66 = true := by kernel_rfl
set_option maxRecDepth 1000000 in
theorem k67 : chk (tab ms66) m67 = true := by kernel_rfl
set_option maxRecDepth 1000000 in
theorem k68 : chk (tab ms67) m68 = true := by kernel_rfl
set_option maxRecDepth 1000000 in
theorem k69 : chk (tab ms68) m69 = true := by kernel_rfl
set_option maxRecDepth 1000000 in
theorem k70 : chk (tab ms69) m70 = true := by kernel_rfl
set_option maxRecDepth 1000000 in
theorem k71 : chk (tab ms70) m71 = true := by kernel_rfl
end Go.Proofs.YtefmckneohhijaaGreatDoor
