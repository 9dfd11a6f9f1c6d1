/- Known calls, part 6: the kernel runs them. No condition but that the listed variables are laid. -/
import Derived.Test.YtefmckneohhijaaGreatDoorHKnD
namespace Go.Proofs.YtefmckneohhijaaGreatDoor
open Go Go.Ex
set_option maxRecDepth 1000000 in
theorem k48 : chk (tab ms47) m48 = true := by kernel_rfl
set_option maxRecDepth 1000000 in
theorem k49 : chk (tab ms48) m49 = true := by kernel_rfl
set_option maxRecDepth 1000000 in
theorem k50 : chk (tab ms49) m50 = true := by kernel_rfl
set_option maxRecDepth 1000000 in
theorem k51 : chk (tab ms50) m51 = true := by kernel_rfl
set_option maxRecDepth 1000000 in
theorem k52 : chk (tab ms51) m52 = true := by kernel_rfl
set_option maxRecDepth 1000000 in
theorem k53 : chk (tab ms52) m53 = true := by kernel_rfl
set_option maxRecDepth 1000000 in
theorem k54 : chk (tab ms53) m54 = true := by kernel_rfl
set_option maxRecDepth 1000000 in
theorem k55 : chk (tab ms54) m55 = true := by kernel_rfl
end Go.Proofs.YtefmckneohhijaaGreatDoor
