/- Known calls, part 1: the kernel runs them. No condition but that the listed variables are laid. -/
import Derived.Test.YtefmckneohhijaaGreatDoorKnD
namespace Go.Proofs.YtefmckneohhijaaGreatDoor
open Go Go.Ex
set_option maxRecDepth 1000000 in
theorem k6 : chk (tab ms5) m6 = true := by kernel_rfl
set_option maxRecDepth 1000000 in
theorem k7 : chk (tab ms6) m7 = true := by kernel_rfl
set_option maxRecDepth 1000000 in
theorem k8 : chk (tab ms7) m8 = true := by kernel_rfl
set_option maxRecDepth 1000000 in
theorem k9 : chk (tab ms8) m9 = true := by kernel_rfl
set_option maxRecDepth 1000000 in
theorem k10 : chk (tab ms9) m10 = true := by kernel_rfl
set_option maxRecDepth 1000000 in
theorem k11 : chk (tab ms10) m11 = true := by kernel_rfl
end Go.Proofs.YtefmckneohhijaaGreatDoor
