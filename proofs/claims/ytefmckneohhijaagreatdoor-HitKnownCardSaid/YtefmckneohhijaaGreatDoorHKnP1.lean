/- Known calls, part 1: the kernel runs them. No condition but that the listed variables are laid. -/
import Derived.Test.YtefmckneohhijaaGreatDoorHKnD
namespace Go.Proofs.YtefmckneohhijaaGreatDoor
open Go Go.Ex
set_option maxRecDepth 1000000 in
theorem k8 : chk (tab ms7) m8 = true := by kernel_rfl
set_option maxRecDepth 1000000 in
theorem k9 : chk (tab ms8) m9 = true := by kernel_rfl
set_option maxRecDepth 1000000 in
theorem k10 : chk (tab ms9) m10 = true := by kernel_rfl
set_option maxRecDepth 1000000 in
theorem k11 : chk (tab ms10) m11 = true := by kernel_rfl
set_option maxRecDepth 1000000 in
theorem k12 : chk (tab ms11) m12 = true := by kernel_rfl
set_option maxRecDepth 1000000 in
theorem k13 : chk (tab ms12) m13 = true := by kernel_rfl
set_option maxRecDepth 1000000 in
theorem k14 : chk (tab ms13) m14 = true := by kernel_rfl
set_option maxRecDepth 1000000 in
theorem k15 : chk (tab ms14) m15 = true := by kernel_rfl
end Go.Proofs.YtefmckneohhijaaGreatDoor
