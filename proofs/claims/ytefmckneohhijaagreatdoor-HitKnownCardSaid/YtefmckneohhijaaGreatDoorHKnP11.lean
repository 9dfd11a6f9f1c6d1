/- Known calls, part 11: the kernel runs them. No condition but that the listed variables are laid. -/
import Derived.Test.YtefmckneohhijaaGreatDoorHKnD
namespace Go.Proofs.YtefmckneohhijaaGreatDoor
open Go Go.Ex
set_option maxRecDepth 1000000 in
theorem k88 : chk (tab ms87) m88 = true := by kernel_rfl
set_option maxRecDepth 1000000 in
theorem k89 : chk (tab ms88) m89 = true := by kernel_rfl
set_option maxRecDepth 1000000 in
theorem k90 : chk (tab ms89) m90 = true := by kernel_rfl
set_option maxRecDepth 1000000 in
theorem k91 : chk (tab ms90) m91 = true := by kernel_rfl
set_option maxRecDepth 1000000 in
theorem k92 : chk (tab ms91) m92 = true := by kernel_rfl
set_option maxRecDepth 1000000 in
theorem k93 : chk (tab ms92) m93 = true := by kernel_rfl
set_option maxRecDepth 1000000 in
theorem k94 : chk (tab ms93) m94 = true := by kernel_rfl
set_option maxRecDepth 1000000 in
theorem k95 : chk (tab ms94) m95 = true := by kernel_rfl
end Go.Proofs.YtefmckneohhijaaGreatDoor
