/- Known calls, part 0: the kernel runs them. No condition but that the listed variables are laid. -/
import Derived.Test.YtefmckneohhijaaGreatDoorHKnD
namespace Go.Proofs.YtefmckneohhijaaGreatDoor
open Go Go.Ex
set_option maxRecDepth 1000000 in
theorem k0 : chk (tab []) m0 = true := by kernel_rfl
set_option maxRecDepth 1000000 in
theorem k1 : chk (tab ms0) m1 = true := by kernel_rfl
set_option maxRecDepth 1000000 in
theorem k2 : chk (tab ms1) m2 = true := by kernel_rfl
set_option maxRecDepth 1000000 in
theorem k3 : chk (tab ms2) m3 = true := by kernel_rfl
set_option maxRecDepth 1000000 in
theorem k4 : chk (tab ms3) m4 = true := by kernel_rfl
set_option maxRecDepth 1000000 in
theorem k5 : chk (tab ms4) m5 = true := by kernel_rfl
set_option maxRecDepth 1000000 in
theorem k6 : chk (tab ms5) m6 = true := by kernel_rfl
set_option maxRecDepth 1000000 in
theorem k7 : chk (tab ms6) m7 = true := by kernel_rfl
end Go.Proofs.YtefmckneohhijaaGreatDoor
