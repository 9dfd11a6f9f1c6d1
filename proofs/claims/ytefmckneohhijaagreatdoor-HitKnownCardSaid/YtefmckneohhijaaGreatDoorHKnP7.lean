/- Known calls, part 7: the kernel runs them. No condition but that the listed variables are laid. -/
import Derived.Test.YtefmckneohhijaaGreatDoorHKnD
namespace Go.Proofs.YtefmckneohhijaaGreatDoor
open Go Go.Ex
set_option maxRecDepth 1000000 in
theorem k56 : chk (tab ms55) m56 = true := by kernel_rfl
set_option maxRecDepth 1000000 in
theorem k57 : chk (tab ms56) m57 = true := by kernel_rfl
set_option maxRecDepth 1000000 in
theorem k58 : chk (tab ms57) m58 = true := by kernel_rfl
set_option maxRecDepth 1000000 in
theorem k59 : chk (tab ms58) m59 = true := by kernel_rfl
set_option maxRecDepth 1000000 in
theorem k60 : chk (tab ms59) m60 = true := by kernel_rfl
set_option maxRecDepth 1000000 in
theorem k61 : chk (tab ms60) m61 = true := by kernel_rfl
set_option maxRecDepth 1000000 in
theorem k62 : chk (tab ms61) m62 = true := by kernel_rfl
set_option maxRecDepth 1000000 in
theorem k63 : chk (tab ms62) m63 = true := by kernel_rfl
end Go.Proofs.YtefmckneohhijaaGreatDoor
