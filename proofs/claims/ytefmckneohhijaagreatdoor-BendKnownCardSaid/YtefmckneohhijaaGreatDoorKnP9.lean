/- Known calls, part 9: the kernel runs them. No condition but that the listed variables are laid. -/
import Derived.Test.YtefmckneohhijaaGreatDoorKnD
namespace Go.Proofs.YtefmckneohhijaaGreatDoor
open Go Go.Ex
set_option maxRecDepth 1000000 in
theorem k54 : chk (tab ms53) m54 = true := by kernel_rfl
set_option maxRecDepth 1000000 in
theorem k55 : chk (tab ms54) m55 = true := by kernel_rfl
set_option maxRecDepth 1000000 in
theorem k56 : chk (tab ms55) m56 = true := by kernel_rfl
set_option maxRecDepth 1000000 in
theorem k57 : chk (tab ms56) m57 = true := by kernel_rfl
set_option maxRecDepth 1000000 in
theorem k58 : chk (tab ms57) m58 = true := by kernel_rfl
set_option maxRecDepth 1000000 in
theorem k59 : chk (tab ms58) m59 = true := by kernel_rfl
end Go.Proofs.YtefmckneohhijaaGreatDoor
