/- The closed facts of HitKnown's row, each by the kernel. No condition. -/
import Derived.Test.YtefmckneohhijaaGreatDoorRows
import Derived.JoinedOf
import Derived.KernelRfl
namespace Go.Proofs.YtefmckneohhijaaGreatDoor
open Go
set_option maxRecDepth 100000
set_option maxHeartbeats 4000000
theorem and_intro {a b : Bool} (ha : a = true) (hb : b = true) : (a && b) = true := by rw [ha, hb]; rfl
theorem closed_facts : joinedFacts Tryz.prog 4 Tryz.f4 Rows.hitKnownSpec Rows.hitKnownRow = true := by
  unfold joinedFacts
  repeat' refine and_intro ?_ ?_
  all_goals as_aux_lemma => kernel_rfl
end Go.Proofs.YtefmckneohhijaaGreatDoor
