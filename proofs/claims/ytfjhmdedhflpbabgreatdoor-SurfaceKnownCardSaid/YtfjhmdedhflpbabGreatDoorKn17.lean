/- Known calls of the surface layer, part 17 (1 calls). -/
import Derived.Test.YtfjhmdedhflpbabGreatDoorKn16
namespace Go.Proofs.YtfjhmdedhflpbabGreatDoor
open Go Go.Ex
def m17 : Memo := [(7, [([], (.bool (.cb true)))])]
set_option maxRecDepth 1000000 in
theorem k17 : chk (tab ms16) m17 = true := by kernel_rfl
def ms17 : Memo := m17 ++ ms16
theorem all17 {w0 : World} {e0 : Env} (hL : Laid w0 e0) : MemoAll w0 ms17 := memo_step hL (all16 hL) k17
end Go.Proofs.YtfjhmdedhflpbabGreatDoor
