/- Known calls of the surface layer, part 16 (1 calls). -/
import Derived.Test.YtfjhmdedhflpbabGreatDoorKn15
namespace Go.Proofs.YtfjhmdedhflpbabGreatDoor
open Go Go.Ex
def m16 : Memo := [(8, [([], (.bool (.cb true)))])]
set_option maxRecDepth 1000000 in
theorem k16 : chk (tab ms15) m16 = true := by kernel_rfl
def ms16 : Memo := m16 ++ ms15
theorem all16 {w0 : World} {e0 : Env} (hL : Laid w0 e0) : MemoAll w0 ms16 := memo_step hL (all15 hL) k16
end Go.Proofs.YtfjhmdedhflpbabGreatDoor
