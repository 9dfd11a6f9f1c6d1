/- Known calls of the surface layer, part 10 (3 calls). -/
import Derived.Test.YtfjhmdedhflpbabGreatDoorKn9
namespace Go.Proofs.YtfjhmdedhflpbabGreatDoor
open Go Go.Ex
def m10 : Memo := [(19, [([(.agg [(.int .i64 (.ci 1)), (.int .i64 (.ci 0)), (.int .i64 (.ci 0)), (.int .i64 (.ci 0)), (.int .i64 (.ci 0)), (.int .i64 (.ci 0)), (.int .i64 (.ci 0)), (.int .i64 (.ci 0)), (.int .i64 (.ci 0)), (.int .i64 (.ci 0)), (.int .i64 (.ci 0)), (.int .i64 (.ci 0)), (.int .i64 (.ci 0)), (.str (.cs [])), (.int .i64 (.ci 2)), (.int .i64 (.ci 2)), (.int .i64 (.ci 0)), (.int .i64 (.ci 0)), (.int .i64 (.ci 0)), (.int .i64 (.ci 0)), (.int .i64 (.ci 0)), .nilslice])], (.int .i64 (.ci 110))),
  ([(.agg [(.int .i64 (.ci 1)), (.int .i64 (.ci 0)), (.int .i64 (.ci 0)), (.int .i64 (.ci 0)), (.int .i64 (.ci 0)), (.int .i64 (.ci 0)), (.int .i64 (.ci 0)), (.int .i64 (.ci 0)), (.int .i64 (.ci 0)), (.int .i64 (.ci 0)), (.int .i64 (.ci 0)), (.int .i64 (.ci 0)), (.int .i64 (.ci 0)), (.str (.cs [97, 32, 98])), (.int .i64 (.ci 0)), (.int .i64 (.ci 0)), (.int .i64 (.ci 0)), (.int .i64 (.ci 0)), (.int .i64 (.ci 0)), (.int .i64 (.ci 0)), (.int .i64 (.ci 0)), .nilslice])], (.int .i64 (.ci 110)))]),
(70, [([(.agg [(.int .i64 (.ci 4503599627370496)), (.int .i64 (.ci 4503599627370496))])], (.tup [(.agg [(.int .i64 (.ci 0)), (.int .i64 (.ci 0))]), (.int .i64 (.ci 6))]))])]
set_option maxRecDepth 1000000 in
theorem k10 : chk (tab ms9) m10 = true := by kernel_rfl
def ms10 : Memo := m10 ++ ms9
theorem all10 {w0 : World} {e0 : Env} (hL : Laid w0 e0) : MemoAll w0 ms10 := memo_step hL (all9 hL) k10
end Go.Proofs.YtfjhmdedhflpbabGreatDoor
