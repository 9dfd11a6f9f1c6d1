/- Known calls of the surface layer, part 15 (1 calls). -/
import Derived.Test.YtfjhmdedhflpbabGreatDoorKn14
namespace Go.Proofs.YtfjhmdedhflpbabGreatDoor
open Go Go.Ex
def m15 : Memo := [(12, [([(.agg [(.int .i64 (.ci 1)), (.int .i64 (.ci 10000000)), (.int .i64 (.ci (-1000000))), (.int .i64 (.ci 0)), (.int .i64 (.ci 0)), (.int .i64 (.ci 0)), (.int .i64 (.ci 0)), (.int .i64 (.ci 0)), (.int .i64 (.ci 0)), (.int .i64 (.ci 0)), (.int .i64 (.ci 0)), (.int .i64 (.ci 0)), (.int .i64 (.ci 5000000)), (.str (.cs [])), (.int .i64 (.ci 0)), (.int .i64 (.ci 0)), (.int .i64 (.ci 0)), (.int .i64 (.ci 0)), (.int .i64 (.ci 0)), (.int .i64 (.ci 0)), (.int .i64 (.ci 0)), .nilslice]), (.agg [(.int .i64 (.ci 42949672960)), (.int .i64 (.ci 42949672960))]), (.agg [(.int .i64 (.ci 85899345920)), (.int .i64 (.ci 85899345920))])], (.tup [(.agg [(.int .i64 (.ci 429496729)), (.int .i64 (.ci 429496730))]), (.agg [(.int .i64 (.ci 858993459)), (.int .i64 (.ci 858993460))]), (.int .i64 (.ci 0))]))])]
set_option maxRecDepth 1000000 in
theorem k15 : chk (tab ms14) m15 = true := by kernel_rfl
def ms15 : Memo := m15 ++ ms14
theorem all15 {w0 : World} {e0 : Env} (hL : Laid w0 e0) : MemoAll w0 ms15 := memo_step hL (all14 hL) k15
end Go.Proofs.YtfjhmdedhflpbabGreatDoor
