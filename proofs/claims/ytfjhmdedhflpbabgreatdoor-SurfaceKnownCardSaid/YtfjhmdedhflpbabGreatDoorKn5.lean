/- Known calls of the surface layer, part 5 (8 calls). -/
import Derived.Test.YtfjhmdedhflpbabGreatDoorKn4
namespace Go.Proofs.YtfjhmdedhflpbabGreatDoor
open Go Go.Ex
def m5 : Memo := [(88, [([(.int .i64 (.ci 4294967296)), (.bool (.cb true))], (.tup [(.int .i64 (.ci 4294967296)), (.int .i64 (.ci 0))]))]),
(86, [([(.int .i64 (.ci 0)), (.int .i64 (.ci 8589934592)), (.bool (.cb false))], (.tup [(.int .i64 (.ci 0)), (.int .i64 (.ci 0))])),
  ([(.int .i64 (.ci 0)), (.int .i64 (.ci 8589934592)), (.bool (.cb true))], (.tup [(.int .i64 (.ci 0)), (.int .i64 (.ci 0))]))]),
(19, [([(.agg [(.int .i64 (.ci 1)), (.int .i64 (.ci 10000000)), (.int .i64 (.ci (-1000000))), (.int .i64 (.ci 0)), (.int .i64 (.ci 0)), (.int .i64 (.ci 0)), (.int .i64 (.ci 0)), (.int .i64 (.ci 0)), (.int .i64 (.ci 0)), (.int .i64 (.ci 0)), (.int .i64 (.ci 0)), (.int .i64 (.ci 0)), (.int .i64 (.ci 5000000)), (.str (.cs [])), (.int .i64 (.ci 0)), (.int .i64 (.ci 0)), (.int .i64 (.ci 0)), (.int .i64 (.ci 0)), (.int .i64 (.ci 0)), (.int .i64 (.ci 0)), (.int .i64 (.ci 0)), .nilslice])], (.int .i64 (.ci 0)))]),
(70, [([(.agg [(.int .i64 (.ci 42949672960)), (.int .i64 (.ci 42949672960))])], (.tup [(.agg [(.int .i64 (.ci 429496729600)), (.int .i64 (.ci 429496729600))]), (.int .i64 (.ci 0))]))]),
(101, [([(.int .i64 (.ci 429496729600)), (.int .i64 (.ci 10000000)), (.int .i64 (.ci 1000000000)), (.bool (.cb false))], (.tup [(.int .i64 (.ci 4294967296)), (.int .i64 (.ci 0))])),
  ([(.int .i64 (.ci 429496729600)), (.int .i64 (.ci 10000000)), (.int .i64 (.ci 1000000000)), (.bool (.cb true))], (.tup [(.int .i64 (.ci 4294967296)), (.int .i64 (.ci 0))])),
  ([(.int .i64 (.ci 4294967296)), (.int .i64 (.ci 10000000)), (.int .i64 (.ci 1000000000)), (.bool (.cb false))], (.tup [(.int .i64 (.ci 42949672)), (.int .i64 (.ci 0))]))])]
set_option maxRecDepth 1000000 in
theorem k5 : chk (tab ms4) m5 = true := by kernel_rfl
def ms5 : Memo := m5 ++ ms4
theorem all5 {w0 : World} {e0 : Env} (hL : Laid w0 e0) : MemoAll w0 ms5 := memo_step hL (all4 hL) k5
end Go.Proofs.YtfjhmdedhflpbabGreatDoor
