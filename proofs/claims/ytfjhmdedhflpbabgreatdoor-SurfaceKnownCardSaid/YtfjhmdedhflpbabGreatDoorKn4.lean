/- Known calls of the surface layer, part 4 (7 calls). -/
import Derived.Test.YtfjhmdedhflpbabGreatDoorKn3
namespace Go.Proofs.YtfjhmdedhflpbabGreatDoor
open Go Go.Ex
def m4 : Memo := [(19, [([(.agg [(.int .i64 (.ci 1)), (.int .i64 (.ci 10000000)), (.int .i64 (.ci 0)), (.int .i64 (.ci 0)), (.int .i64 (.ci 0)), (.int .i64 (.ci 0)), (.int .i64 (.ci 0)), (.int .i64 (.ci 0)), (.int .i64 (.ci 0)), (.int .i64 (.ci 0)), (.int .i64 (.ci 0)), (.int .i64 (.ci 0)), (.int .i64 (.ci 5000000)), (.str (.cs [])), (.int .i64 (.ci 0)), (.int .i64 (.ci 0)), (.int .i64 (.ci 0)), (.int .i64 (.ci 0)), (.int .i64 (.ci 0)), (.int .i64 (.ci 0)), (.int .i64 (.ci 0)), .nilslice])], (.int .i64 (.ci 0)))]),
(70, [([(.agg [(.int .i64 (.ci 0)), (.int .i64 (.ci 0))])], (.tup [(.agg [(.int .i64 (.ci 0)), (.int .i64 (.ci 0))]), (.int .i64 (.ci 0))]))]),
(101, [([(.int .i64 (.ci 0)), (.int .i64 (.ci 10000000)), (.int .i64 (.ci 1000000000)), (.bool (.cb false))], (.tup [(.int .i64 (.ci 0)), (.int .i64 (.ci 0))])),
  ([(.int .i64 (.ci 0)), (.int .i64 (.ci 10000000)), (.int .i64 (.ci 1000000000)), (.bool (.cb true))], (.tup [(.int .i64 (.ci 0)), (.int .i64 (.ci 0))])),
  ([(.int .i64 (.ci 0)), (.int .i64 (.ci 1000000)), (.int .i64 (.ci 1000000)), (.bool (.cb false))], (.tup [(.int .i64 (.ci 0)), (.int .i64 (.ci 0))])),
  ([(.int .i64 (.ci 0)), (.int .i64 (.ci 1000000)), (.int .i64 (.ci 1000000)), (.bool (.cb true))], (.tup [(.int .i64 (.ci 0)), (.int .i64 (.ci 0))]))]),
(88, [([(.int .i64 (.ci 4294967296)), (.bool (.cb false))], (.tup [(.int .i64 (.ci 4294967296)), (.int .i64 (.ci 0))]))])]
set_option maxRecDepth 1000000 in
theorem k4 : chk (tab ms3) m4 = true := by kernel_rfl
def ms4 : Memo := m4 ++ ms3
theorem all4 {w0 : World} {e0 : Env} (hL : Laid w0 e0) : MemoAll w0 ms4 := memo_step hL (all3 hL) k4
end Go.Proofs.YtfjhmdedhflpbabGreatDoor
