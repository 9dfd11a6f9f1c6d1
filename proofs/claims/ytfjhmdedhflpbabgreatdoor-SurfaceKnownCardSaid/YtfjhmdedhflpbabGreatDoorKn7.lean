/- Known calls of the surface layer, part 7 (6 calls). -/
import Derived.Test.YtfjhmdedhflpbabGreatDoorKn6
namespace Go.Proofs.YtfjhmdedhflpbabGreatDoor
open Go Go.Ex
def m7 : Memo := [(86, [([(.int .i64 (.ci 858993460)), (.int .i64 (.ci 4294967296)), (.bool (.cb false))], (.tup [(.int .i64 (.ci 858993460)), (.int .i64 (.ci 0))])),
  ([(.int .i64 (.ci 858993460)), (.int .i64 (.ci 4294967296)), (.bool (.cb true))], (.tup [(.int .i64 (.ci 858993460)), (.int .i64 (.ci 0))]))]),
(19, [([(.agg [(.int .i64 (.ci 1)), (.int .i64 (.ci 10000000)), (.int .i64 (.ci 0)), (.int .i64 (.ci 0)), (.int .i64 (.ci 0)), (.int .i64 (.ci 0)), (.int .i64 (.ci 0)), (.int .i64 (.ci 0)), (.int .i64 (.ci 0)), (.int .i64 (.ci 0)), (.int .i64 (.ci 0)), (.int .i64 (.ci 0)), (.int .i64 (.ci 1000000001)), (.str (.cs [])), (.int .i64 (.ci 0)), (.int .i64 (.ci 0)), (.int .i64 (.ci 0)), (.int .i64 (.ci 0)), (.int .i64 (.ci 0)), (.int .i64 (.ci 0)), (.int .i64 (.ci 0)), .nilslice])], (.int .i64 (.ci 110))),
  ([(.agg [(.int .i64 (.ci 3)), (.int .i64 (.ci 0)), (.int .i64 (.ci 0)), (.int .i64 (.ci 0)), (.int .i64 (.ci 0)), (.int .i64 (.ci 0)), (.int .i64 (.ci 0)), (.int .i64 (.ci 0)), (.int .i64 (.ci 0)), (.int .i64 (.ci 0)), (.int .i64 (.ci 0)), (.int .i64 (.ci 0)), (.int .i64 (.ci 0)), (.str (.cs [])), (.int .i64 (.ci 0)), (.int .i64 (.ci 0)), (.int .i64 (.ci 0)), (.int .i64 (.ci 0)), (.int .i64 (.ci 90000000)), (.int .i64 (.ci 0)), (.int .i64 (.ci 0)), .nilslice])], (.int .i64 (.ci 0))),
  ([(.agg [(.int .i64 (.ci 4)), (.int .i64 (.ci (-1000000000))), (.int .i64 (.ci 0)), (.int .i64 (.ci 0)), (.int .i64 (.ci 0)), (.int .i64 (.ci 0)), (.int .i64 (.ci 0)), (.int .i64 (.ci 0)), (.int .i64 (.ci 0)), (.int .i64 (.ci 0)), (.int .i64 (.ci 0)), (.int .i64 (.ci 0)), (.int .i64 (.ci 0)), (.str (.cs [])), (.int .i64 (.ci 0)), (.int .i64 (.ci 0)), (.int .i64 (.ci 0)), (.int .i64 (.ci 0)), (.int .i64 (.ci 0)), (.int .i64 (.ci 0)), (.int .i64 (.ci 0)), .nilslice])], (.int .i64 (.ci 0))),
  ([(.agg [(.int .i64 (.ci 1)), (.int .i64 (.ci 0)), (.int .i64 (.ci 0)), (.int .i64 (.ci 0)), (.int .i64 (.ci 0)), (.int .i64 (.ci 0)), (.int .i64 (.ci 0)), (.int .i64 (.ci 0)), (.int .i64 (.ci 0)), (.int .i64 (.ci 1)), (.int .i64 (.ci (-1))), (.int .i64 (.ci 3)), (.int .i64 (.ci 0)), (.str (.cs [])), (.int .i64 (.ci 0)), (.int .i64 (.ci 0)), (.int .i64 (.ci 0)), (.int .i64 (.ci 0)), (.int .i64 (.ci 0)), (.int .i64 (.ci 0)), (.int .i64 (.ci 0)), .nilslice])], (.int .i64 (.ci 0)))])]
set_option maxRecDepth 1000000 in
theorem k7 : chk (tab ms6) m7 = true := by kernel_rfl
def ms7 : Memo := m7 ++ ms6
theorem all7 {w0 : World} {e0 : Env} (hL : Laid w0 e0) : MemoAll w0 ms7 := memo_step hL (all6 hL) k7
end Go.Proofs.YtfjhmdedhflpbabGreatDoor
