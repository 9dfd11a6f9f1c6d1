/- Known calls of the surface layer, part 11 (18 calls). -/
import Derived.Test.YtfjhmdedhflpbabGreatDoorKn10
namespace Go.Proofs.YtfjhmdedhflpbabGreatDoor
open Go Go.Ex
def m11 : Memo := [(71, [([(.agg [(.int .i64 (.ci 0)), (.int .i64 (.ci 0))]), (.int .i64 (.ci 10000000)), (.int .i64 (.ci 1000000000))], (.tup [(.agg [(.int .i64 (.ci 0)), (.int .i64 (.ci 0))]), (.int .i64 (.ci 0))])),
  ([(.agg [(.int .i64 (.ci 0)), (.int .i64 (.ci 0))]), (.int .i64 (.ci 1000000)), (.int .i64 (.ci 1000000))], (.tup [(.agg [(.int .i64 (.ci 0)), (.int .i64 (.ci 0))]), (.int .i64 (.ci 0))])),
  ([(.agg [(.int .i64 (.ci 429496729600)), (.int .i64 (.ci 429496729600))]), (.int .i64 (.ci 10000000)), (.int .i64 (.ci 1000000000))], (.tup [(.agg [(.int .i64 (.ci 4294967296)), (.int .i64 (.ci 4294967296))]), (.int .i64 (.ci 0))])),
  ([(.agg [(.int .i64 (.ci 4294967296)), (.int .i64 (.ci 4294967296))]), (.int .i64 (.ci 10000000)), (.int .i64 (.ci 1000000000))], (.tup [(.agg [(.int .i64 (.ci 42949672)), (.int .i64 (.ci 42949673))]), (.int .i64 (.ci 0))])),
  ([(.agg [(.int .i64 (.ci 42949672)), (.int .i64 (.ci 42949673))]), (.int .i64 (.ci 0)), (.int .i64 (.ci 1000000))], (.tup [(.agg [(.int .i64 (.ci 0)), (.int .i64 (.ci 0))]), (.int .i64 (.ci 0))])),
  ([(.agg [(.int .i64 (.ci 43812961386496)), (.int .i64 (.ci 43812961386496))]), (.int .i64 (.ci 10000000)), (.int .i64 (.ci 1000000000))], (.tup [(.agg [(.int .i64 (.ci 438129613864)), (.int .i64 (.ci 438129613865))]), (.int .i64 (.ci 0))])),
  ([(.agg [(.int .i64 (.ci 438129613864)), (.int .i64 (.ci 438129613865))]), (.int .i64 (.ci 10000000)), (.int .i64 (.ci 1000000000))], (.tup [(.agg [(.int .i64 (.ci 4381296138)), (.int .i64 (.ci 4381296139))]), (.int .i64 (.ci 0))])),
  ([(.agg [(.int .i64 (.ci 4381296138)), (.int .i64 (.ci 4381296139))]), (.int .i64 (.ci 1000000)), (.int .i64 (.ci 1000000))], (.tup [(.agg [(.int .i64 (.ci 4381296138)), (.int .i64 (.ci 4381296139))]), (.int .i64 (.ci 0))])),
  ([(.agg [(.int .i64 (.ci 2147483648000)), (.int .i64 (.ci 2147483648000))]), (.int .i64 (.ci 10000000)), (.int .i64 (.ci 1000000000))], (.tup [(.agg [(.int .i64 (.ci 21474836480)), (.int .i64 (.ci 21474836480))]), (.int .i64 (.ci 0))])),
  ([(.agg [(.int .i64 (.ci 21474836480)), (.int .i64 (.ci 21474836480))]), (.int .i64 (.ci 10000000)), (.int .i64 (.ci 1000000000))], (.tup [(.agg [(.int .i64 (.ci 214748364)), (.int .i64 (.ci 214748365))]), (.int .i64 (.ci 0))])),
  ([(.agg [(.int .i64 (.ci 214748364)), (.int .i64 (.ci 214748365))]), (.int .i64 (.ci 0)), (.int .i64 (.ci 1000000))], (.tup [(.agg [(.int .i64 (.ci 0)), (.int .i64 (.ci 0))]), (.int .i64 (.ci 0))])),
  ([(.agg [(.int .i64 (.ci 42949672960)), (.int .i64 (.ci 42949672960))]), (.int .i64 (.ci 10000000)), (.int .i64 (.ci 1000000000))], (.tup [(.agg [(.int .i64 (.ci 429496729)), (.int .i64 (.ci 429496730))]), (.int .i64 (.ci 0))])),
  ([(.agg [(.int .i64 (.ci 85899345920)), (.int .i64 (.ci 85899345920))]), (.int .i64 (.ci 10000000)), (.int .i64 (.ci 1000000000))], (.tup [(.agg [(.int .i64 (.ci 858993459)), (.int .i64 (.ci 858993460))]), (.int .i64 (.ci 0))]))]),
(63, [([(.agg [(.int .i64 (.ci 4294967296)), (.int .i64 (.ci 4294967296))])], (.tup [(.agg [(.int .i64 (.ci 4294967296)), (.int .i64 (.ci 4294967296))]), (.int .i64 (.ci 0))]))]),
(55, [([(.agg [(.int .i64 (.ci 0)), (.int .i64 (.ci 0))]), (.agg [(.int .i64 (.ci 8589934592)), (.int .i64 (.ci 8589934592))])], (.tup [(.agg [(.int .i64 (.ci 0)), (.int .i64 (.ci 0))]), (.int .i64 (.ci 0))])),
  ([(.agg [(.int .i64 (.ci 4294967296)), (.int .i64 (.ci 4294967296))]), (.agg [(.int .i64 (.ci 8589934592)), (.int .i64 (.ci 8589934592))])], (.tup [(.agg [(.int .i64 (.ci 2147483648)), (.int .i64 (.ci 2147483648))]), (.int .i64 (.ci 0))])),
  ([(.agg [(.int .i64 (.ci 21474836480)), (.int .i64 (.ci 21474836480))]), (.agg [(.int .i64 (.ci 8589934592)), (.int .i64 (.ci 8589934592))])], (.tup [(.agg [(.int .i64 (.ci 10737418240)), (.int .i64 (.ci 10737418240))]), (.int .i64 (.ci 0))])),
  ([(.agg [(.int .i64 (.ci 429496729)), (.int .i64 (.ci 429496730))]), (.agg [(.int .i64 (.ci 4294967296)), (.int .i64 (.ci 4294967296))])], (.tup [(.agg [(.int .i64 (.ci 429496729)), (.int .i64 (.ci 429496730))]), (.int .i64 (.ci 0))]))])]
set_option maxRecDepth 1000000 in
theorem k11 : chk (tab ms10) m11 = true := by kernel_rfl
def ms11 : Memo := m11 ++ ms10
theorem all11 {w0 : World} {e0 : Env} (hL : Laid w0 e0) : MemoAll w0 ms11 := memo_step hL (all10 hL) k11
end Go.Proofs.YtfjhmdedhflpbabGreatDoor
