/- Known calls of the surface layer, part 6 (31 calls). -/
import Derived.Test.YtfjhmdedhflpbabGreatDoorKn5
namespace Go.Proofs.YtfjhmdedhflpbabGreatDoor
open Go Go.Ex
def m6 : Memo := [(101, [([(.int .i64 (.ci 4294967296)), (.int .i64 (.ci 10000000)), (.int .i64 (.ci 1000000000)), (.bool (.cb true))], (.tup [(.int .i64 (.ci 42949673)), (.int .i64 (.ci 0))])),
  ([(.int .i64 (.ci 42949672)), (.int .i64 (.ci 0)), (.int .i64 (.ci 1000000)), (.bool (.cb false))], (.tup [(.int .i64 (.ci 0)), (.int .i64 (.ci 0))])),
  ([(.int .i64 (.ci 42949673)), (.int .i64 (.ci 0)), (.int .i64 (.ci 1000000)), (.bool (.cb true))], (.tup [(.int .i64 (.ci 0)), (.int .i64 (.ci 0))])),
  ([(.int .i64 (.ci 43812961386496)), (.int .i64 (.ci 10000000)), (.int .i64 (.ci 1000000000)), (.bool (.cb false))], (.tup [(.int .i64 (.ci 438129613864)), (.int .i64 (.ci 0))])),
  ([(.int .i64 (.ci 43812961386496)), (.int .i64 (.ci 10000000)), (.int .i64 (.ci 1000000000)), (.bool (.cb true))], (.tup [(.int .i64 (.ci 438129613865)), (.int .i64 (.ci 0))])),
  ([(.int .i64 (.ci 438129613864)), (.int .i64 (.ci 10000000)), (.int .i64 (.ci 1000000000)), (.bool (.cb false))], (.tup [(.int .i64 (.ci 4381296138)), (.int .i64 (.ci 0))])),
  ([(.int .i64 (.ci 438129613865)), (.int .i64 (.ci 10000000)), (.int .i64 (.ci 1000000000)), (.bool (.cb true))], (.tup [(.int .i64 (.ci 4381296139)), (.int .i64 (.ci 0))])),
  ([(.int .i64 (.ci 4381296138)), (.int .i64 (.ci 1000000)), (.int .i64 (.ci 1000000)), (.bool (.cb false))], (.tup [(.int .i64 (.ci 4381296138)), (.int .i64 (.ci 0))])),
  ([(.int .i64 (.ci 4381296139)), (.int .i64 (.ci 1000000)), (.int .i64 (.ci 1000000)), (.bool (.cb true))], (.tup [(.int .i64 (.ci 4381296139)), (.int .i64 (.ci 0))])),
  ([(.int .i64 (.ci 2147483648000)), (.int .i64 (.ci 10000000)), (.int .i64 (.ci 1000000000)), (.bool (.cb false))], (.tup [(.int .i64 (.ci 21474836480)), (.int .i64 (.ci 0))])),
  ([(.int .i64 (.ci 2147483648000)), (.int .i64 (.ci 10000000)), (.int .i64 (.ci 1000000000)), (.bool (.cb true))], (.tup [(.int .i64 (.ci 21474836480)), (.int .i64 (.ci 0))])),
  ([(.int .i64 (.ci 21474836480)), (.int .i64 (.ci 10000000)), (.int .i64 (.ci 1000000000)), (.bool (.cb false))], (.tup [(.int .i64 (.ci 214748364)), (.int .i64 (.ci 0))])),
  ([(.int .i64 (.ci 21474836480)), (.int .i64 (.ci 10000000)), (.int .i64 (.ci 1000000000)), (.bool (.cb true))], (.tup [(.int .i64 (.ci 214748365)), (.int .i64 (.ci 0))])),
  ([(.int .i64 (.ci 214748364)), (.int .i64 (.ci 0)), (.int .i64 (.ci 1000000)), (.bool (.cb false))], (.tup [(.int .i64 (.ci 0)), (.int .i64 (.ci 0))])),
  ([(.int .i64 (.ci 214748365)), (.int .i64 (.ci 0)), (.int .i64 (.ci 1000000)), (.bool (.cb true))], (.tup [(.int .i64 (.ci 0)), (.int .i64 (.ci 0))])),
  ([(.int .i64 (.ci 42949672960)), (.int .i64 (.ci 10000000)), (.int .i64 (.ci 1000000000)), (.bool (.cb false))], (.tup [(.int .i64 (.ci 429496729)), (.int .i64 (.ci 0))])),
  ([(.int .i64 (.ci 42949672960)), (.int .i64 (.ci 10000000)), (.int .i64 (.ci 1000000000)), (.bool (.cb true))], (.tup [(.int .i64 (.ci 429496730)), (.int .i64 (.ci 0))])),
  ([(.int .i64 (.ci 85899345920)), (.int .i64 (.ci 10000000)), (.int .i64 (.ci 1000000000)), (.bool (.cb false))], (.tup [(.int .i64 (.ci 858993459)), (.int .i64 (.ci 0))])),
  ([(.int .i64 (.ci 85899345920)), (.int .i64 (.ci 10000000)), (.int .i64 (.ci 1000000000)), (.bool (.cb true))], (.tup [(.int .i64 (.ci 858993460)), (.int .i64 (.ci 0))]))]),
(86, [([(.int .i64 (.ci 4294967296)), (.int .i64 (.ci 8589934592)), (.bool (.cb false))], (.tup [(.int .i64 (.ci 2147483648)), (.int .i64 (.ci 0))])),
  ([(.int .i64 (.ci 4294967296)), (.int .i64 (.ci 8589934592)), (.bool (.cb true))], (.tup [(.int .i64 (.ci 2147483648)), (.int .i64 (.ci 0))])),
  ([(.int .i64 (.ci 21474836480)), (.int .i64 (.ci 8589934592)), (.bool (.cb false))], (.tup [(.int .i64 (.ci 10737418240)), (.int .i64 (.ci 0))])),
  ([(.int .i64 (.ci 21474836480)), (.int .i64 (.ci 8589934592)), (.bool (.cb true))], (.tup [(.int .i64 (.ci 10737418240)), (.int .i64 (.ci 0))])),
  ([(.int .i64 (.ci 429496729)), (.int .i64 (.ci 4294967296)), (.bool (.cb false))], (.tup [(.int .i64 (.ci 429496729)), (.int .i64 (.ci 0))])),
  ([(.int .i64 (.ci 429496729)), (.int .i64 (.ci 4294967296)), (.bool (.cb true))], (.tup [(.int .i64 (.ci 429496729)), (.int .i64 (.ci 0))])),
  ([(.int .i64 (.ci 429496730)), (.int .i64 (.ci 4294967296)), (.bool (.cb false))], (.tup [(.int .i64 (.ci 429496730)), (.int .i64 (.ci 0))])),
  ([(.int .i64 (.ci 429496730)), (.int .i64 (.ci 4294967296)), (.bool (.cb true))], (.tup [(.int .i64 (.ci 429496730)), (.int .i64 (.ci 0))])),
  ([(.int .i64 (.ci 858993459)), (.int .i64 (.ci 4294967296)), (.bool (.cb false))], (.tup [(.int .i64 (.ci 858993459)), (.int .i64 (.ci 0))])),
  ([(.int .i64 (.ci 858993459)), (.int .i64 (.ci 4294967296)), (.bool (.cb true))], (.tup [(.int .i64 (.ci 858993459)), (.int .i64 (.ci 0))]))]),
(70, [([(.agg [(.int .i64 (.ci 433791696896)), (.int .i64 (.ci 433791696896))])], (.tup [(.agg [(.int .i64 (.ci 43812961386496)), (.int .i64 (.ci 43812961386496))]), (.int .i64 (.ci 0))])),
  ([(.agg [(.int .i64 (.ci 85899345920)), (.int .i64 (.ci 85899345920))])], (.tup [(.agg [(.int .i64 (.ci 1717986918400)), (.int .i64 (.ci 1717986918400))]), (.int .i64 (.ci 0))]))])]
set_option maxRecDepth 1000000 in
theorem k6 : chk (tab ms5) m6 = true := by kernel_rfl
def ms6 : Memo := m6 ++ ms5
theorem all6 {w0 : World} {e0 : Env} (hL : Laid w0 e0) : MemoAll w0 ms6 := memo_step hL (all5 hL) k6
end Go.Proofs.YtfjhmdedhflpbabGreatDoor
