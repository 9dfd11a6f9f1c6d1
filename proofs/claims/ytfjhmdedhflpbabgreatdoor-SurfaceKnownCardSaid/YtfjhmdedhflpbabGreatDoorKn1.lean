/- Known calls of the surface layer, part 1 (31 calls). -/
import Derived.Test.YtfjhmdedhflpbabGreatDoorKn0
namespace Go.Proofs.YtfjhmdedhflpbabGreatDoor
open Go Go.Ex
def m1 : Memo := [(96, [([(.int .u64 (.ci 4294967298)), (.int .u64 (.ci 4294967298))], (.agg [(.int .u64 (.ci 1)), (.int .u64 (.ci 17179869188))])),
  ([(.int .u64 (.ci 4294967297)), (.int .u64 (.ci 4294967297))], (.agg [(.int .u64 (.ci 1)), (.int .u64 (.ci 8589934593))])),
  ([(.int .u64 (.ci 0)), (.int .u64 (.ci 4294967296))], (.agg [(.int .u64 (.ci 0)), (.int .u64 (.ci 0))])),
  ([(.int .u64 (.ci 429496729600)), (.int .u64 (.ci 10000000))], (.agg [(.int .u64 (.ci 0)), (.int .u64 (.ci 4294967296000000000))])),
  ([(.int .u64 (.ci 4294967296)), (.int .u64 (.ci 10000000))], (.agg [(.int .u64 (.ci 0)), (.int .u64 (.ci 42949672960000000))])),
  ([(.int .u64 (.ci 42949672)), (.int .u64 (.ci 0))], (.agg [(.int .u64 (.ci 0)), (.int .u64 (.ci 0))])),
  ([(.int .u64 (.ci 42949673)), (.int .u64 (.ci 0))], (.agg [(.int .u64 (.ci 0)), (.int .u64 (.ci 0))])),
  ([(.int .u64 (.ci 43812961386496)), (.int .u64 (.ci 10000000))], (.agg [(.int .u64 (.ci 23)), (.int .u64 (.ci 13854500169640312832))])),
  ([(.int .u64 (.ci 438129613864)), (.int .u64 (.ci 10000000))], (.agg [(.int .u64 (.ci 0)), (.int .u64 (.ci 4381296138640000000))])),
  ([(.int .u64 (.ci 438129613865)), (.int .u64 (.ci 10000000))], (.agg [(.int .u64 (.ci 0)), (.int .u64 (.ci 4381296138650000000))])),
  ([(.int .u64 (.ci 4381296138)), (.int .u64 (.ci 1000000))], (.agg [(.int .u64 (.ci 0)), (.int .u64 (.ci 4381296138000000))])),
  ([(.int .u64 (.ci 4381296139)), (.int .u64 (.ci 1000000))], (.agg [(.int .u64 (.ci 0)), (.int .u64 (.ci 4381296139000000))])),
  ([(.int .u64 (.ci 2147483648000)), (.int .u64 (.ci 10000000))], (.agg [(.int .u64 (.ci 1)), (.int .u64 (.ci 3028092406290448384))]))]),
(95, [([(.agg [(.int .u64 (.ci 0)), (.int .u64 (.ci 0))]), (.int .u64 (.ci 8589934592)), (.bool (.cb false))], (.tup [(.int .u64 (.ci 0)), (.bool (.cb true))])),
  ([(.agg [(.int .u64 (.ci 0)), (.int .u64 (.ci 0))]), (.int .u64 (.ci 8589934592)), (.bool (.cb true))], (.tup [(.int .u64 (.ci 0)), (.bool (.cb true))])),
  ([(.agg [(.int .u64 (.ci 0)), (.int .u64 (.ci 4294967296000000000))]), (.int .u64 (.ci 1000000000)), (.bool (.cb false))], (.tup [(.int .u64 (.ci 4294967296)), (.bool (.cb true))])),
  ([(.agg [(.int .u64 (.ci 0)), (.int .u64 (.ci 4294967296000000000))]), (.int .u64 (.ci 1000000000)), (.bool (.cb true))], (.tup [(.int .u64 (.ci 4294967296)), (.bool (.cb true))])),
  ([(.agg [(.int .u64 (.ci 0)), (.int .u64 (.ci 42949672960000000))]), (.int .u64 (.ci 1000000000)), (.bool (.cb false))], (.tup [(.int .u64 (.ci 42949672)), (.bool (.cb true))])),
  ([(.agg [(.int .u64 (.ci 0)), (.int .u64 (.ci 42949672960000000))]), (.int .u64 (.ci 1000000000)), (.bool (.cb true))], (.tup [(.int .u64 (.ci 42949673)), (.bool (.cb true))])),
  ([(.agg [(.int .u64 (.ci 1)), (.int .u64 (.ci 0))]), (.int .u64 (.ci 8589934592)), (.bool (.cb false))], (.tup [(.int .u64 (.ci 2147483648)), (.bool (.cb true))])),
  ([(.agg [(.int .u64 (.ci 1)), (.int .u64 (.ci 0))]), (.int .u64 (.ci 8589934592)), (.bool (.cb true))], (.tup [(.int .u64 (.ci 2147483648)), (.bool (.cb true))])),
  ([(.agg [(.int .u64 (.ci 23)), (.int .u64 (.ci 13854500169640312832))]), (.int .u64 (.ci 1000000000)), (.bool (.cb false))], (.tup [(.int .u64 (.ci 438129613864)), (.bool (.cb true))])),
  ([(.agg [(.int .u64 (.ci 23)), (.int .u64 (.ci 13854500169640312832))]), (.int .u64 (.ci 1000000000)), (.bool (.cb true))], (.tup [(.int .u64 (.ci 438129613865)), (.bool (.cb true))])),
  ([(.agg [(.int .u64 (.ci 0)), (.int .u64 (.ci 4381296138640000000))]), (.int .u64 (.ci 1000000000)), (.bool (.cb false))], (.tup [(.int .u64 (.ci 4381296138)), (.bool (.cb true))])),
  ([(.agg [(.int .u64 (.ci 0)), (.int .u64 (.ci 4381296138650000000))]), (.int .u64 (.ci 1000000000)), (.bool (.cb true))], (.tup [(.int .u64 (.ci 4381296139)), (.bool (.cb true))])),
  ([(.agg [(.int .u64 (.ci 0)), (.int .u64 (.ci 4381296138000000))]), (.int .u64 (.ci 1000000)), (.bool (.cb false))], (.tup [(.int .u64 (.ci 4381296138)), (.bool (.cb true))])),
  ([(.agg [(.int .u64 (.ci 0)), (.int .u64 (.ci 4381296139000000))]), (.int .u64 (.ci 1000000)), (.bool (.cb true))], (.tup [(.int .u64 (.ci 4381296139)), (.bool (.cb true))]))]),
(21, [([(.agg [(.int .i64 (.ci 1)), (.int .i64 (.ci 10000000)), (.int .i64 (.ci (-1000000))), (.int .i64 (.ci 0)), (.int .i64 (.ci 0)), (.int .i64 (.ci 0)), (.int .i64 (.ci 0)), (.int .i64 (.ci 0)), (.int .i64 (.ci 0)), (.int .i64 (.ci 0)), (.int .i64 (.ci 0)), (.int .i64 (.ci 0)), (.int .i64 (.ci 5000000)), (.str (.cs [])), (.int .i64 (.ci 0)), (.int .i64 (.ci 0)), (.int .i64 (.ci 0)), (.int .i64 (.ci 0)), (.int .i64 (.ci 0)), (.int .i64 (.ci 0)), (.int .i64 (.ci 0)), .nilslice]), (.agg [(.int .i64 (.ci 1)), (.int .i64 (.ci 10000000)), (.int .i64 (.ci (-1000000))), (.int .i64 (.ci 0)), (.int .i64 (.ci 0)), (.int .i64 (.ci 0)), (.int .i64 (.ci 0)), (.int .i64 (.ci 0)), (.int .i64 (.ci 0)), (.int .i64 (.ci 0)), (.int .i64 (.ci 0)), (.int .i64 (.ci 0)), (.int .i64 (.ci 5000000)), (.str (.cs [])), (.int .i64 (.ci 0)), (.int .i64 (.ci 0)), (.int .i64 (.ci 0)), (.int .i64 (.ci 0)), (.int .i64 (.ci 0)), (.int .i64 (.ci 0)), (.int .i64 (.ci 0)), .nilslice])], (.bool (.cb true)))]),
(100, [([(.int .i64 (.ci 42949672960)), (.int .i64 (.ci 2))], (.tup [(.int .i64 (.ci 429496729600)), (.int .i64 (.ci 429496729600)), (.int .i64 (.ci 0))])),
  ([(.int .i64 (.ci 433791696896)), (.int .i64 (.ci 2))], (.tup [(.int .i64 (.ci 43812961386496)), (.int .i64 (.ci 43812961386496)), (.int .i64 (.ci 0))])),
  ([(.int .i64 (.ci 85899345920)), (.int .i64 (.ci 2))], (.tup [(.int .i64 (.ci 1717986918400)), (.int .i64 (.ci 1717986918400)), (.int .i64 (.ci 0))]))])]
set_option maxRecDepth 1000000 in
theorem k1 : chk (tab ms0) m1 = true := by kernel_rfl
def ms1 : Memo := m1 ++ ms0
theorem all1 {w0 : World} {e0 : Env} (hL : Laid w0 e0) : MemoAll w0 ms1 := memo_step hL (all0 hL) k1
end Go.Proofs.YtfjhmdedhflpbabGreatDoor
