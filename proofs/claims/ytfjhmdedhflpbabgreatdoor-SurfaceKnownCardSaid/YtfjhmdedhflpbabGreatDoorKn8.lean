/- Known calls of the surface layer, part 8 (3 calls). -/
import Derived.Test.YtfjhmdedhflpbabGreatDoorKn7
namespace Go.Proofs.YtfjhmdedhflpbabGreatDoor
open Go Go.Ex
def m8 : Memo := [(19, [([(.agg [(.int .i64 (.ci 1)), (.int .i64 (.ci 0)), (.int .i64 (.ci 0)), (.int .i64 (.ci 0)), (.int .i64 (.ci 0)), (.int .i64 (.ci 0)), (.int .i64 (.ci 0)), (.int .i64 (.ci 0)), (.int .i64 (.ci 0)), (.int .i64 (.ci 0)), (.int .i64 (.ci 0)), (.int .i64 (.ci 0)), (.int .i64 (.ci 0)), (.str (.cs [77, 73, 82, 82, 79, 82])), (.int .i64 (.ci 0)), (.int .i64 (.ci 0)), (.int .i64 (.ci 0)), (.int .i64 (.ci 0)), (.int .i64 (.ci 0)), (.int .i64 (.ci 0)), (.int .i64 (.ci 0)), .nilslice])], (.int .i64 (.ci 0))),
  ([(.agg [(.int .i64 (.ci 2)), (.int .i64 (.ci 0)), (.int .i64 (.ci 0)), (.int .i64 (.ci 0)), (.int .i64 (.ci (-100000000))), (.int .i64 (.ci 0)), (.int .i64 (.ci 0)), (.int .i64 (.ci 0)), (.int .i64 (.ci 0)), (.int .i64 (.ci 0)), (.int .i64 (.ci 0)), (.int .i64 (.ci 0)), (.int .i64 (.ci 0)), (.str (.cs [])), (.int .i64 (.ci 0)), (.int .i64 (.ci 0)), (.int .i64 (.ci 0)), (.int .i64 (.ci 0)), (.int .i64 (.ci 0)), (.int .i64 (.ci 0)), (.int .i64 (.ci 0)), .nilslice])], (.int .i64 (.ci 0))),
  ([(.agg [(.int .i64 (.ci 1)), (.int .i64 (.ci 0)), (.int .i64 (.ci 0)), (.int .i64 (.ci 0)), (.int .i64 (.ci 0)), (.int .i64 (.ci 0)), (.int .i64 (.ci 0)), (.int .i64 (.ci 0)), (.int .i64 (.ci 0)), (.int .i64 (.ci 0)), (.int .i64 (.ci 0)), (.int .i64 (.ci 0)), (.int .i64 (.ci 0)), (.str (.cs [])), (.int .i64 (.ci 2)), (.int .i64 (.ci 1)), (.int .i64 (.ci 0)), (.int .i64 (.ci 0)), (.int .i64 (.ci 0)), (.int .i64 (.ci 0)), (.int .i64 (.ci 0)), .nilslice])], (.int .i64 (.ci 0)))])]
set_option maxRecDepth 1000000 in
theorem k8 : chk (tab ms7) m8 = true := by kernel_rfl
def ms8 : Memo := m8 ++ ms7
theorem all8 {w0 : World} {e0 : Env} (hL : Laid w0 e0) : MemoAll w0 ms8 := memo_step hL (all7 hL) k8
end Go.Proofs.YtfjhmdedhflpbabGreatDoor
