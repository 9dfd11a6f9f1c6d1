/- The surface layer's calls without input: what the listed variables give the executor, and how a list of known calls grows. -/
import Derived.Test.YtfjhmdedhflpbabGreatDoorExH
import Derived.Test.YtfjhmdedhflpbabGreatDoorProg
import Derived.Laws.Externs
import Derived.KernelRfl
namespace Go.Proofs.YtfjhmdedhflpbabGreatDoor
open Go Go.Ex Go.RowKit

def il (l : List Int) : List AV := l.map fun n => AV.int .i64 (.ci n)
def gs0 : List (Nat × List AV) := [(0, [.int .i64 (.ci 4294967296), .int .i64 (.ci 4294967296)]), (1, [.map 0])]
def ros0 : List (Nat × AO) := [(0, .map [(.int .i64 1, .rsl 1 (.ci 7)), (.int .i64 2, .rsl 2 (.ci 5)), (.int .i64 3, .rsl 3 (.ci 5)), (.int .i64 4, .rsl 4 (.ci 2))])]
def rss0 : List (Nat × List AV) := [(1, il [1,2,5,6,7,8,10]), (2, il [1,2,3,4,10]), (3, il [11,12,13,14,15]), (4, il [1,10])]
noncomputable def tab (ms : Memo) : Tab := tabOf Tryz.prog [] gs0 115 ros0 rss0 ms
def noSy : Sy := { F := fun _ _ => [], Pre := fun _ _ => False }

/-- What the listed variables give: the variable's cells, the map, its rows. -/
structure Laid (w0 : World) (e0 : Env) : Prop where
  len : e0.length = 5
  gs : ∀ b l, gtabAt gs0 b = some l → ∃ vs e fz, w0.heap[b]? = some (.cells vs.toArray e fz) ∧ AV.dens e0 l = some vs
  ros : ∀ id ao, roAt ros0 id = some ao → ∃ k o, addr e0 id = some k ∧ w0.heap[k]? = some o ∧ ORel e0 ao o
  rss : ∀ id cs, gtabAt rss0 id = some cs → ∃ k o c vs, Go.Ex.rowAt e0 id = some (k, o, c) ∧ k < w0.heap.size ∧ AV.dens e0 cs = some vs ∧ ∀ (j : Nat) v, vs[j]? = some v → w0.cell? ⟨k, o + j, none⟩ = some v

noncomputable def cx (w0 : World) (e0 : Env) (ms : Memo) : Ctx := ⟨Tryz.prog, w0, noSy, tab ms, e0⟩

set_option maxRecDepth 100000 in
theorem func115 : ∃ fn, Tryz.prog.funcs[115]? = some fn ∧ (fn.name == "runtime.NumGoroutine") = false ∧ fn.body.isNone = true ∧ Extern.findNext fn = none ∧ Extern.find fn = some add64Entry := by
  have h : (Tryz.prog.funcs[115]?).isSome = true := by kernel_rfl
  obtain ⟨fn, hfn⟩ := Option.isSome_iff_exists.1 h
  refine ⟨fn, hfn, ?_⟩
  have e1 : ((Tryz.prog.funcs[115]?).map fun fn => (fn.name == "runtime.NumGoroutine")) = some false := by kernel_rfl
  have e2 : ((Tryz.prog.funcs[115]?).map fun fn => fn.body.isNone) = some true := by kernel_rfl
  have e3 : ((Tryz.prog.funcs[115]?).map fun fn => Extern.findNext fn) = some none := by kernel_rfl
  have e4 : ((Tryz.prog.funcs[115]?).map fun fn => Extern.find fn) = some (some add64Entry) := by kernel_rfl
  rw [hfn] at e1 e2 e3 e4
  simp only [Option.map_some, Option.some.injEq] at e1 e2 e3 e4
  exact ⟨e1, e2, e3, e4⟩

theorem add64_run (x y : Int) (w : World) (hx : 0 ≤ x) (hy : 0 ≤ y) :
    (callFunc 115 #[.int .u64 x, .int .u64 y, .int .u64 0]).run Tryz.prog w = .ok (.value (.tuple #[.int .u64 ((x + y) % 18446744073709551616), .int .u64 ((x + y) / 18446744073709551616)])) w := by
  obtain ⟨fn, h1, h2, h3, h4, h5⟩ := func115
  rw [run_callFunc_extern h1 h2 h3 h4 h5, run_add64 x y 0 hx hy (by omega) (by omega) w]
  simp only [Int.add_zero, Result.andThen_ok]

set_option maxRecDepth 100000 in
theorem mixed : Tryz.prog.follows .mixedOrders = true := by kernel_rfl

theorem add64_all : 0 < 115 → ∀ (x y : Int) (w : World), 0 ≤ x → x < 18446744073709551616 → 0 ≤ y → y < 18446744073709551616 →
    (callFunc 115 #[.int .u64 x, .int .u64 y, .int .u64 0]).run Tryz.prog w = .ok (.value (.tuple #[.int .u64 ((x + y) % 18446744073709551616), .int .u64 ((x + y) / 18446744073709551616)])) w :=
  fun _ x y w hx _ hy _ => add64_run x y w hx hy

theorem tabOk {w0 : World} {e0 : Env} (h : Laid w0 e0) (ms : Memo) : TabOk (cx w0 e0 ms) :=
  tabOf_ok (P := Tryz.prog) (specs := []) (gs := gs0) (a64 := 115) (ros := ros0) (rss := rss0) (ms := ms) (w0 := w0) (S := noSy) (e0 := e0) add64_all mixed h.gs h.ros h.rss

def MemoAll (w0 : World) (ms : Memo) : Prop := ∀ g ∈ ms, ∀ p ∈ g.2, MemoFact Tryz.prog w0 g.1 p.1 p.2

theorem specsOk {w0 : World} {e0 : Env} {ms : Memo} (h : MemoAll w0 ms) : SpecsOk (cx w0 e0 ms) where
  memo f args r hm := by
    obtain ⟨l, h1, h2⟩ := memoAt_mem (m := ms) hm
    exact h _ h1 _ h2
  specs f sp hs := by
    have h0 : (tab ms).specs f = none := by
      unfold tab
      exact tabOf_specs Tryz.prog gs0 115 ros0 rss0 ms f
    have e : (cx w0 e0 ms).T = tab ms := rfl
    rw [e, h0] at hs; cases hs

/-- The state at a call. -/
def s5 : St := { nb := 5, heap := [], facts := [] }

noncomputable def runIs (T : Tab) (f : Nat) (args : List AV) (r : AV) : Bool := retIs r (execF T 4000 (.callF f args s5) Tr.ret)

noncomputable def chk1 (T : Tab) (f : Nat) : List (List AV × AV) → Bool
  | [] => true
  | (a, r) :: l => match (AV.dens [] a).isSome && ((r.den []).isSome && runIs T f a r) with
    | true => chk1 T f l
    | false => false

noncomputable def chk (T : Tab) : Memo → Bool
  | [] => true
  | (f, l) :: m => match chk1 T f l with
    | true => chk T m
    | false => false

theorem memo_step {w0 : World} {e0 : Env} (hL : Laid w0 e0) {ms new : Memo} (h : MemoAll w0 ms) (hc : chk (tab ms) new = true) : MemoAll w0 (new ++ ms) := by
  have one : ∀ (f : Nat) (l : List (List AV × AV)), chk1 (tab ms) f l = true → ∀ p ∈ l, MemoFact Tryz.prog w0 f p.1 p.2 := by
    intro f l
    induction l with
    | nil => intro _ p hp; cases hp
    | cons q l ih =>
      obtain ⟨a, r⟩ := q
      intro hq p hp
      simp only [chk1] at hq
      split at hq
      · rename_i hb
        simp only [Bool.and_eq_true] at hb
        obtain ⟨h1, h2, h3⟩ := hb
        rcases List.mem_cons.1 hp with rfl | hp
        · refine memo_of_run (C := cx w0 e0 ms) (n := 4000) (tabOk hL ms) (specsOk h) ?_ h1 h2
          have : st0 e0 = s5 := by
            have h5 : e0.length = 5 := hL.len
            unfold st0 s5
            rw [h5]
          show retIs r (execF (tab ms) 4000 (.callF f a (st0 e0)) Tr.ret) = true
          rw [this]; exact h3
        · exact ih hq p hp
      · cases hq
  have all : ∀ (new : Memo), chk (tab ms) new = true → ∀ g ∈ new, ∀ p ∈ g.2, MemoFact Tryz.prog w0 g.1 p.1 p.2 := by
    intro new
    induction new with
    | nil => intro _ g hg; cases hg
    | cons q m ih =>
      obtain ⟨f, l⟩ := q
      intro hq g hg
      simp only [chk] at hq
      split at hq
      · rename_i h1
        rcases List.mem_cons.1 hg with rfl | hg
        · exact one f l h1
        · exact ih hq g hg
      · cases hq
  intro g hg
  rcases List.mem_append.1 hg with hg | hg
  · exact all new hc g hg
  · exact h g hg

theorem memo_nil (w0 : World) : MemoAll w0 [] := fun g hg => by cases hg

end Go.Proofs.YtfjhmdedhflpbabGreatDoor
