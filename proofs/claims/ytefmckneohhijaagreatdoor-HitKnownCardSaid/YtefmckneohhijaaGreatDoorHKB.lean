/- Calls without input of the layer of intersections: what the listed variable gives the executor, and how a list of known calls grows. No condition. -/
import Derived.Test.YtefmckneohhijaaGreatDoorHExH
import Derived.Test.YtefmckneohhijaaGreatDoorProg
import Derived.Laws.Externs
import Derived.KernelRfl
namespace Go.Proofs.YtefmckneohhijaaGreatDoor
open Go Go.Ex Go.RowKit

def gs0 : List (Nat × List AV) := [(2, [.int .i64 (.ci 4294967296), .int .i64 (.ci 4294967296)]), (1, [.int .i64 (.ci 1048576), .int .i64 (.ci 67108864), .int .i64 (.ci 2147483648), .int .i64 (.ci 34359738368)])]
noncomputable def tab (ms : Memo) : Tab := tabOf Tryz.prog [] gs0 291 [] [] ms
def noSy : Sy := { F := fun _ _ => [], Pre := fun _ _ => False }

/-- What the listed variables give. -/
structure Laid (w0 : World) : Prop where
  gs : ∀ b l, gtabAt gs0 b = some l → ∃ vs e fz, w0.heap[b]? = some (.cells vs.toArray e fz) ∧ AV.dens [] l = some vs

noncomputable def cx (w0 : World) (ms : Memo) : Ctx := ⟨Tryz.prog, w0, noSy, tab ms, []⟩

set_option maxRecDepth 100000 in
theorem func291' : ∃ fn, Tryz.prog.funcs[291]? = some fn ∧ (fn.name == "runtime.NumGoroutine") = false ∧ fn.body.isNone = true ∧ Extern.findNext fn = none ∧ Extern.find fn = some add64Entry := by
  have h : (Tryz.prog.funcs[291]?).isSome = true := by kernel_rfl
  obtain ⟨fn, hfn⟩ := Option.isSome_iff_exists.1 h
  refine ⟨fn, hfn, ?_⟩
  have e1 : ((Tryz.prog.funcs[291]?).map fun fn => (fn.name == "runtime.NumGoroutine")) = some false := by kernel_rfl
  have e2 : ((Tryz.prog.funcs[291]?).map fun fn => fn.body.isNone) = some true := by kernel_rfl
  have e3 : ((Tryz.prog.funcs[291]?).map fun fn => Extern.findNext fn) = some none := by kernel_rfl
  have e4 : ((Tryz.prog.funcs[291]?).map fun fn => Extern.find fn) = some (some add64Entry) := by kernel_rfl
  rw [hfn] at e1 e2 e3 e4
  simp only [Option.map_some, Option.some.injEq] at e1 e2 e3 e4
  exact ⟨e1, e2, e3, e4⟩

theorem add64_run (x y : Int) (w : World) (hx : 0 ≤ x) (hy : 0 ≤ y) :
    (callFunc 291 #[.int .u64 x, .int .u64 y, .int .u64 0]).run Tryz.prog w = .ok (.value (.tuple #[.int .u64 ((x + y) % 18446744073709551616), .int .u64 ((x + y) / 18446744073709551616)])) w := by
  obtain ⟨fn, h1, h2, h3, h4, h5⟩ := func291'
  rw [run_callFunc_extern h1 h2 h3 h4 h5, run_add64 x y 0 hx hy (by omega) (by omega) w]
  simp only [Int.add_zero, Result.andThen_ok]

set_option maxRecDepth 100000 in
theorem mixed : Tryz.prog.follows .mixedOrders = true := by kernel_rfl

theorem add64_all : 0 < 291 → ∀ (x y : Int) (w : World), 0 ≤ x → x < 18446744073709551616 → 0 ≤ y → y < 18446744073709551616 →
    (callFunc 291 #[.int .u64 x, .int .u64 y, .int .u64 0]).run Tryz.prog w = .ok (.value (.tuple #[.int .u64 ((x + y) % 18446744073709551616), .int .u64 ((x + y) / 18446744073709551616)])) w :=
  fun _ x y w hx _ hy _ => add64_run x y w hx hy

theorem tabOk {w0 : World} (h : Laid w0) (ms : Memo) : TabOk (cx w0 ms) :=
  tabOf_ok (P := Tryz.prog) (specs := []) (gs := gs0) (a64 := 291) (ros := []) (rss := []) (ms := ms) (w0 := w0) (S := noSy) (e0 := []) add64_all mixed h.gs (fun _ _ h => by cases h) (fun _ _ h => by cases h)

def MemoAll (w0 : World) (ms : Memo) : Prop := ∀ g ∈ ms, ∀ p ∈ g.2, MemoFact Tryz.prog w0 g.1 p.1 p.2

theorem specsOk {w0 : World} {ms : Memo} (h : MemoAll w0 ms) : SpecsOk (cx w0 ms) where
  memo f args r hm := by
    obtain ⟨l, h1, h2⟩ := memoAt_mem (m := ms) hm
    exact h _ h1 _ h2
  specs f sp hs := by
    have h0 : (tab ms).specs f = none := by
      unfold tab
      exact tabOf_specs Tryz.prog gs0 291 [] [] ms f
    have e : (cx w0 ms).T = tab ms := rfl
    rw [e, h0] at hs; cases hs

/-- The state at a call. -/
def s5 : St := { nb := 0, heap := [], facts := [] }

noncomputable def runIs (T : Tab) (f : Nat) (args : List AV) (r : AV) : Bool := retIs r (execF T 4000 (.callF f args s5) Tr.ret)

noncomputable def chk1 (T : Tab) (f : Nat) : List (List AV × AV) → Bool
  | [] => true
  | (a, r) :: l => match (AV.dens [] a).isSome && ((r.den []).isSome && runIs T f a r) with
    | true => chk1 T f l
    | false => false

noncomputable def chk (T : Tab) : Memo → Bool
  | [] => true
  | (f, l) :: m => match chk1 T f l with
    | true => chk T m
    | false => false

theorem memo_step {w0 : World} (hL : Laid w0) {ms new : Memo} (h : MemoAll w0 ms) (hc : chk (tab ms) new = true) : MemoAll w0 (new ++ ms) := by
  have one : ∀ (f : Nat) (l : List (List AV × AV)), chk1 (tab ms) f l = true → ∀ p ∈ l, MemoFact Tryz.prog w0 f p.1 p.2 := by
    intro f l
    induction l with
    | nil => intro _ p hp; cases hp
    | cons q l ih =>
      obtain ⟨a, r⟩ := q
      intro hq p hp
      simp only [chk1] at hq
      split at hq
      · rename_i hb
        simp only [Bool.and_eq_true] at hb
        obtain ⟨h1, h2, h3⟩ := hb
        rcases List.mem_cons.1 hp with rfl | hp
        · exact memo_of_run (C := cx w0 ms) (n := 4000) (tabOk hL ms) (specsOk h) h3 h1 h2
        · exact ih hq p hp
      · cases hq
  have all : ∀ (new : Memo), chk (tab ms) new = true → ∀ g ∈ new, ∀ p ∈ g.2, MemoFact Tryz.prog w0 g.1 p.1 p.2 := by
    intro new
    induction new with
    | nil => intro _ g hg; cases hg
    | cons q m ih =>
      obtain ⟨f, l⟩ := q
      intro hq g hg
      simp only [chk] at hq
      split at hq
      · rename_i h1
        rcases List.mem_cons.1 hg with rfl | hg
        · exact one f l h1
        · exact ih hq g hg
      · cases hq
  intro g hg
  rcases List.mem_append.1 hg with hg | hg
  · exact all new hc g hg
  · exact h g hg

theorem memo_nil (w0 : World) : MemoAll w0 [] := fun g hg => by cases hg

end Go.Proofs.YtefmckneohhijaaGreatDoor
