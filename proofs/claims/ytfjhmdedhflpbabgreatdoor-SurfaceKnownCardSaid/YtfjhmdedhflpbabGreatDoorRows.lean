/-
  NARROWER THAN 'FOR EVERY INPUT', by the rows' own cells (each row's printed sentence says how): SurfaceEven: laid · SurfaceWithin: laid · SurfaceRound: laid · SurfaceSets: laid · SurfaceKnown: laid.
  DERIVED. THE GIVEN ROWS OF THIS SEAT. 5 by the template 'for every input the law returns true; each argument reads behind the call as it read before'; 0 by the template 'total and deterministic' (their statements: YtfjhmdedhflpbabGreatDoorTotals.lean).
  GIVEN WITH THE SEED: the statements are not yours to turn. If you find one false, say at which input.
  Laid BY PROGRAM, IN A SANDBOX (cutbox-rows.mjs): the forced cells as the released guide's own fill.sh prints them over the translation dc9a39ce3ec9e97b… (all of the seat's roots in one cut). By AI agents, Wed Nov 11 2026. No macro, syntax, notation, axiom, sorry.
-/
import Derived.Test.YtfjhmdedhflpbabGreatDoorChecked
import GoSem.Claim
import GoSem.ClaimJoined
import GoSem.ClaimMapViews
import Derived.JoinedTies
import Derived.KernelRfl
namespace Go.Proofs.YtfjhmdedhflpbabGreatDoor
/- THE CELL 'sum', in the pinned program and in every row, IS THE sha256 OF THE DUMP (.gsa) THAT YtfjhmdedhflpbabGreatDoorProg.lean LOADS. Nothing in Lean hashes anything: it is a label: what it is worth is what the hold of that sum in a sandbox is worth. -/
noncomputable def Tryz.pinned : Pinned := { name := "ytfjhmdedhflpbabgreatdoor", sum := "dc9a39ce3ec9e97ba88773cb6448f7dd75536e5154ade156e7207b31bd02c7c0", checked := Tryz.checked }
namespace Rows
def none {H : Type} : Left H := { results := [], args := [] }

/- WHAT THE LISTED PACKAGE-LEVEL VARIABLES READ AS WHEN THE CALL BEGINS. Each datum BY PROGRAM (the guide's laid-datum.mjs) off the statement by which the dump's own 'gosem.cut.vars' lays the variable. In a bare row this is a premise. The card (YtfjhmdedhflpbabGreatDoorCards.lean) ties it to the program's text. -/
def laid_monocle_surface_one {H : Type} : DataW H := .agg [.lit (.int .i64 4294967296), .lit (.int .i64 4294967296)]
def laid_monocle_surface_places {H : Type} : DataW H := .map [(.int .i64 1, .slice [.lit (.int .i64 1), .lit (.int .i64 2), .lit (.int .i64 5), .lit (.int .i64 6), .lit (.int .i64 7), .lit (.int .i64 8), .lit (.int .i64 10)] []), (.int .i64 2, .slice [.lit (.int .i64 1), .lit (.int .i64 2), .lit (.int .i64 3), .lit (.int .i64 4), .lit (.int .i64 10)] []), (.int .i64 3, .slice [.lit (.int .i64 11), .lit (.int .i64 12), .lit (.int .i64 13), .lit (.int .i64 14), .lit (.int .i64 15)] []), (.int .i64 4, .slice [.lit (.int .i64 1), .lit (.int .i64 10)] [])]

/-- 'monoclelaw11.SurfaceEven': WHATEVER THE INPUT: true; the input reads as it did. -/
def surfaceEvenSpec : ChangeSpec := { name := "surfaceEven", fn := fun _ => fun
  | [d1, d2, d3, d4] => { results := [.lit (.bool true)], args := [d1, d2, d3, d4] }
  | _ => none }
def surfaceEvenRow : OpenClaim := { program := "ytfjhmdedhflpbabgreatdoor", sum := "dc9a39ce3ec9e97ba88773cb6448f7dd75536e5154ade156e7207b31bd02c7c0", func := "monocle/monoclelaw11.SurfaceEven", spec := "surfaceEven", inPlace := ["math/bits.Add64"], unfollowed := true, recurses := true, named := ["monocle/surface.one", "math/bits.divideError", "math/bits.overflowError", "monocle/surface.places"], apart := false, laid := [("monocle/surface.one", laid_monocle_surface_one), ("monocle/surface.places", laid_monocle_surface_places)] }
def SurfaceEvenSaid : Prop := surfaceEvenRow.holds Tryz.pinned (OpenSpec.ofChange surfaceEvenSpec)

/-- ITS FALSE NEIGHBOUR: 'it returns false'. Refute it at one input. -/
def surfaceEvenWrong : ChangeSpec := { name := "surfaceEven", fn := fun _ => fun
  | [d1, d2, d3, d4] => { results := [.lit (.bool false)], args := [d1, d2, d3, d4] }
  | _ => none }
def SurfaceEvenWrongFalsely : Prop := surfaceEvenRow.holds Tryz.pinned (OpenSpec.ofChange surfaceEvenWrong)

/-- 'monoclelaw11.SurfaceWithin': WHATEVER THE INPUT: true; the input reads as it did. -/
def surfaceWithinSpec : ChangeSpec := { name := "surfaceWithin", fn := fun _ => fun
  | [d1, d2] => { results := [.lit (.bool true)], args := [d1, d2] }
  | _ => none }
def surfaceWithinRow : OpenClaim := { program := "ytfjhmdedhflpbabgreatdoor", sum := "dc9a39ce3ec9e97ba88773cb6448f7dd75536e5154ade156e7207b31bd02c7c0", func := "monocle/monoclelaw11.SurfaceWithin", spec := "surfaceWithin", inPlace := ["math/bits.Add64"], unfollowed := true, recurses := true, named := ["monocle/surface.one", "math/bits.divideError", "math/bits.overflowError", "monocle/surface.places"], apart := false, laid := [("monocle/surface.one", laid_monocle_surface_one), ("monocle/surface.places", laid_monocle_surface_places)] }
def SurfaceWithinSaid : Prop := surfaceWithinRow.holds Tryz.pinned (OpenSpec.ofChange surfaceWithinSpec)

/-- ITS FALSE NEIGHBOUR: 'it returns false'. Refute it at one input. -/
def surfaceWithinWrong : ChangeSpec := { name := "surfaceWithin", fn := fun _ => fun
  | [d1, d2] => { results := [.lit (.bool false)], args := [d1, d2] }
  | _ => none }
def SurfaceWithinWrongFalsely : Prop := surfaceWithinRow.holds Tryz.pinned (OpenSpec.ofChange surfaceWithinWrong)

/-- 'monoclelaw11.SurfaceRound': WHATEVER THE INPUT: true; the input reads as it did. -/
def surfaceRoundSpec : ChangeSpec := { name := "surfaceRound", fn := fun _ => fun
  | [d1, d2] => { results := [.lit (.bool true)], args := [d1, d2] }
  | _ => none }
def surfaceRoundRow : OpenClaim := { program := "ytfjhmdedhflpbabgreatdoor", sum := "dc9a39ce3ec9e97ba88773cb6448f7dd75536e5154ade156e7207b31bd02c7c0", func := "monocle/monoclelaw11.SurfaceRound", spec := "surfaceRound", inPlace := ["math/bits.Add64"], unfollowed := true, recurses := true, named := ["monocle/surface.one", "math/bits.divideError", "math/bits.overflowError", "monocle/surface.places"], apart := false, laid := [("monocle/surface.one", laid_monocle_surface_one), ("monocle/surface.places", laid_monocle_surface_places)] }
def SurfaceRoundSaid : Prop := surfaceRoundRow.holds Tryz.pinned (OpenSpec.ofChange surfaceRoundSpec)

/-- ITS FALSE NEIGHBOUR: 'it returns false'. Refute it at one input. -/
def surfaceRoundWrong : ChangeSpec := { name := "surfaceRound", fn := fun _ => fun
  | [d1, d2] => { results := [.lit (.bool false)], args := [d1, d2] }
  | _ => none }
def SurfaceRoundWrongFalsely : Prop := surfaceRoundRow.holds Tryz.pinned (OpenSpec.ofChange surfaceRoundWrong)

/-- 'monoclelaw11.SurfaceSets': WHATEVER THE INPUT: true; the input reads as it did. -/
def surfaceSetsSpec : ChangeSpec := { name := "surfaceSets", fn := fun _ => fun
  | [d1, d2, d3] => { results := [.lit (.bool true)], args := [d1, d2, d3] }
  | _ => none }
def surfaceSetsRow : OpenClaim := { program := "ytfjhmdedhflpbabgreatdoor", sum := "dc9a39ce3ec9e97ba88773cb6448f7dd75536e5154ade156e7207b31bd02c7c0", func := "monocle/monoclelaw11.SurfaceSets", spec := "surfaceSets", inPlace := ["math/bits.Add64"], unfollowed := true, recurses := true, named := ["monocle/surface.one", "math/bits.divideError", "math/bits.overflowError", "monocle/surface.places"], apart := false, laid := [("monocle/surface.one", laid_monocle_surface_one), ("monocle/surface.places", laid_monocle_surface_places)] }
def SurfaceSetsSaid : Prop := surfaceSetsRow.holds Tryz.pinned (OpenSpec.ofChange surfaceSetsSpec)

/-- ITS FALSE NEIGHBOUR: 'it returns false'. Refute it at one input. -/
def surfaceSetsWrong : ChangeSpec := { name := "surfaceSets", fn := fun _ => fun
  | [d1, d2, d3] => { results := [.lit (.bool false)], args := [d1, d2, d3] }
  | _ => none }
def SurfaceSetsWrongFalsely : Prop := surfaceSetsRow.holds Tryz.pinned (OpenSpec.ofChange surfaceSetsWrong)

/-- 'monoclelaw11.SurfaceKnown': WHATEVER THE INPUT: true; the input reads as it did. -/
def surfaceKnownSpec : ChangeSpec := { name := "surfaceKnown", fn := fun _ => fun
  | [] => { results := [.lit (.bool true)], args := [] }
  | _ => none }
def surfaceKnownRow : OpenClaim := { program := "ytfjhmdedhflpbabgreatdoor", sum := "dc9a39ce3ec9e97ba88773cb6448f7dd75536e5154ade156e7207b31bd02c7c0", func := "monocle/monoclelaw11.SurfaceKnown", spec := "surfaceKnown", inPlace := ["math/bits.Add64"], unfollowed := true, recurses := true, named := ["monocle/surface.one", "math/bits.divideError", "math/bits.overflowError", "monocle/surface.places"], apart := false, laid := [("monocle/surface.one", laid_monocle_surface_one), ("monocle/surface.places", laid_monocle_surface_places)] }
def SurfaceKnownSaid : Prop := surfaceKnownRow.holds Tryz.pinned (OpenSpec.ofChange surfaceKnownSpec)

/-- ITS FALSE NEIGHBOUR: 'it returns false'. Refute it at one input. -/
def surfaceKnownWrong : ChangeSpec := { name := "surfaceKnown", fn := fun _ => fun
  | [] => { results := [.lit (.bool false)], args := [] }
  | _ => none }
def SurfaceKnownWrongFalsely : Prop := surfaceKnownRow.holds Tryz.pinned (OpenSpec.ofChange surfaceKnownWrong)

/- THE SECOND FORM. 'bulk': how many values and letters a reading holds, each counted each time it is reached (what is shared counts as often as it is met; a slice's spare places count too). A statement '..UptoSaid' is the law's where the arguments, and the package variables that the reading takes, are together of bulk at most 1048576: NARROWER than '..Said'. Prove '..Said' where nothing that the law and all that it calls make is longer than what came in: it says more and counts as full. Else prove '..UptoSaid'. A law counts once. -/
mutual
def uptoBulk {H : Type} : DataW H → Nat
  | .lit (.string bytes) => bytes.length + 1
  | .lit _ => 1
  | .nil => 1
  | .ptr d => uptoBulk d + 1
  | .slice elems spare => uptoBulkAll elems + uptoBulkAll spare + 1
  | .agg parts => uptoBulkAll parts + 1
  | .iface _ d => uptoBulk d + 1
  | .map entries => uptoBulkEntries entries + 1
  | .held _ => 1
def uptoBulkAll {H : Type} : List (DataW H) → Nat
  | [] => 0
  | d :: r => uptoBulk d + uptoBulkAll r
def uptoBulkEntries {H : Type} : List (Lit × DataW H) → Nat
  | [] => 0
  | x :: r => uptoBulkEntry x + uptoBulkEntries r
def uptoBulkEntry {H : Type} : Lit × DataW H → Nat
  | (.string bytes, d) => bytes.length + uptoBulk d + 1
  | (_, d) => uptoBulk d + 1
 end
def uptoSmall : (H : Type) → List (DataW H) → Bool := fun _ ds => decide (uptoBulkAll ds ≤ 1048576)
def OpenSpec.upto (s : _root_.Go.ChangeSpec) : _root_.Go.OpenSpec := { _root_.Go.OpenSpec.ofChange s with cond := some uptoSmall }

/-- 'monoclelaw11.SurfaceEven', WHERE WHAT IT READS IS OF BULK AT MOST 1048576: true; the input reads as it did. -/
def surfaceEvenUptoRow : OpenClaim := { program := "ytfjhmdedhflpbabgreatdoor", sum := "dc9a39ce3ec9e97ba88773cb6448f7dd75536e5154ade156e7207b31bd02c7c0", func := "monocle/monoclelaw11.SurfaceEven", spec := "surfaceEven", inPlace := ["math/bits.Add64"], unfollowed := true, recurses := true, named := ["monocle/surface.one", "math/bits.divideError", "math/bits.overflowError", "monocle/surface.places"], apart := false, laid := [("monocle/surface.one", laid_monocle_surface_one), ("monocle/surface.places", laid_monocle_surface_places)], narrowed := true }
def SurfaceEvenUptoSaid : Prop := surfaceEvenUptoRow.holds Tryz.pinned (OpenSpec.upto surfaceEvenSpec)

/-- 'monoclelaw11.SurfaceWithin', WHERE WHAT IT READS IS OF BULK AT MOST 1048576: true; the input reads as it did. -/
def surfaceWithinUptoRow : OpenClaim := { program := "ytfjhmdedhflpbabgreatdoor", sum := "dc9a39ce3ec9e97ba88773cb6448f7dd75536e5154ade156e7207b31bd02c7c0", func := "monocle/monoclelaw11.SurfaceWithin", spec := "surfaceWithin", inPlace := ["math/bits.Add64"], unfollowed := true, recurses := true, named := ["monocle/surface.one", "math/bits.divideError", "math/bits.overflowError", "monocle/surface.places"], apart := false, laid := [("monocle/surface.one", laid_monocle_surface_one), ("monocle/surface.places", laid_monocle_surface_places)], narrowed := true }
def SurfaceWithinUptoSaid : Prop := surfaceWithinUptoRow.holds Tryz.pinned (OpenSpec.upto surfaceWithinSpec)

/-- 'monoclelaw11.SurfaceRound', WHERE WHAT IT READS IS OF BULK AT MOST 1048576: true; the input reads as it did. -/
def surfaceRoundUptoRow : OpenClaim := { program := "ytfjhmdedhflpbabgreatdoor", sum := "dc9a39ce3ec9e97ba88773cb6448f7dd75536e5154ade156e7207b31bd02c7c0", func := "monocle/monoclelaw11.SurfaceRound", spec := "surfaceRound", inPlace := ["math/bits.Add64"], unfollowed := true, recurses := true, named := ["monocle/surface.one", "math/bits.divideError", "math/bits.overflowError", "monocle/surface.places"], apart := false, laid := [("monocle/surface.one", laid_monocle_surface_one), ("monocle/surface.places", laid_monocle_surface_places)], narrowed := true }
def SurfaceRoundUptoSaid : Prop := surfaceRoundUptoRow.holds Tryz.pinned (OpenSpec.upto surfaceRoundSpec)

/-- 'monoclelaw11.SurfaceSets', WHERE WHAT IT READS IS OF BULK AT MOST 1048576: true; the input reads as it did. -/
def surfaceSetsUptoRow : OpenClaim := { program := "ytfjhmdedhflpbabgreatdoor", sum := "dc9a39ce3ec9e97ba88773cb6448f7dd75536e5154ade156e7207b31bd02c7c0", func := "monocle/monoclelaw11.SurfaceSets", spec := "surfaceSets", inPlace := ["math/bits.Add64"], unfollowed := true, recurses := true, named := ["monocle/surface.one", "math/bits.divideError", "math/bits.overflowError", "monocle/surface.places"], apart := false, laid := [("monocle/surface.one", laid_monocle_surface_one), ("monocle/surface.places", laid_monocle_surface_places)], narrowed := true }
def SurfaceSetsUptoSaid : Prop := surfaceSetsUptoRow.holds Tryz.pinned (OpenSpec.upto surfaceSetsSpec)

/-- 'monoclelaw11.SurfaceKnown', WHERE WHAT IT READS IS OF BULK AT MOST 1048576: true; the input reads as it did. -/
def surfaceKnownUptoRow : OpenClaim := { program := "ytfjhmdedhflpbabgreatdoor", sum := "dc9a39ce3ec9e97ba88773cb6448f7dd75536e5154ade156e7207b31bd02c7c0", func := "monocle/monoclelaw11.SurfaceKnown", spec := "surfaceKnown", inPlace := ["math/bits.Add64"], unfollowed := true, recurses := true, named := ["monocle/surface.one", "math/bits.divideError", "math/bits.overflowError", "monocle/surface.places"], apart := false, laid := [("monocle/surface.one", laid_monocle_surface_one), ("monocle/surface.places", laid_monocle_surface_places)], narrowed := true }
def SurfaceKnownUptoSaid : Prop := surfaceKnownUptoRow.holds Tryz.pinned (OpenSpec.upto surfaceKnownSpec)

end Rows
end Go.Proofs.YtfjhmdedhflpbabGreatDoor
