/-
  NARROWER THAN 'FOR EVERY INPUT', by the rows' own cells (each row's printed sentence says how): HitSlides: laid · HitKnown: laid · BendNormals: laid · BendBends: laid · BendSnell: laid · BendBack: laid · BendKeeps: laid · BendOrders: laid · BendKnown: laid · HitFar: laid · HitLies: laid · HitMirrors: laid · HitTurns: laid.
  DERIVED. THE GIVEN ROWS OF THIS SEAT. 13 by the template 'for every input the law returns true; each argument reads behind the call as it read before'; 0 by the template 'total and deterministic' (their statements: YtefmckneohhijaaGreatDoorTotals.lean).
  GIVEN WITH THE SEED: the statements are not yours to turn. If you find one false, say at which input.
  Laid BY PROGRAM, IN A SANDBOX (cutbox-rows.mjs): the forced cells as the released guide's own fill.sh prints them over the translation 938e13592f257cab… (all of the seat's roots in one cut). By AI agents, Wed Nov 11 2026. No macro, syntax, notation, axiom, sorry.
-/
import Derived.Test.YtefmckneohhijaaGreatDoorChecked
import GoSem.Claim
import GoSem.ClaimJoined
import GoSem.ClaimMapViews
import Derived.JoinedTies
import Derived.KernelRfl
namespace Go.Proofs.YtefmckneohhijaaGreatDoor
/- THE CELL 'sum', in the pinned program and in every row, IS THE sha256 OF THE DUMP (.gsa) THAT YtefmckneohhijaaGreatDoorProg.lean LOADS. Nothing in Lean hashes anything: it is a label: what it is worth is what the hold of that sum in a sandbox is worth. -/
noncomputable def Tryz.pinned : Pinned := { name := "ytefmckneohhijaagreatdoor", sum := "938e13592f257cab714466fd4e9b755904a9f6894e840e60f7cf1a19a058c6ac", checked := Tryz.checked }
namespace Rows
def none {H : Type} : Left H := { results := [], args := [] }

/- WHAT THE LISTED PACKAGE-LEVEL VARIABLES READ AS WHEN THE CALL BEGINS. Each datum BY PROGRAM (the guide's laid-datum.mjs) off the statement by which the dump's own 'gosem.cut.vars' lays the variable. In a bare row this is a premise. The card (YtefmckneohhijaaGreatDoorCards.lean) ties it to the program's text. -/
def laid_monocle_surface_one {H : Type} : DataW H := .agg [.lit (.int .i64 4294967296), .lit (.int .i64 4294967296)]
def laid_monocle_hit_widths {H : Type} : DataW H := .agg [.lit (.int .i64 1048576), .lit (.int .i64 67108864), .lit (.int .i64 2147483648), .lit (.int .i64 34359738368)]
def laid_monocle_monocleref11_bad {H : Type} : DataW H := .agg [.lit (.int .i64 1), .lit (.int .i64 0)]

/-- 'monoclelaw25.HitSlides': WHATEVER THE INPUT: true; the input reads as it did. -/
def hitSlidesSpec : ChangeSpec := { name := "hitSlides", fn := fun _ => fun
  | [d1, d2, d3] => { results := [.lit (.bool true)], args := [d1, d2, d3] }
  | _ => none }
def hitSlidesRow : OpenClaim := { program := "ytefmckneohhijaagreatdoor", sum := "938e13592f257cab714466fd4e9b755904a9f6894e840e60f7cf1a19a058c6ac", func := "monocle/monoclelaw25.HitSlides", spec := "hitSlides", inPlace := ["math/bits.Add64"], unfollowed := true, recurses := true, named := ["math/bits.divideError", "math/bits.overflowError", "monocle/hit.widths", "monocle/surface.one"], apart := false, laid := [("monocle/surface.one", laid_monocle_surface_one), ("monocle/hit.widths", laid_monocle_hit_widths)] }
def HitSlidesSaid : Prop := hitSlidesRow.holds Tryz.pinned (OpenSpec.ofChange hitSlidesSpec)

/-- ITS FALSE NEIGHBOUR: 'it returns false'. Refute it at one input. -/
def hitSlidesWrong : ChangeSpec := { name := "hitSlides", fn := fun _ => fun
  | [d1, d2, d3] => { results := [.lit (.bool false)], args := [d1, d2, d3] }
  | _ => none }
def HitSlidesWrongFalsely : Prop := hitSlidesRow.holds Tryz.pinned (OpenSpec.ofChange hitSlidesWrong)

/-- 'monoclelaw25.HitKnown': WHATEVER THE INPUT: true; the input reads as it did. -/
def hitKnownSpec : ChangeSpec := { name := "hitKnown", fn := fun _ => fun
  | [] => { results := [.lit (.bool true)], args := [] }
  | _ => none }
def hitKnownRow : OpenClaim := { program := "ytefmckneohhijaagreatdoor", sum := "938e13592f257cab714466fd4e9b755904a9f6894e840e60f7cf1a19a058c6ac", func := "monocle/monoclelaw25.HitKnown", spec := "hitKnown", inPlace := ["math/bits.Add64"], unfollowed := true, recurses := true, named := ["math/bits.divideError", "math/bits.overflowError", "monocle/hit.widths", "monocle/surface.one"], apart := false, laid := [("monocle/surface.one", laid_monocle_surface_one), ("monocle/hit.widths", laid_monocle_hit_widths)] }
def HitKnownSaid : Prop := hitKnownRow.holds Tryz.pinned (OpenSpec.ofChange hitKnownSpec)

/-- ITS FALSE NEIGHBOUR: 'it returns false'. Refute it at one input. -/
def hitKnownWrong : ChangeSpec := { name := "hitKnown", fn := fun _ => fun
  | [] => { results := [.lit (.bool false)], args := [] }
  | _ => none }
def HitKnownWrongFalsely : Prop := hitKnownRow.holds Tryz.pinned (OpenSpec.ofChange hitKnownWrong)

/-- 'monoclelaw26.BendNormals': WHATEVER THE INPUT: true; the input reads as it did. -/
def bendNormalsSpec : ChangeSpec := { name := "bendNormals", fn := fun _ => fun
  | [d1, d2, d3, d4] => { results := [.lit (.bool true)], args := [d1, d2, d3, d4] }
  | _ => none }
def bendNormalsRow : OpenClaim := { program := "ytefmckneohhijaagreatdoor", sum := "938e13592f257cab714466fd4e9b755904a9f6894e840e60f7cf1a19a058c6ac", func := "monocle/monoclelaw26.BendNormals", spec := "bendNormals", inPlace := ["math/bits.Add64"], unfollowed := true, recurses := true, named := ["monocle/surface.one", "math/bits.divideError", "math/bits.overflowError", "monocle/monocleref11.bad"], apart := false, laid := [("monocle/monocleref11.bad", laid_monocle_monocleref11_bad), ("monocle/surface.one", laid_monocle_surface_one)] }
def BendNormalsSaid : Prop := bendNormalsRow.holds Tryz.pinned (OpenSpec.ofChange bendNormalsSpec)

/-- ITS FALSE NEIGHBOUR: 'it returns false'. Refute it at one input. -/
def bendNormalsWrong : ChangeSpec := { name := "bendNormals", fn := fun _ => fun
  | [d1, d2, d3, d4] => { results := [.lit (.bool false)], args := [d1, d2, d3, d4] }
  | _ => none }
def BendNormalsWrongFalsely : Prop := bendNormalsRow.holds Tryz.pinned (OpenSpec.ofChange bendNormalsWrong)

/-- 'monoclelaw26.BendBends': WHATEVER THE INPUT: true; the input reads as it did. -/
def bendBendsSpec : ChangeSpec := { name := "bendBends", fn := fun _ => fun
  | [d1, d2, d3, d4, d5, d6] => { results := [.lit (.bool true)], args := [d1, d2, d3, d4, d5, d6] }
  | _ => none }
def bendBendsRow : OpenClaim := { program := "ytefmckneohhijaagreatdoor", sum := "938e13592f257cab714466fd4e9b755904a9f6894e840e60f7cf1a19a058c6ac", func := "monocle/monoclelaw26.BendBends", spec := "bendBends", inPlace := ["math/bits.Add64"], unfollowed := true, recurses := true, named := ["monocle/surface.one", "math/bits.divideError", "math/bits.overflowError", "monocle/monocleref11.bad"], apart := false, laid := [("monocle/monocleref11.bad", laid_monocle_monocleref11_bad), ("monocle/surface.one", laid_monocle_surface_one)] }
def BendBendsSaid : Prop := bendBendsRow.holds Tryz.pinned (OpenSpec.ofChange bendBendsSpec)

/-- ITS FALSE NEIGHBOUR: 'it returns false'. Refute it at one input. -/
def bendBendsWrong : ChangeSpec := { name := "bendBends", fn := fun _ => fun
  | [d1, d2, d3, d4, d5, d6] => { results := [.lit (.bool false)], args := [d1, d2, d3, d4, d5, d6] }
  | _ => none }
def BendBendsWrongFalsely : Prop := bendBendsRow.holds Tryz.pinned (OpenSpec.ofChange bendBendsWrong)

/-- 'monoclelaw26.BendSnell': WHATEVER THE INPUT: true; the input reads as it did. -/
def bendSnellSpec : ChangeSpec := { name := "bendSnell", fn := fun _ => fun
  | [d1, d2, d3] => { results := [.lit (.bool true)], args := [d1, d2, d3] }
  | _ => none }
def bendSnellRow : OpenClaim := { program := "ytefmckneohhijaagreatdoor", sum := "938e13592f257cab714466fd4e9b755904a9f6894e840e60f7cf1a19a058c6ac", func := "monocle/monoclelaw26.BendSnell", spec := "bendSnell", inPlace := ["math/bits.Add64"], unfollowed := true, recurses := true, named := ["monocle/surface.one", "math/bits.divideError", "math/bits.overflowError"], apart := false, laid := [("monocle/surface.one", laid_monocle_surface_one)] }
def BendSnellSaid : Prop := bendSnellRow.holds Tryz.pinned (OpenSpec.ofChange bendSnellSpec)

/-- ITS FALSE NEIGHBOUR: 'it returns false'. Refute it at one input. -/
def bendSnellWrong : ChangeSpec := { name := "bendSnell", fn := fun _ => fun
  | [d1, d2, d3] => { results := [.lit (.bool false)], args := [d1, d2, d3] }
  | _ => none }
def BendSnellWrongFalsely : Prop := bendSnellRow.holds Tryz.pinned (OpenSpec.ofChange bendSnellWrong)

/-- 'monoclelaw26.BendBack': WHATEVER THE INPUT: true; the input reads as it did. -/
def bendBackSpec : ChangeSpec := { name := "bendBack", fn := fun _ => fun
  | [d1, d2, d3] => { results := [.lit (.bool true)], args := [d1, d2, d3] }
  | _ => none }
def bendBackRow : OpenClaim := { program := "ytefmckneohhijaagreatdoor", sum := "938e13592f257cab714466fd4e9b755904a9f6894e840e60f7cf1a19a058c6ac", func := "monocle/monoclelaw26.BendBack", spec := "bendBack", inPlace := ["math/bits.Add64"], unfollowed := true, recurses := true, named := ["monocle/surface.one", "math/bits.divideError", "math/bits.overflowError"], apart := false, laid := [("monocle/surface.one", laid_monocle_surface_one)] }
def BendBackSaid : Prop := bendBackRow.holds Tryz.pinned (OpenSpec.ofChange bendBackSpec)

/-- ITS FALSE NEIGHBOUR: 'it returns false'. Refute it at one input. -/
def bendBackWrong : ChangeSpec := { name := "bendBack", fn := fun _ => fun
  | [d1, d2, d3] => { results := [.lit (.bool false)], args := [d1, d2, d3] }
  | _ => none }
def BendBackWrongFalsely : Prop := bendBackRow.holds Tryz.pinned (OpenSpec.ofChange bendBackWrong)

/-- 'monoclelaw26.BendKeeps': WHATEVER THE INPUT: true; the input reads as it did. -/
def bendKeepsSpec : ChangeSpec := { name := "bendKeeps", fn := fun _ => fun
  | [d1, d2, d3] => { results := [.lit (.bool true)], args := [d1, d2, d3] }
  | _ => none }
def bendKeepsRow : OpenClaim := { program := "ytefmckneohhijaagreatdoor", sum := "938e13592f257cab714466fd4e9b755904a9f6894e840e60f7cf1a19a058c6ac", func := "monocle/monoclelaw26.BendKeeps", spec := "bendKeeps", inPlace := ["math/bits.Add64"], unfollowed := true, recurses := true, named := ["monocle/surface.one", "math/bits.divideError", "math/bits.overflowError"], apart := false, laid := [("monocle/surface.one", laid_monocle_surface_one)] }
def BendKeepsSaid : Prop := bendKeepsRow.holds Tryz.pinned (OpenSpec.ofChange bendKeepsSpec)

/-- ITS FALSE NEIGHBOUR: 'it returns false'. Refute it at one input. -/
def bendKeepsWrong : ChangeSpec := { name := "bendKeeps", fn := fun _ => fun
  | [d1, d2, d3] => { results := [.lit (.bool false)], args := [d1, d2, d3] }
  | _ => none }
def BendKeepsWrongFalsely : Prop := bendKeepsRow.holds Tryz.pinned (OpenSpec.ofChange bendKeepsWrong)

/-- 'monoclelaw26.BendOrders': WHATEVER THE INPUT: true; the input reads as it did. -/
def bendOrdersSpec : ChangeSpec := { name := "bendOrders", fn := fun _ => fun
  | [d1, d2, d3] => { results := [.lit (.bool true)], args := [d1, d2, d3] }
  | _ => none }
def bendOrdersRow : OpenClaim := { program := "ytefmckneohhijaagreatdoor", sum := "938e13592f257cab714466fd4e9b755904a9f6894e840e60f7cf1a19a058c6ac", func := "monocle/monoclelaw26.BendOrders", spec := "bendOrders", inPlace := ["math/bits.Add64"], unfollowed := true, recurses := true, named := ["monocle/surface.one", "math/bits.divideError", "math/bits.overflowError"], apart := false, laid := [("monocle/surface.one", laid_monocle_surface_one)] }
def BendOrdersSaid : Prop := bendOrdersRow.holds Tryz.pinned (OpenSpec.ofChange bendOrdersSpec)

/-- ITS FALSE NEIGHBOUR: 'it returns false'. Refute it at one input. -/
def bendOrdersWrong : ChangeSpec := { name := "bendOrders", fn := fun _ => fun
  | [d1, d2, d3] => { results := [.lit (.bool false)], args := [d1, d2, d3] }
  | _ => none }
def BendOrdersWrongFalsely : Prop := bendOrdersRow.holds Tryz.pinned (OpenSpec.ofChange bendOrdersWrong)

/-- 'monoclelaw26.BendKnown': WHATEVER THE INPUT: true; the input reads as it did. -/
def bendKnownSpec : ChangeSpec := { name := "bendKnown", fn := fun _ => fun
  | [] => { results := [.lit (.bool true)], args := [] }
  | _ => none }
def bendKnownRow : OpenClaim := { program := "ytefmckneohhijaagreatdoor", sum := "938e13592f257cab714466fd4e9b755904a9f6894e840e60f7cf1a19a058c6ac", func := "monocle/monoclelaw26.BendKnown", spec := "bendKnown", inPlace := ["math/bits.Add64"], unfollowed := true, recurses := true, named := ["monocle/surface.one", "math/bits.divideError", "math/bits.overflowError"], apart := false, laid := [("monocle/surface.one", laid_monocle_surface_one)] }
def BendKnownSaid : Prop := bendKnownRow.holds Tryz.pinned (OpenSpec.ofChange bendKnownSpec)

/-- ITS FALSE NEIGHBOUR: 'it returns false'. Refute it at one input. -/
def bendKnownWrong : ChangeSpec := { name := "bendKnown", fn := fun _ => fun
  | [] => { results := [.lit (.bool false)], args := [] }
  | _ => none }
def BendKnownWrongFalsely : Prop := bendKnownRow.holds Tryz.pinned (OpenSpec.ofChange bendKnownWrong)

/-- 'monoclelaw25.HitFar': WHATEVER THE INPUT: true; the input reads as it did. -/
def hitFarSpec : ChangeSpec := { name := "hitFar", fn := fun _ => fun
  | [d1, d2, d3, d4, d5, d6] => { results := [.lit (.bool true)], args := [d1, d2, d3, d4, d5, d6] }
  | _ => none }
def hitFarRow : OpenClaim := { program := "ytefmckneohhijaagreatdoor", sum := "938e13592f257cab714466fd4e9b755904a9f6894e840e60f7cf1a19a058c6ac", func := "monocle/monoclelaw25.HitFar", spec := "hitFar", inPlace := ["math/bits.Add64"], unfollowed := true, recurses := true, named := ["math/bits.divideError", "math/bits.overflowError", "monocle/hit.widths", "monocle/surface.one", "monocle/monocleref11.bad"], apart := false, laid := [("monocle/monocleref11.bad", laid_monocle_monocleref11_bad), ("monocle/surface.one", laid_monocle_surface_one), ("monocle/hit.widths", laid_monocle_hit_widths)] }
def HitFarSaid : Prop := hitFarRow.holds Tryz.pinned (OpenSpec.ofChange hitFarSpec)

/-- ITS FALSE NEIGHBOUR: 'it returns false'. Refute it at one input. -/
def hitFarWrong : ChangeSpec := { name := "hitFar", fn := fun _ => fun
  | [d1, d2, d3, d4, d5, d6] => { results := [.lit (.bool false)], args := [d1, d2, d3, d4, d5, d6] }
  | _ => none }
def HitFarWrongFalsely : Prop := hitFarRow.holds Tryz.pinned (OpenSpec.ofChange hitFarWrong)

/-- 'monoclelaw25.HitLies': WHATEVER THE INPUT: true; the input reads as it did. -/
def hitLiesSpec : ChangeSpec := { name := "hitLies", fn := fun _ => fun
  | [d1, d2] => { results := [.lit (.bool true)], args := [d1, d2] }
  | _ => none }
def hitLiesRow : OpenClaim := { program := "ytefmckneohhijaagreatdoor", sum := "938e13592f257cab714466fd4e9b755904a9f6894e840e60f7cf1a19a058c6ac", func := "monocle/monoclelaw25.HitLies", spec := "hitLies", inPlace := ["math/bits.Add64"], unfollowed := true, recurses := true, named := ["math/bits.divideError", "math/bits.overflowError", "monocle/hit.widths", "monocle/surface.one", "monocle/monocleref11.bad"], apart := false, laid := [("monocle/monocleref11.bad", laid_monocle_monocleref11_bad), ("monocle/surface.one", laid_monocle_surface_one), ("monocle/hit.widths", laid_monocle_hit_widths)] }
def HitLiesSaid : Prop := hitLiesRow.holds Tryz.pinned (OpenSpec.ofChange hitLiesSpec)

/-- ITS FALSE NEIGHBOUR: 'it returns false'. Refute it at one input. -/
def hitLiesWrong : ChangeSpec := { name := "hitLies", fn := fun _ => fun
  | [d1, d2] => { results := [.lit (.bool false)], args := [d1, d2] }
  | _ => none }
def HitLiesWrongFalsely : Prop := hitLiesRow.holds Tryz.pinned (OpenSpec.ofChange hitLiesWrong)

/-- 'monoclelaw25.HitMirrors': WHATEVER THE INPUT: true; the input reads as it did. -/
def hitMirrorsSpec : ChangeSpec := { name := "hitMirrors", fn := fun _ => fun
  | [d1, d2, d3] => { results := [.lit (.bool true)], args := [d1, d2, d3] }
  | _ => none }
def hitMirrorsRow : OpenClaim := { program := "ytefmckneohhijaagreatdoor", sum := "938e13592f257cab714466fd4e9b755904a9f6894e840e60f7cf1a19a058c6ac", func := "monocle/monoclelaw25.HitMirrors", spec := "hitMirrors", inPlace := ["math/bits.Add64"], unfollowed := true, recurses := true, named := ["math/bits.divideError", "math/bits.overflowError", "monocle/hit.widths", "monocle/surface.one"], apart := false, laid := [("monocle/surface.one", laid_monocle_surface_one), ("monocle/hit.widths", laid_monocle_hit_widths)] }
def HitMirrorsSaid : Prop := hitMirrorsRow.holds Tryz.pinned (OpenSpec.ofChange hitMirrorsSpec)

/-- ITS FALSE NEIGHBOUR: 'it returns false'. Refute it at one input. -/
def hitMirrorsWrong : ChangeSpec := { name := "hitMirrors", fn := fun _ => fun
  | [d1, d2, d3] => { results := [.lit (.bool false)], args := [d1, d2, d3] }
  | _ => none }
def HitMirrorsWrongFalsely : Prop := hitMirrorsRow.holds Tryz.pinned (OpenSpec.ofChange hitMirrorsWrong)

/-- 'monoclelaw25.HitTurns': WHATEVER THE INPUT: true; the input reads as it did. -/
def hitTurnsSpec : ChangeSpec := { name := "hitTurns", fn := fun _ => fun
  | [d1, d2] => { results := [.lit (.bool true)], args := [d1, d2] }
  | _ => none }
def hitTurnsRow : OpenClaim := { program := "ytefmckneohhijaagreatdoor", sum := "938e13592f257cab714466fd4e9b755904a9f6894e840e60f7cf1a19a058c6ac", func := "monocle/monoclelaw25.HitTurns", spec := "hitTurns", inPlace := ["math/bits.Add64"], unfollowed := true, recurses := true, named := ["math/bits.divideError", "math/bits.overflowError", "monocle/hit.widths", "monocle/surface.one"], apart := false, laid := [("monocle/surface.one", laid_monocle_surface_one), ("monocle/hit.widths", laid_monocle_hit_widths)] }
def HitTurnsSaid : Prop := hitTurnsRow.holds Tryz.pinned (OpenSpec.ofChange hitTurnsSpec)

/-- ITS FALSE NEIGHBOUR: 'it returns false'. Refute it at one input. -/
def hitTurnsWrong : ChangeSpec := { name := "hitTurns", fn := fun _ => fun
  | [d1, d2] => { results := [.lit (.bool false)], args := [d1, d2] }
  | _ => none }
def HitTurnsWrongFalsely : Prop := hitTurnsRow.holds Tryz.pinned (OpenSpec.ofChange hitTurnsWrong)

/- THE SECOND FORM. 'bulk': how many values and letters a reading holds, each counted each time it is reached (what is shared counts as often as it is met; a slice's spare places count too). A statement '..UptoSaid' is the law's where the arguments, and the package variables that the reading takes, are together of bulk at most 1048576: NARROWER than '..Said'. Prove '..Said' where nothing that the law and all that it calls make is longer than what came in: it says more and counts as full. Else prove '..UptoSaid'. A law counts once. -/
mutual
def uptoBulk {H : Type} : DataW H → Nat
  | .lit (.string bytes) => bytes.length + 1
  | .lit _ => 1
  | .nil => 1
  | .ptr d => uptoBulk d + 1
  | .slice elems spare => uptoBulkAll elems + uptoBulkAll spare + 1
  | .agg parts => uptoBulkAll parts + 1
  | .iface _ d => uptoBulk d + 1
  | .map entries => uptoBulkEntries entries + 1
  | .held _ => 1
def uptoBulkAll {H : Type} : List (DataW H) → Nat
  | [] => 0
  | d :: r => uptoBulk d + uptoBulkAll r
def uptoBulkEntries {H : Type} : List (Lit × DataW H) → Nat
  | [] => 0
  | x :: r => uptoBulkEntry x + uptoBulkEntries r
def uptoBulkEntry {H : Type} : Lit × DataW H → Nat
  | (.string bytes, d) => bytes.length + uptoBulk d + 1
  | (_, d) => uptoBulk d + 1
 end
def uptoSmall : (H : Type) → List (DataW H) → Bool := fun _ ds => decide (uptoBulkAll ds ≤ 1048576)
def OpenSpec.upto (s : _root_.Go.ChangeSpec) : _root_.Go.OpenSpec := { _root_.Go.OpenSpec.ofChange s with cond := some uptoSmall }

/-- 'monoclelaw25.HitSlides', WHERE WHAT IT READS IS OF BULK AT MOST 1048576: true; the input reads as it did. -/
def hitSlidesUptoRow : OpenClaim := { program := "ytefmckneohhijaagreatdoor", sum := "938e13592f257cab714466fd4e9b755904a9f6894e840e60f7cf1a19a058c6ac", func := "monocle/monoclelaw25.HitSlides", spec := "hitSlides", inPlace := ["math/bits.Add64"], unfollowed := true, recurses := true, named := ["math/bits.divideError", "math/bits.overflowError", "monocle/hit.widths", "monocle/surface.one"], apart := false, laid := [("monocle/surface.one", laid_monocle_surface_one), ("monocle/hit.widths", laid_monocle_hit_widths)], narrowed := true }
def HitSlidesUptoSaid : Prop := hitSlidesUptoRow.holds Tryz.pinned (OpenSpec.upto hitSlidesSpec)

/-- 'monoclelaw25.HitKnown', WHERE WHAT IT READS IS OF BULK AT MOST 1048576: true; the input reads as it did. -/
def hitKnownUptoRow : OpenClaim := { program := "ytefmckneohhijaagreatdoor", sum := "938e13592f257cab714466fd4e9b755904a9f6894e840e60f7cf1a19a058c6ac", func := "monocle/monoclelaw25.HitKnown", spec := "hitKnown", inPlace := ["math/bits.Add64"], unfollowed := true, recurses := true, named := ["math/bits.divideError", "math/bits.overflowError", "monocle/hit.widths", "monocle/surface.one"], apart := false, laid := [("monocle/surface.one", laid_monocle_surface_one), ("monocle/hit.widths", laid_monocle_hit_widths)], narrowed := true }
def HitKnownUptoSaid : Prop := hitKnownUptoRow.holds Tryz.pinned (OpenSpec.upto hitKnownSpec)

/-- 'monoclelaw26.BendNormals', WHERE WHAT IT READS IS OF BULK AT MOST 1048576: true; the input reads as it did. -/
def bendNormalsUptoRow : OpenClaim := { program := "ytefmckneohhijaagreatdoor", sum := "938e13592f257cab714466fd4e9b755904a9f6894e840e60f7cf1a19a058c6ac", func := "monocle/monoclelaw26.BendNormals", spec := "bendNormals", inPlace := ["math/bits.Add64"], unfollowed := true, recurses := true, named := ["monocle/surface.one", "math/bits.divideError", "math/bits.overflowError", "monocle/monocleref11.bad"], apart := false, laid := [("monocle/monocleref11.bad", laid_monocle_monocleref11_bad), ("monocle/surface.one", laid_monocle_surface_one)], narrowed := true }
def BendNormalsUptoSaid : Prop := bendNormalsUptoRow.holds Tryz.pinned (OpenSpec.upto bendNormalsSpec)

/-- 'monoclelaw26.BendBends', WHERE WHAT IT READS IS OF BULK AT MOST 1048576: true; the input reads as it did. -/
def bendBendsUptoRow : OpenClaim := { program := "ytefmckneohhijaagreatdoor", sum := "938e13592f257cab714466fd4e9b755904a9f6894e840e60f7cf1a19a058c6ac", func := "monocle/monoclelaw26.BendBends", spec := "bendBends", inPlace := ["math/bits.Add64"], unfollowed := true, recurses := true, named := ["monocle/surface.one", "math/bits.divideError", "math/bits.overflowError", "monocle/monocleref11.bad"], apart := false, laid := [("monocle/monocleref11.bad", laid_monocle_monocleref11_bad), ("monocle/surface.one", laid_monocle_surface_one)], narrowed := true }
def BendBendsUptoSaid : Prop := bendBendsUptoRow.holds Tryz.pinned (OpenSpec.upto bendBendsSpec)

/-- 'monoclelaw26.BendSnell', WHERE WHAT IT READS IS OF BULK AT MOST 1048576: true; the input reads as it did. -/
def bendSnellUptoRow : OpenClaim := { program := "ytefmckneohhijaagreatdoor", sum := "938e13592f257cab714466fd4e9b755904a9f6894e840e60f7cf1a19a058c6ac", func := "monocle/monoclelaw26.BendSnell", spec := "bendSnell", inPlace := ["math/bits.Add64"], unfollowed := true, recurses := true, named := ["monocle/surface.one", "math/bits.divideError", "math/bits.overflowError"], apart := false, laid := [("monocle/surface.one", laid_monocle_surface_one)], narrowed := true }
def BendSnellUptoSaid : Prop := bendSnellUptoRow.holds Tryz.pinned (OpenSpec.upto bendSnellSpec)

/-- 'monoclelaw26.BendBack', WHERE WHAT IT READS IS OF BULK AT MOST 1048576: true; the input reads as it did. -/
def bendBackUptoRow : OpenClaim := { program := "ytefmckneohhijaagreatdoor", sum := "938e13592f257cab714466fd4e9b755904a9f6894e840e60f7cf1a19a058c6ac", func := "monocle/monoclelaw26.BendBack", spec := "bendBack", inPlace := ["math/bits.Add64"], unfollowed := true, recurses := true, named := ["monocle/surface.one", "math/bits.divideError", "math/bits.overflowError"], apart := false, laid := [("monocle/surface.one", laid_monocle_surface_one)], narrowed := true }
def BendBackUptoSaid : Prop := bendBackUptoRow.holds Tryz.pinned (OpenSpec.upto bendBackSpec)

/-- 'monoclelaw26.BendKeeps', WHERE WHAT IT READS IS OF BULK AT MOST 1048576: true; the input reads as it did. -/
def bendKeepsUptoRow : OpenClaim := { program := "ytefmckneohhijaagreatdoor", sum := "938e13592f257cab714466fd4e9b755904a9f6894e840e60f7cf1a19a058c6ac", func := "monocle/monoclelaw26.BendKeeps", spec := "bendKeeps", inPlace := ["math/bits.Add64"], unfollowed := true, recurses := true, named := ["monocle/surface.one", "math/bits.divideError", "math/bits.overflowError"], apart := false, laid := [("monocle/surface.one", laid_monocle_surface_one)], narrowed := true }
def BendKeepsUptoSaid : Prop := bendKeepsUptoRow.holds Tryz.pinned (OpenSpec.upto bendKeepsSpec)

/-- 'monoclelaw26.BendOrders', WHERE WHAT IT READS IS OF BULK AT MOST 1048576: true; the input reads as it did. -/
def bendOrdersUptoRow : OpenClaim := { program := "ytefmckneohhijaagreatdoor", sum := "938e13592f257cab714466fd4e9b755904a9f6894e840e60f7cf1a19a058c6ac", func := "monocle/monoclelaw26.BendOrders", spec := "bendOrders", inPlace := ["math/bits.Add64"], unfollowed := true, recurses := true, named := ["monocle/surface.one", "math/bits.divideError", "math/bits.overflowError"], apart := false, laid := [("monocle/surface.one", laid_monocle_surface_one)], narrowed := true }
def BendOrdersUptoSaid : Prop := bendOrdersUptoRow.holds Tryz.pinned (OpenSpec.upto bendOrdersSpec)

/-- 'monoclelaw26.BendKnown', WHERE WHAT IT READS IS OF BULK AT MOST 1048576: true; the input reads as it did. -/
def bendKnownUptoRow : OpenClaim := { program := "ytefmckneohhijaagreatdoor", sum := "938e13592f257cab714466fd4e9b755904a9f6894e840e60f7cf1a19a058c6ac", func := "monocle/monoclelaw26.BendKnown", spec := "bendKnown", inPlace := ["math/bits.Add64"], unfollowed := true, recurses := true, named := ["monocle/surface.one", "math/bits.divideError", "math/bits.overflowError"], apart := false, laid := [("monocle/surface.one", laid_monocle_surface_one)], narrowed := true }
def BendKnownUptoSaid : Prop := bendKnownUptoRow.holds Tryz.pinned (OpenSpec.upto bendKnownSpec)

/-- 'monoclelaw25.HitFar', WHERE WHAT IT READS IS OF BULK AT MOST 1048576: true; the input reads as it did. -/
def hitFarUptoRow : OpenClaim := { program := "ytefmckneohhijaagreatdoor", sum := "938e13592f257cab714466fd4e9b755904a9f6894e840e60f7cf1a19a058c6ac", func := "monocle/monoclelaw25.HitFar", spec := "hitFar", inPlace := ["math/bits.Add64"], unfollowed := true, recurses := true, named := ["math/bits.divideError", "math/bits.overflowError", "monocle/hit.widths", "monocle/surface.one", "monocle/monocleref11.bad"], apart := false, laid := [("monocle/monocleref11.bad", laid_monocle_monocleref11_bad), ("monocle/surface.one", laid_monocle_surface_one), ("monocle/hit.widths", laid_monocle_hit_widths)], narrowed := true }
def HitFarUptoSaid : Prop := hitFarUptoRow.holds Tryz.pinned (OpenSpec.upto hitFarSpec)

/-- 'monoclelaw25.HitLies', WHERE WHAT IT READS IS OF BULK AT MOST 1048576: true; the input reads as it did. -/
def hitLiesUptoRow : OpenClaim := { program := "ytefmckneohhijaagreatdoor", sum := "938e13592f257cab714466fd4e9b755904a9f6894e840e60f7cf1a19a058c6ac", func := "monocle/monoclelaw25.HitLies", spec := "hitLies", inPlace := ["math/bits.Add64"], unfollowed := true, recurses := true, named := ["math/bits.divideError", "math/bits.overflowError", "monocle/hit.widths", "monocle/surface.one", "monocle/monocleref11.bad"], apart := false, laid := [("monocle/monocleref11.bad", laid_monocle_monocleref11_bad), ("monocle/surface.one", laid_monocle_surface_one), ("monocle/hit.widths", laid_monocle_hit_widths)], narrowed := true }
def HitLiesUptoSaid : Prop := hitLiesUptoRow.holds Tryz.pinned (OpenSpec.upto hitLiesSpec)

/-- 'monoclelaw25.HitMirrors', WHERE WHAT IT READS IS OF BULK AT MOST 1048576: true; the input reads as it did. -/
def hitMirrorsUptoRow : OpenClaim := { program := "ytefmckneohhijaagreatdoor", sum := "938e13592f257cab714466fd4e9b755904a9f6894e840e60f7cf1a19a058c6ac", func := "monocle/monoclelaw25.HitMirrors", spec := "hitMirrors", inPlace := ["math/bits.Add64"], unfollowed := true, recurses := true, named := ["math/bits.divideError", "math/bits.overflowError", "monocle/hit.widths", "monocle/surface.one"], apart := false, laid := [("monocle/surface.one", laid_monocle_surface_one), ("monocle/hit.widths", laid_monocle_hit_widths)], narrowed := true }
def HitMirrorsUptoSaid : Prop := hitMirrorsUptoRow.holds Tryz.pinned (OpenSpec.upto hitMirrorsSpec)

/-- 'monoclelaw25.HitTurns', WHERE WHAT IT READS IS OF BULK AT MOST 1048576: true; the input reads as it did. -/
def hitTurnsUptoRow : OpenClaim := { program := "ytefmckneohhijaagreatdoor", sum := "938e13592f257cab714466fd4e9b755904a9f6894e840e60f7cf1a19a058c6ac", func := "monocle/monoclelaw25.HitTurns", spec := "hitTurns", inPlace := ["math/bits.Add64"], unfollowed := true, recurses := true, named := ["math/bits.divideError", "math/bits.overflowError", "monocle/hit.widths", "monocle/surface.one"], apart := false, laid := [("monocle/surface.one", laid_monocle_surface_one), ("monocle/hit.widths", laid_monocle_hit_widths)], narrowed := true }
def HitTurnsUptoSaid : Prop := hitTurnsUptoRow.holds Tryz.pinned (OpenSpec.upto hitTurnsSpec)

end Rows
end Go.Proofs.YtefmckneohhijaaGreatDoor
