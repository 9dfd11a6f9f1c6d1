/-
  DERIVED. GIVEN WITH THE SEED: THE CARDS: each row of YtefmckneohhijaaGreatDoorRows.lean that lists a variable, with what it lists TIED to the program's text (the seventh form; the later family's looks); each row that meets fmt, with fmt's text TOLD by the authors' own Lean function (tested against real Go, not proved from fmt's source: count such statements apart). THE CARD IS WHAT COUNTS. Prove the row's statement (the work); the ties are given (YtefmckneohhijaaGreatDoorTie.lean); close each card by the builder's one call (the guide's Derived/Test/ToyasCard.lean, 'card_holds'). Laid BY PROGRAM, IN A SANDBOX (cutbox-door.mjs). By AI agents, Wed Nov 11 2026. No macro, syntax, notation, axiom, sorry.
-/
import Derived.Test.YtefmckneohhijaaGreatDoorRows
import GoSem.ClaimSeven
namespace Go.Proofs.YtefmckneohhijaaGreatDoor
namespace Rows

/-- THE TIED CARD OF 'monoclelaw25.HitSlides'. -/
def hitSlidesCard : Claim7 := { stood := { row := hitSlidesRow, standIns := [], harness := (true, "e6f3803f4fbbb801afad27692e0f8d7578ffaa6bb9efd07091a248bdbf41cf4a"), looks := true }, kinds := [], alts := [], laidByText := true, laidKinds := [.data, .data], laidTests := true, laidLooks := .later }
def HitSlidesCardSaid : Prop := Claim7.holds Tryz.pinned (.plain (OpenSpec.ofChange hitSlidesSpec)) hitSlidesCard

/-- THE TIED CARD OF 'monoclelaw25.HitKnown'. -/
def hitKnownCard : Claim7 := { stood := { row := hitKnownRow, standIns := [], harness := (true, "e6f3803f4fbbb801afad27692e0f8d7578ffaa6bb9efd07091a248bdbf41cf4a"), looks := true }, kinds := [], alts := [], laidByText := true, laidKinds := [.data, .data], laidTests := true, laidLooks := .later }
def HitKnownCardSaid : Prop := Claim7.holds Tryz.pinned (.plain (OpenSpec.ofChange hitKnownSpec)) hitKnownCard

/-- THE TIED CARD OF 'monoclelaw26.BendNormals'. -/
def bendNormalsCard : Claim7 := { stood := { row := bendNormalsRow, standIns := [], harness := (true, "e6f3803f4fbbb801afad27692e0f8d7578ffaa6bb9efd07091a248bdbf41cf4a"), looks := true }, kinds := [], alts := [], laidByText := true, laidKinds := [.data, .data], laidTests := true, laidLooks := .later }
def BendNormalsCardSaid : Prop := Claim7.holds Tryz.pinned (.plain (OpenSpec.ofChange bendNormalsSpec)) bendNormalsCard

/-- THE TIED CARD OF 'monoclelaw26.BendBends'. -/
def bendBendsCard : Claim7 := { stood := { row := bendBendsRow, standIns := [], harness := (true, "e6f3803f4fbbb801afad27692e0f8d7578ffaa6bb9efd07091a248bdbf41cf4a"), looks := true }, kinds := [], alts := [], laidByText := true, laidKinds := [.data, .data], laidTests := true, laidLooks := .later }
def BendBendsCardSaid : Prop := Claim7.holds Tryz.pinned (.plain (OpenSpec.ofChange bendBendsSpec)) bendBendsCard

/-- THE TIED CARD OF 'monoclelaw26.BendSnell'. -/
def bendSnellCard : Claim7 := { stood := { row := bendSnellRow, standIns := [], harness := (true, "e6f3803f4fbbb801afad27692e0f8d7578ffaa6bb9efd07091a248bdbf41cf4a"), looks := true }, kinds := [], alts := [], laidByText := true, laidKinds := [.data], laidTests := true, laidLooks := .later }
def BendSnellCardSaid : Prop := Claim7.holds Tryz.pinned (.plain (OpenSpec.ofChange bendSnellSpec)) bendSnellCard

/-- THE TIED CARD OF 'monoclelaw26.BendBack'. -/
def bendBackCard : Claim7 := { stood := { row := bendBackRow, standIns := [], harness := (true, "e6f3803f4fbbb801afad27692e0f8d7578ffaa6bb9efd07091a248bdbf41cf4a"), looks := true }, kinds := [], alts := [], laidByText := true, laidKinds := [.data], laidTests := true, laidLooks := .later }
def BendBackCardSaid : Prop := Claim7.holds Tryz.pinned (.plain (OpenSpec.ofChange bendBackSpec)) bendBackCard

/-- THE TIED CARD OF 'monoclelaw26.BendKeeps'. -/
def bendKeepsCard : Claim7 := { stood := { row := bendKeepsRow, standIns := [], harness := (true, "e6f3803f4fbbb801afad27692e0f8d7578ffaa6bb9efd07091a248bdbf41cf4a"), looks := true }, kinds := [], alts := [], laidByText := true, laidKinds := [.data], laidTests := true, laidLooks := .later }
def BendKeepsCardSaid : Prop := Claim7.holds Tryz.pinned (.plain (OpenSpec.ofChange bendKeepsSpec)) bendKeepsCard

/-- THE TIED CARD OF 'monoclelaw26.BendOrders'. -/
def bendOrdersCard : Claim7 := { stood := { row := bendOrdersRow, standIns := [], harness := (true, "e6f3803f4fbbb801afad27692e0f8d7578ffaa6bb9efd07091a248bdbf41cf4a"), looks := true }, kinds := [], alts := [], laidByText := true, laidKinds := [.data], laidTests := true, laidLooks := .later }
def BendOrdersCardSaid : Prop := Claim7.holds Tryz.pinned (.plain (OpenSpec.ofChange bendOrdersSpec)) bendOrdersCard

/-- THE TIED CARD OF 'monoclelaw26.BendKnown'. -/
def bendKnownCard : Claim7 := { stood := { row := bendKnownRow, standIns := [], harness := (true, "e6f3803f4fbbb801afad27692e0f8d7578ffaa6bb9efd07091a248bdbf41cf4a"), looks := true }, kinds := [], alts := [], laidByText := true, laidKinds := [.data], laidTests := true, laidLooks := .later }
def BendKnownCardSaid : Prop := Claim7.holds Tryz.pinned (.plain (OpenSpec.ofChange bendKnownSpec)) bendKnownCard

/-- THE TIED CARD OF 'monoclelaw25.HitFar'. -/
def hitFarCard : Claim7 := { stood := { row := hitFarRow, standIns := [], harness := (true, "e6f3803f4fbbb801afad27692e0f8d7578ffaa6bb9efd07091a248bdbf41cf4a"), looks := true }, kinds := [], alts := [], laidByText := true, laidKinds := [.data, .data, .data], laidTests := true, laidLooks := .later }
def HitFarCardSaid : Prop := Claim7.holds Tryz.pinned (.plain (OpenSpec.ofChange hitFarSpec)) hitFarCard

/-- THE TIED CARD OF 'monoclelaw25.HitLies'. -/
def hitLiesCard : Claim7 := { stood := { row := hitLiesRow, standIns := [], harness := (true, "e6f3803f4fbbb801afad27692e0f8d7578ffaa6bb9efd07091a248bdbf41cf4a"), looks := true }, kinds := [], alts := [], laidByText := true, laidKinds := [.data, .data, .data], laidTests := true, laidLooks := .later }
def HitLiesCardSaid : Prop := Claim7.holds Tryz.pinned (.plain (OpenSpec.ofChange hitLiesSpec)) hitLiesCard

/-- THE TIED CARD OF 'monoclelaw25.HitMirrors'. -/
def hitMirrorsCard : Claim7 := { stood := { row := hitMirrorsRow, standIns := [], harness := (true, "e6f3803f4fbbb801afad27692e0f8d7578ffaa6bb9efd07091a248bdbf41cf4a"), looks := true }, kinds := [], alts := [], laidByText := true, laidKinds := [.data, .data], laidTests := true, laidLooks := .later }
def HitMirrorsCardSaid : Prop := Claim7.holds Tryz.pinned (.plain (OpenSpec.ofChange hitMirrorsSpec)) hitMirrorsCard

/-- THE TIED CARD OF 'monoclelaw25.HitTurns'. -/
def hitTurnsCard : Claim7 := { stood := { row := hitTurnsRow, standIns := [], harness := (true, "e6f3803f4fbbb801afad27692e0f8d7578ffaa6bb9efd07091a248bdbf41cf4a"), looks := true }, kinds := [], alts := [], laidByText := true, laidKinds := [.data, .data], laidTests := true, laidLooks := .later }
def HitTurnsCardSaid : Prop := Claim7.holds Tryz.pinned (.plain (OpenSpec.ofChange hitTurnsSpec)) hitTurnsCard

/-- THE SECOND FORM's CARD OF 'monoclelaw25.HitSlides'. -/
def hitSlidesUptoCard : Claim7 := { stood := { row := hitSlidesUptoRow, standIns := [], harness := (true, "e6f3803f4fbbb801afad27692e0f8d7578ffaa6bb9efd07091a248bdbf41cf4a"), looks := true }, kinds := [], alts := [], laidByText := true, laidKinds := [.data, .data], laidTests := true, laidLooks := .later }
def HitSlidesUptoCardSaid : Prop := Claim7.holds Tryz.pinned (.plain (OpenSpec.upto hitSlidesSpec)) hitSlidesUptoCard

/-- THE SECOND FORM's CARD OF 'monoclelaw25.HitKnown'. -/
def hitKnownUptoCard : Claim7 := { stood := { row := hitKnownUptoRow, standIns := [], harness := (true, "e6f3803f4fbbb801afad27692e0f8d7578ffaa6bb9efd07091a248bdbf41cf4a"), looks := true }, kinds := [], alts := [], laidByText := true, laidKinds := [.data, .data], laidTests := true, laidLooks := .later }
def HitKnownUptoCardSaid : Prop := Claim7.holds Tryz.pinned (.plain (OpenSpec.upto hitKnownSpec)) hitKnownUptoCard

/-- THE SECOND FORM's CARD OF 'monoclelaw26.BendNormals'. -/
def bendNormalsUptoCard : Claim7 := { stood := { row := bendNormalsUptoRow, standIns := [], harness := (true, "e6f3803f4fbbb801afad27692e0f8d7578ffaa6bb9efd07091a248bdbf41cf4a"), looks := true }, kinds := [], alts := [], laidByText := true, laidKinds := [.data, .data], laidTests := true, laidLooks := .later }
def BendNormalsUptoCardSaid : Prop := Claim7.holds Tryz.pinned (.plain (OpenSpec.upto bendNormalsSpec)) bendNormalsUptoCard

/-- THE SECOND FORM's CARD OF 'monoclelaw26.BendBends'. -/
def bendBendsUptoCard : Claim7 := { stood := { row := bendBendsUptoRow, standIns := [], harness := (true, "e6f3803f4fbbb801afad27692e0f8d7578ffaa6bb9efd07091a248bdbf41cf4a"), looks := true }, kinds := [], alts := [], laidByText := true, laidKinds := [.data, .data], laidTests := true, laidLooks := .later }
def BendBendsUptoCardSaid : Prop := Claim7.holds Tryz.pinned (.plain (OpenSpec.upto bendBendsSpec)) bendBendsUptoCard

/-- THE SECOND FORM's CARD OF 'monoclelaw26.BendSnell'. -/
def bendSnellUptoCard : Claim7 := { stood := { row := bendSnellUptoRow, standIns := [], harness := (true, "e6f3803f4fbbb801afad27692e0f8d7578ffaa6bb9efd07091a248bdbf41cf4a"), looks := true }, kinds := [], alts := [], laidByText := true, laidKinds := [.data], laidTests := true, laidLooks := .later }
def BendSnellUptoCardSaid : Prop := Claim7.holds Tryz.pinned (.plain (OpenSpec.upto bendSnellSpec)) bendSnellUptoCard

/-- THE SECOND FORM's CARD OF 'monoclelaw26.BendBack'. -/
def bendBackUptoCard : Claim7 := { stood := { row := bendBackUptoRow, standIns := [], harness := (true, "e6f3803f4fbbb801afad27692e0f8d7578ffaa6bb9efd07091a248bdbf41cf4a"), looks := true }, kinds := [], alts := [], laidByText := true, laidKinds := [.data], laidTests := true, laidLooks := .later }
def BendBackUptoCardSaid : Prop := Claim7.holds Tryz.pinned (.plain (OpenSpec.upto bendBackSpec)) bendBackUptoCard

/-- THE SECOND FORM's CARD OF 'monoclelaw26.BendKeeps'. -/
def bendKeepsUptoCard : Claim7 := { stood := { row := bendKeepsUptoRow, standIns := [], harness := (true, "e6f3803f4fbbb801afad27692e0f8d7578ffaa6bb9efd07091a248bdbf41cf4a"), looks := true }, kinds := [], alts := [], laidByText := true, laidKinds := [.data], laidTests := true, laidLooks := .later }
def BendKeepsUptoCardSaid : Prop := Claim7.holds Tryz.pinned (.plain (OpenSpec.upto bendKeepsSpec)) bendKeepsUptoCard

/-- THE SECOND FORM's CARD OF 'monoclelaw26.BendOrders'. -/
def bendOrdersUptoCard : Claim7 := { stood := { row := bendOrdersUptoRow, standIns := [], harness := (true, "e6f3803f4fbbb801afad27692e0f8d7578ffaa6bb9efd07091a248bdbf41cf4a"), looks := true }, kinds := [], alts := [], laidByText := true, laidKinds := [.data], laidTests := true, laidLooks := .later }
def BendOrdersUptoCardSaid : Prop := Claim7.holds Tryz.pinned (.plain (OpenSpec.upto bendOrdersSpec)) bendOrdersUptoCard

/-- THE SECOND FORM's CARD OF 'monoclelaw26.BendKnown'. -/
def bendKnownUptoCard : Claim7 := { stood := { row := bendKnownUptoRow, standIns := [], harness := (true, "e6f3803f4fbbb801afad27692e0f8d7578ffaa6bb9efd07091a248bdbf41cf4a"), looks := true }, kinds := [], alts := [], laidByText := true, laidKinds := [.data], laidTests := true, laidLooks := .later }
def BendKnownUptoCardSaid : Prop := Claim7.holds Tryz.pinned (.plain (OpenSpec.upto bendKnownSpec)) bendKnownUptoCard

/-- THE SECOND FORM's CARD OF 'monoclelaw25.HitFar'. -/
def hitFarUptoCard : Claim7 := { stood := { row := hitFarUptoRow, standIns := [], harness := (true, "e6f3803f4fbbb801afad27692e0f8d7578ffaa6bb9efd07091a248bdbf41cf4a"), looks := true }, kinds := [], alts := [], laidByText := true, laidKinds := [.data, .data, .data], laidTests := true, laidLooks := .later }
def HitFarUptoCardSaid : Prop := Claim7.holds Tryz.pinned (.plain (OpenSpec.upto hitFarSpec)) hitFarUptoCard

/-- THE SECOND FORM's CARD OF 'monoclelaw25.HitLies'. -/
def hitLiesUptoCard : Claim7 := { stood := { row := hitLiesUptoRow, standIns := [], harness := (true, "e6f3803f4fbbb801afad27692e0f8d7578ffaa6bb9efd07091a248bdbf41cf4a"), looks := true }, kinds := [], alts := [], laidByText := true, laidKinds := [.data, .data, .data], laidTests := true, laidLooks := .later }
def HitLiesUptoCardSaid : Prop := Claim7.holds Tryz.pinned (.plain (OpenSpec.upto hitLiesSpec)) hitLiesUptoCard

/-- THE SECOND FORM's CARD OF 'monoclelaw25.HitMirrors'. -/
def hitMirrorsUptoCard : Claim7 := { stood := { row := hitMirrorsUptoRow, standIns := [], harness := (true, "e6f3803f4fbbb801afad27692e0f8d7578ffaa6bb9efd07091a248bdbf41cf4a"), looks := true }, kinds := [], alts := [], laidByText := true, laidKinds := [.data, .data], laidTests := true, laidLooks := .later }
def HitMirrorsUptoCardSaid : Prop := Claim7.holds Tryz.pinned (.plain (OpenSpec.upto hitMirrorsSpec)) hitMirrorsUptoCard

/-- THE SECOND FORM's CARD OF 'monoclelaw25.HitTurns'. -/
def hitTurnsUptoCard : Claim7 := { stood := { row := hitTurnsUptoRow, standIns := [], harness := (true, "e6f3803f4fbbb801afad27692e0f8d7578ffaa6bb9efd07091a248bdbf41cf4a"), looks := true }, kinds := [], alts := [], laidByText := true, laidKinds := [.data, .data], laidTests := true, laidLooks := .later }
def HitTurnsUptoCardSaid : Prop := Claim7.holds Tryz.pinned (.plain (OpenSpec.upto hitTurnsSpec)) hitTurnsUptoCard
end Rows
end Go.Proofs.YtefmckneohhijaaGreatDoor
