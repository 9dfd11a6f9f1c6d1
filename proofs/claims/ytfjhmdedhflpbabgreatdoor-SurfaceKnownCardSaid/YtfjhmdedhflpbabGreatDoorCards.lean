/-
  DERIVED. GIVEN WITH THE SEED: THE CARDS: each row of YtfjhmdedhflpbabGreatDoorRows.lean that lists a variable, with what it lists TIED to the program's text (the seventh form; the later family's looks); each row that meets fmt, with fmt's text TOLD by the authors' own Lean function (tested against real Go, not proved from fmt's source: count such statements apart). THE CARD IS WHAT COUNTS. Prove the row's statement (the work); the ties are given (YtfjhmdedhflpbabGreatDoorTie.lean); close each card by the builder's one call (the guide's Derived/Test/ToyasCard.lean, 'card_holds'). Laid BY PROGRAM, IN A SANDBOX (cutbox-door.mjs). By AI agents, Wed Nov 11 2026. No macro, syntax, notation, axiom, sorry.
-/
import Derived.Test.YtfjhmdedhflpbabGreatDoorRows
import GoSem.ClaimSeven
namespace Go.Proofs.YtfjhmdedhflpbabGreatDoor
namespace Rows

/-- THE TIED CARD OF 'monoclelaw11.SurfaceEven'. -/
def surfaceEvenCard : Claim7 := { stood := { row := surfaceEvenRow, standIns := [], harness := (true, "46567e106ba2d1c0430aeb287a2387777c19a2ba5aee2d29b83ef1a26742eff8"), looks := false }, kinds := [], alts := [], laidByText := true, laidKinds := [.data, .mappedDeep], laidTests := true, laidLooks := .later }
def SurfaceEvenCardSaid : Prop := Claim7.holds Tryz.pinned (.plain (OpenSpec.ofChange surfaceEvenSpec)) surfaceEvenCard

/-- THE TIED CARD OF 'monoclelaw11.SurfaceWithin'. -/
def surfaceWithinCard : Claim7 := { stood := { row := surfaceWithinRow, standIns := [], harness := (true, "46567e106ba2d1c0430aeb287a2387777c19a2ba5aee2d29b83ef1a26742eff8"), looks := false }, kinds := [], alts := [], laidByText := true, laidKinds := [.data, .mappedDeep], laidTests := true, laidLooks := .later }
def SurfaceWithinCardSaid : Prop := Claim7.holds Tryz.pinned (.plain (OpenSpec.ofChange surfaceWithinSpec)) surfaceWithinCard

/-- THE TIED CARD OF 'monoclelaw11.SurfaceRound'. -/
def surfaceRoundCard : Claim7 := { stood := { row := surfaceRoundRow, standIns := [], harness := (true, "46567e106ba2d1c0430aeb287a2387777c19a2ba5aee2d29b83ef1a26742eff8"), looks := false }, kinds := [], alts := [], laidByText := true, laidKinds := [.data, .mappedDeep], laidTests := true, laidLooks := .later }
def SurfaceRoundCardSaid : Prop := Claim7.holds Tryz.pinned (.plain (OpenSpec.ofChange surfaceRoundSpec)) surfaceRoundCard

/-- THE TIED CARD OF 'monoclelaw11.SurfaceSets'. -/
def surfaceSetsCard : Claim7 := { stood := { row := surfaceSetsRow, standIns := [], harness := (true, "46567e106ba2d1c0430aeb287a2387777c19a2ba5aee2d29b83ef1a26742eff8"), looks := false }, kinds := [], alts := [], laidByText := true, laidKinds := [.data, .mappedDeep], laidTests := true, laidLooks := .later }
def SurfaceSetsCardSaid : Prop := Claim7.holds Tryz.pinned (.plain (OpenSpec.ofChange surfaceSetsSpec)) surfaceSetsCard

/-- THE TIED CARD OF 'monoclelaw11.SurfaceKnown'. -/
def surfaceKnownCard : Claim7 := { stood := { row := surfaceKnownRow, standIns := [], harness := (true, "46567e106ba2d1c0430aeb287a2387777c19a2ba5aee2d29b83ef1a26742eff8"), looks := false }, kinds := [], alts := [], laidByText := true, laidKinds := [.data, .mappedDeep], laidTests := true, laidLooks := .later }
def SurfaceKnownCardSaid : Prop := Claim7.holds Tryz.pinned (.plain (OpenSpec.ofChange surfaceKnownSpec)) surfaceKnownCard

/-- THE SECOND FORM's CARD OF 'monoclelaw11.SurfaceEven'. -/
def surfaceEvenUptoCard : Claim7 := { stood := { row := surfaceEvenUptoRow, standIns := [], harness := (true, "46567e106ba2d1c0430aeb287a2387777c19a2ba5aee2d29b83ef1a26742eff8"), looks := false }, kinds := [], alts := [], laidByText := true, laidKinds := [.data, .mappedDeep], laidTests := true, laidLooks := .later }
def SurfaceEvenUptoCardSaid : Prop := Claim7.holds Tryz.pinned (.plain (OpenSpec.upto surfaceEvenSpec)) surfaceEvenUptoCard

/-- THE SECOND FORM's CARD OF 'monoclelaw11.SurfaceWithin'. -/
def surfaceWithinUptoCard : Claim7 := { stood := { row := surfaceWithinUptoRow, standIns := [], harness := (true, "46567e106ba2d1c0430aeb287a2387777c19a2ba5aee2d29b83ef1a26742eff8"), looks := false }, kinds := [], alts := [], laidByText := true, laidKinds := [.data, .mappedDeep], laidTests := true, laidLooks := .later }
def SurfaceWithinUptoCardSaid : Prop := Claim7.holds Tryz.pinned (.plain (OpenSpec.upto surfaceWithinSpec)) surfaceWithinUptoCard

/-- THE SECOND FORM's CARD OF 'monoclelaw11.SurfaceRound'. -/
def surfaceRoundUptoCard : Claim7 := { stood := { row := surfaceRoundUptoRow, standIns := [], harness := (true, "46567e106ba2d1c0430aeb287a2387777c19a2ba5aee2d29b83ef1a26742eff8"), looks := false }, kinds := [], alts := [], laidByText := true, laidKinds := [.data, .mappedDeep], laidTests := true, laidLooks := .later }
def SurfaceRoundUptoCardSaid : Prop := Claim7.holds Tryz.pinned (.plain (OpenSpec.upto surfaceRoundSpec)) surfaceRoundUptoCard

/-- THE SECOND FORM's CARD OF 'monoclelaw11.SurfaceSets'. -/
def surfaceSetsUptoCard : Claim7 := { stood := { row := surfaceSetsUptoRow, standIns := [], harness := (true, "46567e106ba2d1c0430aeb287a2387777c19a2ba5aee2d29b83ef1a26742eff8"), looks := false }, kinds := [], alts := [], laidByText := true, laidKinds := [.data, .mappedDeep], laidTests := true, laidLooks := .later }
def SurfaceSetsUptoCardSaid : Prop := Claim7.holds Tryz.pinned (.plain (OpenSpec.upto surfaceSetsSpec)) surfaceSetsUptoCard

/-- THE SECOND FORM's CARD OF 'monoclelaw11.SurfaceKnown'. -/
def surfaceKnownUptoCard : Claim7 := { stood := { row := surfaceKnownUptoRow, standIns := [], harness := (true, "46567e106ba2d1c0430aeb287a2387777c19a2ba5aee2d29b83ef1a26742eff8"), looks := false }, kinds := [], alts := [], laidByText := true, laidKinds := [.data, .mappedDeep], laidTests := true, laidLooks := .later }
def SurfaceKnownUptoCardSaid : Prop := Claim7.holds Tryz.pinned (.plain (OpenSpec.upto surfaceKnownSpec)) surfaceKnownUptoCard
end Rows
end Go.Proofs.YtfjhmdedhflpbabGreatDoor
