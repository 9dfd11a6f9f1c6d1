/-
  DERIVED. GIVEN WITH THE SEED: THE PROGRAM's TIES (one call each: nine closed facts by the kernel) AND EACH ROW's TIE, after the 31st guide's Derived/Test/Toyas{Tie, Card}.lean. No idea stands in it: it is a product of the set-up. Laid BY PROGRAM, IN A SANDBOX (cutbox-door.mjs). By AI agents, Wed Nov 11 2026. No macro, syntax, notation, axiom, sorry.
-/
import Derived.Test.YtefmckneohhijaaGreatDoorRows
import Derived.LaidByTextLater
import Derived.SevenTiedAt
import Derived.LaidSub
import Derived.LaidOnce
namespace Go.Proofs.YtefmckneohhijaaGreatDoor
open Go
set_option maxRecDepth 100000
theorem seatTie1 : Tryz.prog.laidByTextLater [("monocle/monocleref11.bad", Rows.laid_monocle_monocleref11_bad), ("monocle/surface.one", Rows.laid_monocle_surface_one), ("monocle/hit.widths", Rows.laid_monocle_hit_widths)] [.data, .data, .data] true :=
  Program.laidByTextLater_by_one 24 8 5 (by kernel_rfl) (by kernel_rfl) (by kernel_rfl) (by kernel_rfl) (by kernel_rfl) (by kernel_rfl) (fun _ _ => by kernel_rfl)
theorem noOwnUnsafe : Tryz.pinned.checked.prog.headLifts.contains "ownunsafe" = false := by kernel_rfl
theorem tie : Tryz.prog.laidByTextLater [("monocle/surface.one", Rows.laid_monocle_surface_one), ("monocle/hit.widths", Rows.laid_monocle_hit_widths)] [.data, .data] true :=
  Program.laidByTextLater.sub seatTie1 ["monocle/surface.one", "monocle/hit.widths"] (by kernel_rfl) (by kernel_rfl)
theorem hitSlides_row_tie : Rows.hitSlidesRow.laidByTextAt .later Tryz.pinned [.data, .data] true :=
  OpenClaim.laidByTextAt_later rfl rfl tie noOwnUnsafe
theorem hitKnown_row_tie : Rows.hitKnownRow.laidByTextAt .later Tryz.pinned [.data, .data] true :=
  OpenClaim.laidByTextAt_later rfl rfl tie noOwnUnsafe
theorem hitMirrors_row_tie : Rows.hitMirrorsRow.laidByTextAt .later Tryz.pinned [.data, .data] true :=
  OpenClaim.laidByTextAt_later rfl rfl tie noOwnUnsafe
theorem hitTurns_row_tie : Rows.hitTurnsRow.laidByTextAt .later Tryz.pinned [.data, .data] true :=
  OpenClaim.laidByTextAt_later rfl rfl tie noOwnUnsafe
theorem tie2 : Tryz.prog.laidByTextLater [("monocle/monocleref11.bad", Rows.laid_monocle_monocleref11_bad), ("monocle/surface.one", Rows.laid_monocle_surface_one)] [.data, .data] true :=
  Program.laidByTextLater.sub seatTie1 ["monocle/monocleref11.bad", "monocle/surface.one"] (by kernel_rfl) (by kernel_rfl)
theorem bendNormals_row_tie : Rows.bendNormalsRow.laidByTextAt .later Tryz.pinned [.data, .data] true :=
  OpenClaim.laidByTextAt_later rfl rfl tie2 noOwnUnsafe
theorem bendBends_row_tie : Rows.bendBendsRow.laidByTextAt .later Tryz.pinned [.data, .data] true :=
  OpenClaim.laidByTextAt_later rfl rfl tie2 noOwnUnsafe
theorem tie3 : Tryz.prog.laidByTextLater [("monocle/surface.one", Rows.laid_monocle_surface_one)] [.data] true :=
  Program.laidByTextLater.sub seatTie1 ["monocle/surface.one"] (by kernel_rfl) (by kernel_rfl)
theorem bendSnell_row_tie : Rows.bendSnellRow.laidByTextAt .later Tryz.pinned [.data] true :=
  OpenClaim.laidByTextAt_later rfl rfl tie3 noOwnUnsafe
theorem bendBack_row_tie : Rows.bendBackRow.laidByTextAt .later Tryz.pinned [.data] true :=
  OpenClaim.laidByTextAt_later rfl rfl tie3 noOwnUnsafe
theorem bendKeeps_row_tie : Rows.bendKeepsRow.laidByTextAt .later Tryz.pinned [.data] true :=
  OpenClaim.laidByTextAt_later rfl rfl tie3 noOwnUnsafe
theorem bendOrders_row_tie : Rows.bendOrdersRow.laidByTextAt .later Tryz.pinned [.data] true :=
  OpenClaim.laidByTextAt_later rfl rfl tie3 noOwnUnsafe
theorem bendKnown_row_tie : Rows.bendKnownRow.laidByTextAt .later Tryz.pinned [.data] true :=
  OpenClaim.laidByTextAt_later rfl rfl tie3 noOwnUnsafe
theorem tie4 : Tryz.prog.laidByTextLater [("monocle/monocleref11.bad", Rows.laid_monocle_monocleref11_bad), ("monocle/surface.one", Rows.laid_monocle_surface_one), ("monocle/hit.widths", Rows.laid_monocle_hit_widths)] [.data, .data, .data] true :=
  Program.laidByTextLater.sub seatTie1 ["monocle/monocleref11.bad", "monocle/surface.one", "monocle/hit.widths"] (by kernel_rfl) (by kernel_rfl)
theorem hitFar_row_tie : Rows.hitFarRow.laidByTextAt .later Tryz.pinned [.data, .data, .data] true :=
  OpenClaim.laidByTextAt_later rfl rfl tie4 noOwnUnsafe
theorem hitLies_row_tie : Rows.hitLiesRow.laidByTextAt .later Tryz.pinned [.data, .data, .data] true :=
  OpenClaim.laidByTextAt_later rfl rfl tie4 noOwnUnsafe
theorem hitSlidesUpto_row_tie : Rows.hitSlidesUptoRow.laidByTextAt .later Tryz.pinned [.data, .data] true :=
  OpenClaim.laidByTextAt_later rfl rfl tie noOwnUnsafe
theorem hitKnownUpto_row_tie : Rows.hitKnownUptoRow.laidByTextAt .later Tryz.pinned [.data, .data] true :=
  OpenClaim.laidByTextAt_later rfl rfl tie noOwnUnsafe
theorem bendNormalsUpto_row_tie : Rows.bendNormalsUptoRow.laidByTextAt .later Tryz.pinned [.data, .data] true :=
  OpenClaim.laidByTextAt_later rfl rfl tie2 noOwnUnsafe
theorem bendBendsUpto_row_tie : Rows.bendBendsUptoRow.laidByTextAt .later Tryz.pinned [.data, .data] true :=
  OpenClaim.laidByTextAt_later rfl rfl tie2 noOwnUnsafe
theorem bendSnellUpto_row_tie : Rows.bendSnellUptoRow.laidByTextAt .later Tryz.pinned [.data] true :=
  OpenClaim.laidByTextAt_later rfl rfl tie3 noOwnUnsafe
theorem bendBackUpto_row_tie : Rows.bendBackUptoRow.laidByTextAt .later Tryz.pinned [.data] true :=
  OpenClaim.laidByTextAt_later rfl rfl tie3 noOwnUnsafe
theorem bendKeepsUpto_row_tie : Rows.bendKeepsUptoRow.laidByTextAt .later Tryz.pinned [.data] true :=
  OpenClaim.laidByTextAt_later rfl rfl tie3 noOwnUnsafe
theorem bendOrdersUpto_row_tie : Rows.bendOrdersUptoRow.laidByTextAt .later Tryz.pinned [.data] true :=
  OpenClaim.laidByTextAt_later rfl rfl tie3 noOwnUnsafe
theorem bendKnownUpto_row_tie : Rows.bendKnownUptoRow.laidByTextAt .later Tryz.pinned [.data] true :=
  OpenClaim.laidByTextAt_later rfl rfl tie3 noOwnUnsafe
theorem hitFarUpto_row_tie : Rows.hitFarUptoRow.laidByTextAt .later Tryz.pinned [.data, .data, .data] true :=
  OpenClaim.laidByTextAt_later rfl rfl tie4 noOwnUnsafe
theorem hitLiesUpto_row_tie : Rows.hitLiesUptoRow.laidByTextAt .later Tryz.pinned [.data, .data, .data] true :=
  OpenClaim.laidByTextAt_later rfl rfl tie4 noOwnUnsafe
theorem hitMirrorsUpto_row_tie : Rows.hitMirrorsUptoRow.laidByTextAt .later Tryz.pinned [.data, .data] true :=
  OpenClaim.laidByTextAt_later rfl rfl tie noOwnUnsafe
theorem hitTurnsUpto_row_tie : Rows.hitTurnsUptoRow.laidByTextAt .later Tryz.pinned [.data, .data] true :=
  OpenClaim.laidByTextAt_later rfl rfl tie noOwnUnsafe
end Go.Proofs.YtefmckneohhijaaGreatDoor
