/- The tied card of SurfaceKnown: the row proved, its listed variables tied to the program's text. Conditions: those of the row. -/
import Derived.Test.YtfjhmdedhflpbabGreatDoorKF
namespace Go.Proofs.YtfjhmdedhflpbabGreatDoor
open Go
set_option maxRecDepth 100000
theorem knownCard_holds : Rows.SurfaceKnownCardSaid :=
  Claim7.holds_tied_plain_at .later [] [.data, .mappedDeep] true (true, "46567e106ba2d1c0430aeb287a2387777c19a2ba5aee2d29b83ef1a26742eff8") false
    known_holds (fun _ h => by cases h) (by kernel_rfl) (fun _ h => by cases h) surfaceKnown_row_tie rfl ⟨rfl, rfl⟩ (by kernel_rfl) rfl
    (fun f fn hf hfn => by
      obtain rfl : f = 7 := Option.some.inj ((show Tryz.prog.funcNamed "monocle/monoclelaw11.SurfaceKnown" = some 7 by kernel_rfl).symm.trans hf) |>.symm
      obtain rfl : fn = Tryz.f7 := (Option.some.inj (Tryz.func7.symm.trans hfn)).symm
      exact ⟨by kernel_rfl, fun j t ht => by
        rw [Tryz.params7] at ht
        simp at ht⟩)
    (by kernel_rfl)
#print axioms knownCard_holds
end Go.Proofs.YtfjhmdedhflpbabGreatDoor
