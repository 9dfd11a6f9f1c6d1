/- The tied card of HitKnown: the row proved, its listed variables tied to the program's text. Condition: that of the row. -/
import Derived.Test.YtefmckneohhijaaGreatDoorHKF
namespace Go.Proofs.YtefmckneohhijaaGreatDoor
open Go
set_option maxRecDepth 100000
theorem knownCard_holds : Rows.HitKnownCardSaid :=
  Claim7.holds_tied_plain_at .later [] [.data, .data] true (true, "e6f3803f4fbbb801afad27692e0f8d7578ffaa6bb9efd07091a248bdbf41cf4a") true
    known_holds (fun _ h => by cases h) (by as_aux_lemma => kernel_rfl) (fun _ h => by cases h) hitKnown_row_tie rfl ⟨rfl, rfl⟩ (by as_aux_lemma => kernel_rfl) rfl
    (fun f fn hf hfn => by
      obtain rfl : f = 4 := Option.some.inj ((show Tryz.prog.funcNamed "monocle/monoclelaw25.HitKnown" = some 4 by as_aux_lemma => kernel_rfl).symm.trans hf) |>.symm
      obtain rfl : fn = Tryz.f4 := (Option.some.inj (Tryz.func4.symm.trans hfn)).symm
      exact ⟨by as_aux_lemma => kernel_rfl, fun j t ht => by
        rw [Tryz.params4] at ht
        simp at ht⟩)
    (by as_aux_lemma => kernel_rfl)
#print axioms knownCard_holds
end Go.Proofs.YtefmckneohhijaaGreatDoor
