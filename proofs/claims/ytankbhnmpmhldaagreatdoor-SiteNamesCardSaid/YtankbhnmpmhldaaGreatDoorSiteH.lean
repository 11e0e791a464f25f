/- SiteNames, the chapter's examples, gives true: the card, its listed variable tied to the program's text. -/
import Derived.Test.YtankbhnmpmhldaaGreatDoorSiteG
set_option linter.unusedVariables false
set_option linter.unusedSimpArgs false
namespace Go.Proofs.YtankbhnmpmhldaaGreatDoor.siteNames
open Go.ChangeShapes Go.WideShapes Go.ChangeAt Go.RowKit
theorem proved : Rows.SiteNamesCardSaid :=
  Claim7.holds_tied_plain_at .later [] [.handle] true (true, "5913cdee148c29fa286cde917580e25f68696382630ba546d319577a5679c065") true
    over (fun _ h => by cases h) (by as_aux_lemma => kernel_rfl) (fun _ h => by cases h) siteNames_row_tie rfl ⟨rfl, rfl⟩ (by as_aux_lemma => kernel_rfl) rfl
    (fun f fn hf hfn => by
      obtain rfl : f = 3 := Option.some.inj (named.symm.trans hf) |>.symm
      obtain rfl : fn = Tryz.f3 := (Option.some.inj (Tryz.func3.symm.trans hfn)).symm
      exact ⟨by as_aux_lemma => kernel_rfl, fun j t ht => by
        rw [Tryz.params3] at ht
        simp at ht⟩)
    (by as_aux_lemma => kernel_rfl)
end Go.Proofs.YtankbhnmpmhldaaGreatDoor.siteNames
