/- SiteNames: the row of it. -/
import Derived.Test.YtankbhnmpmhldaaGreatDoorSiteF
set_option linter.unusedVariables false
set_option linter.unusedSimpArgs false
namespace Go.Proofs.YtankbhnmpmhldaaGreatDoor.siteNames
open Go.ChangeShapes Go.WideShapes Go.ChangeAt Go.RowKit
theorem and_true2 {a b : Bool} (ha : a = true) (hb : b = true) : (a && b) = true := by rw [ha, hb]; rfl
theorem named : Tryz.prog.funcNamed "catamaran/catamaranlaw27.SiteNames" = some 3 := by kernel_rfl
set_option maxHeartbeats 40000000 in
theorem facts : joinedFacts Tryz.pinned.checked.prog 3 Tryz.f3 Rows.siteNamesSpec Rows.siteNamesRow = true := by
  unfold joinedFacts
  repeat' (with_reducible refine and_true2 ?_ ?_)
  all_goals as_aux_lemma => kernel_rfl
theorem over : Rows.SiteNamesSaid :=
  OpenClaim.holds_of_wide 3 Tryz.f3 rfl rfl rfl rfl rfl rfl rfl ⟨rfl, rfl, rfl, rfl, rfl⟩ rfl rfl rfl rfl rfl named Tryz.func3 facts
    (of_decide_eq_true (by kernel_rfl)) (by unfold Func.isWrapper; first | (rw [if_pos (by decide +kernel)]; kernel_rfl) | (rw [if_neg (by decide +kernel)]; exact ⟨rfl, rfl⟩))
    (fun os started H enc _ => lifted os started H enc)
end Go.Proofs.YtankbhnmpmhldaaGreatDoor.siteNames
