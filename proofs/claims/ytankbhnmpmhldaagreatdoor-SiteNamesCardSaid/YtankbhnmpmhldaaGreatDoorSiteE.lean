/- The statement's function, run: it gives true. -/
import Derived.Test.YtankbhnmpmhldaaGreatDoorSiteC2
namespace Go.Proofs.YtankbhnmpmhldaaGreatDoor
open Go.AM
theorem runTop : okB ((Mo.recM (pWith fast3) 3000).call (.up 0) 3 [] ⟨0, .leaf⟩) = true := by kernel_rfl
end Go.Proofs.YtankbhnmpmhldaaGreatDoor
