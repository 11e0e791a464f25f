/- The statement's function, run: it gives true. -/
import Derived.Test.YtmkbdhjikpamiaaGreatModelB
namespace Go.Proofs.YtmkbdhjikpamiaaGreat
open Go.AM
theorem runNames : okB ((Mo.recM (pWith fast1) 3000).call (.up 0) 3 [] ⟨0, .leaf⟩) = true := by kernel_rfl
end Go.Proofs.YtmkbdhjikpamiaaGreat
