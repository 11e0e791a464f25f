/- The calls that are known by now. -/
import Derived.Test.YtankbhnmpmhldaaGreatDoorSiteB11x0
namespace Go.Proofs.YtankbhnmpmhldaaGreatDoor
open Go.AM
noncomputable def fast3 : Fast := (withMemos 11 [m11x0] fast2)
theorem fast3_ok : FastOk fast3 := (withMemos_ok fast2_ok (memoAll_cons ok11x0 memoAll_nil))
end Go.Proofs.YtankbhnmpmhldaaGreatDoor
