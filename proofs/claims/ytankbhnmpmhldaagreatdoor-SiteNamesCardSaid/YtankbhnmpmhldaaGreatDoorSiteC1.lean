/- The calls that are known by now. -/
import Derived.Test.YtankbhnmpmhldaaGreatDoorSiteB4x0
import Derived.Test.YtankbhnmpmhldaaGreatDoorSiteB8x0
namespace Go.Proofs.YtankbhnmpmhldaaGreatDoor
open Go.AM
noncomputable def fast2 : Fast := (withMemos 8 [m8x0] (withMemos 4 [m4x0] fast1))
theorem fast2_ok : FastOk fast2 := (withMemos_ok (withMemos_ok fast1_ok (memoAll_cons ok4x0 memoAll_nil)) (memoAll_cons ok8x0 memoAll_nil))
end Go.Proofs.YtankbhnmpmhldaaGreatDoor
