/- The calls that are known by now. -/
import Derived.Test.YtankbhnmpmhldaaGreatDoorSiteB13x0
import Derived.Test.YtankbhnmpmhldaaGreatDoorSiteB15x0
import Derived.Test.YtankbhnmpmhldaaGreatDoorSiteB15x1
import Derived.Test.YtankbhnmpmhldaaGreatDoorSiteB15x2
import Derived.Test.YtankbhnmpmhldaaGreatDoorSiteB15x3
import Derived.Test.YtankbhnmpmhldaaGreatDoorSiteB129x0
import Derived.Test.YtankbhnmpmhldaaGreatDoorSiteB129x1
import Derived.Test.YtankbhnmpmhldaaGreatDoorSiteB130x0
import Derived.Test.YtankbhnmpmhldaaGreatDoorSiteB131x0
import Derived.Test.YtankbhnmpmhldaaGreatDoorSiteB131x1
import Derived.Test.YtankbhnmpmhldaaGreatDoorSiteB132x0
import Derived.Test.YtankbhnmpmhldaaGreatDoorSiteB132x1
import Derived.Test.YtankbhnmpmhldaaGreatDoorSiteB7x0
import Derived.Test.YtankbhnmpmhldaaGreatDoorSiteB7x1
import Derived.Test.YtankbhnmpmhldaaGreatDoorSiteB7x2
import Derived.Test.YtankbhnmpmhldaaGreatDoorSiteB9x0
import Derived.Test.YtankbhnmpmhldaaGreatDoorSiteB9x1
namespace Go.Proofs.YtankbhnmpmhldaaGreatDoor
open Go.AM
noncomputable def fast1 : Fast := (withMemos 9 [m9x0, m9x1] (withMemos 7 [m7x0, m7x1, m7x2] (withMemos 132 [m132x0, m132x1] (withMemos 131 [m131x0, m131x1] (withMemos 130 [m130x0] (withMemos 129 [m129x0, m129x1] (withMemos 15 [m15x0, m15x1, m15x2, m15x3] (withMemos 13 [m13x0] fast0))))))))
theorem fast1_ok : FastOk fast1 := (withMemos_ok (withMemos_ok (withMemos_ok (withMemos_ok (withMemos_ok (withMemos_ok (withMemos_ok (withMemos_ok fast0_ok (memoAll_cons ok13x0 memoAll_nil)) (memoAll_cons ok15x0 (memoAll_cons ok15x1 (memoAll_cons ok15x2 (memoAll_cons ok15x3 memoAll_nil))))) (memoAll_cons ok129x0 (memoAll_cons ok129x1 memoAll_nil))) (memoAll_cons ok130x0 memoAll_nil)) (memoAll_cons ok131x0 (memoAll_cons ok131x1 memoAll_nil))) (memoAll_cons ok132x0 (memoAll_cons ok132x1 memoAll_nil))) (memoAll_cons ok7x0 (memoAll_cons ok7x1 (memoAll_cons ok7x2 memoAll_nil)))) (memoAll_cons ok9x0 (memoAll_cons ok9x1 memoAll_nil)))
end Go.Proofs.YtankbhnmpmhldaaGreatDoor
