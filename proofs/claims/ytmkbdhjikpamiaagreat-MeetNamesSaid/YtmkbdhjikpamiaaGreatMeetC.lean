/- The statement's function, run: it gives true. -/
import Derived.Test.YtmkbdhjikpamiaaGreatMeetB0
import Derived.Test.YtmkbdhjikpamiaaGreatMeetB1
import Derived.Test.YtmkbdhjikpamiaaGreatMeetB2
import Derived.Test.YtmkbdhjikpamiaaGreatMeetB3
import Derived.Test.YtmkbdhjikpamiaaGreatMeetB4
import Derived.Test.YtmkbdhjikpamiaaGreatMeetB5
import Derived.Test.YtmkbdhjikpamiaaGreatMeetB6
import Derived.Test.YtmkbdhjikpamiaaGreatMeetB7
import Derived.Test.YtmkbdhjikpamiaaGreatMeetB8
namespace Go.Proofs.YtmkbdhjikpamiaaGreat
open Go.AM
noncomputable def fast1 : Fast := withMemos 13 [mHear0, mHear1, mHear2, mHear3, mHear4, mHear5, mHear6, mHear7, mHear8] fast0
theorem fast1_ok : FastOk fast1 := withMemos_ok fast0_ok (by
  intro E hE
  simp only [List.mem_cons, List.not_mem_nil, or_false] at hE
  rcases hE with rfl | rfl | rfl | rfl | rfl | rfl | rfl | rfl | rfl
  · exact okHear0
  · exact okHear1
  · exact okHear2
  · exact okHear3
  · exact okHear4
  · exact okHear5
  · exact okHear6
  · exact okHear7
  · exact okHear8
  )
theorem runTop : okB ((Mo.recM (pWith fast1) 3000).call (.up 0) 4 [] ⟨0, .leaf⟩) = true := by kernel_rfl
end Go.Proofs.YtmkbdhjikpamiaaGreat
