/- SiteNames, the chapter's examples, gives true: the program's own calls, with no condition on the world it runs in but that the listed variable is as the program's text lays it (the card ties that). -/
import Derived.Test.YtankbhnmpmhldaaGreatDoorSiteE
import Derived.Test.YtankbhnmpmhldaaGreatDoorTie
import Derived.Test.YtankbhnmpmhldaaGreatDoorCards
import Derived.WalkKit
import Derived.ProofKit
import Derived.OpenShut
import Derived.ChangeSame
import Derived.ChangeVars
import Derived.JoinedOf
import Derived.LaidLaws
import Derived.LaidHandle
import Derived.Handed
import Derived.SevenTiedAt
set_option linter.unusedVariables false
set_option linter.unusedSimpArgs false
namespace Go.AM
open Go.RowKit
theorem rel_empty (w : World) : Rel (fun _ _ => none) ⟨0, .leaf⟩ w := by
  refine ⟨fun f e L x => ?_, fun f e L cs m ro x => ?_, fun f e L f' e' L' x => ?_, fun f e L y x => ?_, fun f e L b x => ?_⟩ <;> cases x

/-- A run of the machine from nothing, of a function without arguments, is a call of the program. -/
theorem walk_of_run {P : Program} {r : Rec} (hr : SimRec P r) {f : FuncId} {b : Bool} {h' : AH} (h : r.call (.up 0) f [] ⟨0, .leaf⟩ = some (.bool b, h')) (w : World) :
    Calls P f #[] w fun e w' => e = .returned (.bool b) ∧ w.keptBut w' (fun _ => False) := by
  obtain ⟨_, _, h3⟩ := hr.call _ _ _ _ _ _ h (Lw.le_up 0)
  have := (h3 Fence.wide 0 (fun _ _ => none) w [] Wd.wide (rel_empty w) .nil).1
  rw [callsIn_wide] at this
  refine this.mono ?_
  rintro e w' ⟨c, μ', rfl, h1, _, h2⟩
  cases h2
  refine ⟨rfl, h1.kept.os, h1.kept.output, fun i hi => ?_⟩
  have := h1.kept.block i hi (fun f e L x => by cases x)
  rw [this]
  have := World.keptBut_refl w (fun _ => False)
  exact this.2.2 i hi
end Go.AM

namespace Go.Proofs.YtankbhnmpmhldaaGreatDoor.siteNames
open Go.ChangeShapes Go.WideShapes Go.ChangeAt Go.RowKit
theorem own : ownKnob Tryz.prog.godebug = none := by kernel_rfl
theorem walk  (w : World) :
    Calls Tryz.prog 3 #[] w fun e w' => e = .returned (.bool true) ∧ w.keptBut w' (fun _ => False) := by
  obtain ⟨h', h⟩ := okB_spec runTop
  exact Go.AM.walk_of_run (pWith_sim fast3_ok 3000) h w
/-- A world that meets the condition: the settled one, the variable's cell laid. -/
noncomputable def laidWorld (os : Os) : World :=
  let w0 := World.holding Tryz.prog os ⟨#[], #[], []⟩
  { w0 with heap := w0.heap.modify 0 fun
      | .cells _ t frozen => .cells #[.iface 436 (.agg #[.pointer (some ⟨1, 303, none⟩)])] t frozen
      | o => o }
theorem laidWorld_met (os : Os) (args : Array Value) : laidMetH Tryz.prog Rows.siteNamesRow.laid ((laidWorld os).forCall (fun _ _ => 0) ⟨#[], args, []⟩).memory :=
  laidMetH_of_parts (laidMet_nil _ _) (by kernel_rfl)
set_option maxRecDepth 100000 in
theorem lifted (os : Os) (started : os.Started) (H : Type) (enc : TypeId × Value → H) :
    ReturnsInHanded {} Tryz.checked os 3 .any (fun w args => (Rows.siteNamesSpec.pre enc Tryz.prog Tryz.f3 Rows.siteNamesRow.domain false w args ∧ laidMetH Tryz.prog Rows.siteNamesRow.laid w) ∧ sizedMet enc Tryz.prog Tryz.f3 (OpenSpec.ofChange Rows.siteNamesSpec) false w args)
      (Rows.siteNamesSpec.post enc Tryz.prog Tryz.f3 false true false false) := by
  refine returnsInHanded_of_change_and (C := Tryz.checked) (X := fun w _ => laidMetH Tryz.prog Rows.siteNamesRow.laid w) (fun _ _ _ hh h => h.of_heap hh) own started (by kernel_rfl) Tryz.func3
    (ChangeSpec.witness_at (enc := enc) (C := Tryz.checked) (os := os) (X := fun w _ => laidMetH Tryz.prog Rows.siteNamesRow.laid w) false (laidWorld os) #[] 8 rfl (by kernel_rfl) (by kernel_rfl) (by kernel_rfl) (by kernel_rfl) (by kernel_rfl) (laidWorld_met os _)) ?_
  intro W base args ds gs before hval0 hW hcnd _ hL _
  have hW' := hW
  obtain ⟨p, q, hA0, hV, rfl, hfz, hnd⟩ := hW
  have hA : DataW.TrodAll enc Tryz.prog W 0 (fun _ => true) true Tryz.f3.params.toList args.toList ds p := hA0
  rw [Tryz.params3] at hA
  obtain ⟨rfl, rfl, rfl⟩ := trodAll_none hA
  obtain ⟨rfl, rfl⟩ := trodVars_none hV
  clear hA0 hval0
  simp only [List.append_nil] at hW'
  refine (walk  W).mono fun e W' ⟨he, hg⟩ => ?_
  subst he
  exact ⟨_, rfl, [], [], _, [], [], [], hW', trodAll_cons_mk (shut_bool Tryz.underlying4 _) trodAll_mk0, rfl, rfl, World.keptBut_mono (fun _ f => f.elim) hg, fun h => by cases h⟩

end Go.Proofs.YtankbhnmpmhldaaGreatDoor.siteNames
