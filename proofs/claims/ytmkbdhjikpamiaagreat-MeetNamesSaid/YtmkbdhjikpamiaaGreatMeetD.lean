/- MeetNames, the chapter's further examples, gives true: the program's own calls, with no condition on the world it runs in. -/
import Derived.Test.YtmkbdhjikpamiaaGreatMeetC
import Derived.WalkKit
import Derived.ProofKit
import Derived.OpenShut
namespace Go.AM
open Go.RowKit
theorem rel_empty (w : World) : Rel (fun _ _ => none) ⟨0, .leaf⟩ w := by
  refine ⟨fun f e L x => ?_, fun f e L cs m ro x => ?_, fun f e L f' e' L' x => ?_, fun f e L y x => ?_, fun f e L b x => ?_⟩ <;> cases x

/-- A run of the machine from nothing, of a function without arguments, is a call of the program. -/
theorem walk_of_run {P : Program} {r : Rec} (hr : SimRec P r) {f : FuncId} {b : Bool} {h' : AH} (h : r.call (.up 0) f [] ⟨0, .leaf⟩ = some (.bool b, h')) (w : World) :
    Calls P f #[] w fun e w' => e = .returned (.bool b) ∧ w.keptBut w' (fun _ => False) := by
  obtain ⟨_, _, h3⟩ := hr.call _ _ _ _ _ _ h (Lw.le_up 0)
  have := (h3 Fence.wide 0 (fun _ _ => none) w [] Wd.wide (rel_empty w) .nil).1
  rw [callsIn_wide] at this
  refine this.mono ?_
  rintro e w' ⟨c, μ', rfl, h1, _, h2⟩
  cases h2
  refine ⟨rfl, h1.kept.os, h1.kept.output, fun i hi => ?_⟩
  have := h1.kept.block i hi (fun f e L x => by cases x)
  rw [this]
  have := World.keptBut_refl w (fun _ => False)
  exact this.2.2 i hi
end Go.AM

namespace Go.Proofs.YtmkbdhjikpamiaaGreat.meetNames
open Go.ChangeShapes Go.WideShapes Go.ChangeAt Go.RowKit
theorem own : ownKnob Tryz.prog.godebug = none := by kernel_rfl
theorem walk  (w : World) :
    Calls Tryz.prog 4 #[] w fun e w' => e = .returned (.bool true) ∧ w.keptBut w' (fun _ => False) := by
  obtain ⟨h', h⟩ := okB_spec runTop
  exact Go.AM.walk_of_run (pWith_sim fast1_ok 3000) h w
set_option maxRecDepth 100000 in
theorem lifted (os : Os) (started : os.Started) (H : Type) (enc : TypeId × Value → H) :
    ReturnsInHanded {} Tryz.checked os 4 .any (Rows.meetNamesSpec.pre6 enc Tryz.prog Tryz.f4 Rows.meetNamesRow.domain false) (Rows.meetNamesSpec.post enc Tryz.prog Tryz.f4 false true false false) := by
  refine returnsInHanded_of_change (C := Tryz.checked) own started (by kernel_rfl) Tryz.func4
    (ChangeSpec.witness6 (enc := enc) (C := Tryz.checked) false ⟨#[], #[], []⟩ 8 (by kernel_rfl) (by kernel_rfl) (by kernel_rfl) (by kernel_rfl)) ?_
  intro W base args ds gs before hval0 hW hcnd _
  have hW' := hW
  obtain ⟨p, q, hA0, hV, rfl, hfz, hnd⟩ := hW
  have hA : DataW.TrodAll enc Tryz.prog W 0 (fun _ => true) true Tryz.f4.params.toList args.toList ds p := hA0
  rw [Tryz.params4] at hA
  obtain ⟨rfl, rfl, rfl⟩ := trodAll_none hA
  obtain ⟨rfl, rfl⟩ := trodVars_none hV
  clear hA0 hval0
  simp only [List.append_nil] at hW'
  refine (walk  W).mono fun e W' ⟨he, hg⟩ => ?_
  subst he
  exact ⟨_, rfl, [], [], _, [], [], [], hW', trodAll_cons_mk (shut_bool Tryz.underlying4 _) trodAll_mk0, rfl, rfl, World.keptBut_mono (fun _ f => f.elim) hg, fun h => by cases h⟩

theorem over : Rows.meetNamesRow.holds Tryz.pinned (OpenSpec.ofChange Rows.meetNamesSpec) :=
  OpenClaim.holds_of_wide 4 Tryz.f4 rfl rfl rfl rfl rfl rfl rfl ⟨rfl, rfl, rfl, rfl, rfl⟩ rfl rfl rfl rfl rfl (by kernel_rfl) Tryz.func4 (by kernel_rfl)
    (of_decide_eq_true (by kernel_rfl)) (by unfold Func.isWrapper; first | (rw [if_pos (by decide +kernel)]; kernel_rfl) | (rw [if_neg (by decide +kernel)]; exact ⟨rfl, rfl⟩))
    (fun os started H enc _ => lifted os started H enc)
theorem proved : Rows.MeetNamesSaid :=
  over
end Go.Proofs.YtmkbdhjikpamiaaGreat.meetNames
