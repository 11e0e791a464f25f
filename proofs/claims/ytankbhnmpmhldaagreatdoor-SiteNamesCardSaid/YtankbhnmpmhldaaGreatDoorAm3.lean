/- An abstract machine for programs of this language, part 3: what it computes is what a call of the program does. Holds: AmR: an operation of an activation; regions in the text's order.; AmLoc: a simple operation sees but the families that it names.; AmS: a region in the text's order.; AmT: a region that draws its order: what its run in the text's order tells.; AmU: a region that draws its order, in any order.; AmV: a region that draws its order: one operation.; AmV1: one more operation of a region that draws its order.; AmV3: who comes up next in a region that draws its order.; AmV2: a region that draws its order: from the first operation to the last.. -/
import Derived.Test.YtankbhnmpmhldaaGreatDoorAm2
import Derived.OrdersIn

set_option linter.unusedSectionVars false
set_option linter.unusedSimpArgs false
set_option linter.unusedVariables false

namespace Go.AM
variable {P : Program} {L : Ty}

theorem wr_kept {low : Lw} {h h' : AH} {a : Addr} {vs : List Value} (hw : wr low h a vs = some h') : AKept low h h' := by
  unfold wr at hw
  split at hw
  · cases hw; exact .refl _ _
  · split at hw
    · rename_i cs m e hg he
      cases hb : (low.ok a.block && Nat.beq e cs.length && Nat.ble m e && Nat.ble (a.off + vs.length) e && vs.all one1) with
      | false => rw [hb] at hw; simp at hw
      | true =>
        rw [hb] at hw
        simp only [cond_true, Option.some.injEq] at hw
        subst hw
        simp only [Bool.and_eq_true, Nat.ble_eq] at hb
        exact .put _ _ (AH.lt_of_get hg) hb.1.1.1.1
    · cases hw

theorem appendV_kept {low : Lw} {h h' : AH} {esz n : Nat} {s v : Value} {new : List Value} (hv : appendV low h esz s n new = some (v, h')) : AKept low h h' := by
  unfold appendV at hv
  split at hv
  case h_2 => cases hv
  cases hn : Nat.beq n 0 with
  | true => rw [hn] at hv; simp at hv; rw [← hv.2]; exact .refl _ _
  | false =>
    rw [hn] at hv
    simp only [cond_false] at hv
    rename_i base len cap
    cases h1 : (Nat.beq esz 0 || Nat.ble big esz) with
    | true => rw [h1] at hv; simp at hv
    | false =>
    rw [h1] at hv
    simp only [cond_false] at hv
    cases h2 : Nat.blt 1073741824 (len + n) with
    | true => rw [h2] at hv; simp at hv
    | false =>
    rw [h2] at hv
    simp only [cond_false] at hv
    cases h3 : Nat.beq cap len with
    | true =>
      rw [h3] at hv
      simp only [cond_true] at hv
      split at hv
      · simp only [Option.some.injEq, Prod.mk.injEq] at hv
        rw [← hv.2]; exact .push _ _
      · cases hv
    | false =>
      rw [h3] at hv
      simp only [cond_false] at hv
      cases h4 : Nat.beq cap (len + esz) with
      | false => rw [h4] at hv; simp at hv
      | true =>
        rw [h4] at hv
        simp only [cond_true] at hv
        split at hv
        case h_2 => cases hv
        rename_i a
        split at hv
        case h_2 => cases hv
        rename_i cs m e hg he
        cases h5 : (low.ok a.block && Nat.beq e cs.length && Nat.ble m e && Nat.beq (a.off + len * esz) e && new.all one1) with
        | false => rw [h5] at hv; simp at hv
        | true =>
          rw [h5] at hv
          simp only [cond_true, Option.some.injEq, Prod.mk.injEq] at hv
          rw [← hv.2]
          simp only [Bool.and_eq_true, Nat.ble_eq] at h5
          exact .put _ _ (AH.lt_of_get hg) h5.1.1.1.1

/-- The heap that an operation leaves. -/
def ARes.heap : ARes → AH → AH
  | .val _ h, _ => h
  | .skip h, _ => h
  | _, h => h

theorem builtin_kept {low : Lw} {h : AH} {b : Builtin} {ts : Array TypeId} {args : List Value} {res : ARes} (hb : builtinV L low h b ts args = some res) : AKept low h (res.heap h) := by
  unfold builtinV at hb
  split at hb
  · (repeat' split at hb) <;> (try cases hb) <;> exact .refl _ _
  · split at hb
    case h_2 => cases hb
    split at hb
    case h_2 => cases hb
    split at hb
    case h_2 => cases hb
    split at hb
    · split at hb
      case h_2 => cases hb
      rename_i n
      cases hlt : Nat.blt n 1073741824 with
      | false => rw [hlt] at hb; simp at hb
      | true =>
        rw [hlt] at hb
        simp only [cond_true, Option.map_eq_some_iff] at hb
        obtain ⟨⟨v, h'⟩, hv, rfl⟩ := hb
        exact appendV_kept hv
    · split at hb
      case h_2 => cases hb
      split at hb
      case h_2 => cases hb
      simp only [Option.map_eq_some_iff] at hb
      obtain ⟨⟨v, h'⟩, hv, rfl⟩ := hb
      exact appendV_kept hv
    · cases hb
  · cases hb; exact .refl _ _
  · cases hb; exact .refl _ _
  · split at hb
    case h_2 => cases hb
    split at hb
    case h_2 => cases hb
    split at hb
    case h_2 => cases hb
    dsimp only at hb
    split at hb
    case h_2 => cases hb
    split at hb
    · simp only [Option.map_eq_some_iff] at hb
      obtain ⟨h', hw, rfl⟩ := hb
      exact wr_kept hw
    · rename_i sl _ _ _ _
      revert hb
      cases Nat.beq _ 0 <;> intro hb
      · simp at hb
      · simp at hb; subst hb; exact .refl _ _
  · split at hb
    case h_2 => cases hb
    split at hb
    case h_2 => cases hb
    split at hb
    case h_2 => cases hb
    split at hb
    · rename_i ck hg
      simp only [Bool.cond_eq_ite] at hb
      split at hb
      · rename_i hbb
        simp only [Bool.and_eq_true] at hbb
        cases hb; exact .put _ _ (AH.lt_of_get hg) hbb.1
      · cases hb
    · rename_i hg
      rw [Bool.cond_eq_ite] at hb
      split at hb
      · rename_i hbb
        simp only [Bool.and_eq_true] at hbb
        cases hb; exact .put _ _ (AH.lt_of_get hg) hbb.1.1
      · cases hb
    · cases hb
  · split at hb
    case h_2 => cases hb
    split at hb
    case h_2 => cases hb
    split at hb
    · simp only [Option.map_eq_some_iff] at hb
      obtain ⟨h', hw, rfl⟩ := hb
      exact wr_kept hw
    · cases hb; exact .refl _ _
    · cases hb
  · cases hb

theorem conv_kept {h : AH} {s d : TypeId} {x : Value} {res : ARes} (hc : convV L h s d x = some res) : res.heap h = h := by
  unfold convV at hc
  split at hc
  · cases hc; rfl
  · cases hc; rfl
  · split at hc
    · cases hc; rfl
    · split at hc
      · simp only [Option.map_eq_some_iff] at hc
        obtain ⟨bs, _, rfl⟩ := hc
        rfl
      · cases hc
    · cases hc
  · cases hc

theorem callee_kept {h : AH} {ρ : Operand → Value} {f : Operand} {args : List Value} {res : ARes} (hc : callee ρ f args = some res) : res.heap h = h := by
  unfold callee at hc
  split at hc
  · cases hc; rfl
  · revert hc
    cases (_ && _ : Bool) <;> intro hc
    · simp at hc
    · simp at hc; subst hc; rfl
  · cases hc

theorem aop_kept {low : Lw} {ρ : Operand → Value} {h : AH} {o : Op} {res : ARes} (ha : aop L low ρ h o = some res) : AKept low h (res.heap h) := by
  cases o <;> simp only [aop] at ha
  case convert s d x => rw [conv_kept ha]; exact .refl _ _
  case call c =>
    split at ha
    · rw [callee_kept ha]; exact .refl _ _
    · split at ha
      · simp only [Option.map_eq_some_iff] at ha
        obtain ⟨_, _, rfl⟩ := ha
        exact .refl _ _
      · cases ha
    · exact builtin_kept ha
  case defer c =>
    split at ha
    · split at ha
      · cases ha; exact .refl _ _
      · cases ha
    · cases ha
  case store t a x =>
    split at ha
    case h_2 => cases ha
    revert ha
    cases Nat.beq _ _ <;> intro ha
    · simp at ha
    · simp only [cond_true, Option.map_eq_some_iff] at ha
      obtain ⟨h', hw, rfl⟩ := ha
      exact wr_kept hw
  case alloc t => simp only [Option.map_eq_some_iff] at ha; obtain ⟨z, _, rfl⟩ := ha; exact .push _ _
  case box t x => cases ha; exact .push _ _
  case buildSlice t n ps =>
    split at ha
    case h_2 => cases ha
    split at ha
    case h_2 => cases ha
    revert ha
    cases (_ && _ : Bool) <;> intro ha
    · simp at ha
    · simp only [cond_true, Option.map_eq_some_iff] at ha
      obtain ⟨z, _, rfl⟩ := ha; exact .push _ _
  case makeSlice t l c =>
    split at ha
    case h_2 => cases ha
    split at ha
    case h_2 => cases ha
    revert ha
    cases (_ && _ : Bool) <;> intro ha
    · simp at ha
    · simp only [cond_true, Option.some.injEq] at ha
      subst ha; exact .push _ _
  case makeMap t rv =>
    cases rv with
    | some _ => cases ha
    | none => cases ha; exact .push _ _
  case mapUpdate t m k v =>
    split at ha
    case h_2 => cases ha
    split at ha
    case h_2 => cases ha
    split at ha
    case h_2 => cases ha
    split at ha
    · rename_i ck hg
      rw [Bool.cond_eq_ite] at ha
      split at ha
      · rename_i hbb
        simp only [Bool.and_eq_true] at hbb
        cases ha; exact .put _ _ (AH.lt_of_get hg) hbb.1
      · cases ha
    · rename_i hg
      rw [Bool.cond_eq_ite] at ha
      split at ha
      · rename_i hbb
        simp only [Bool.and_eq_true] at hbb
        cases ha; exact .put _ _ (AH.lt_of_get hg) hbb.1.1.1
      · cases ha
    · cases ha
  case range t m =>
    (repeat' split at ha) <;> first
      | (cases ha; done)
      | (cases ha; exact .push _ _)
  case next it isS =>
    cases isS with
    | true => cases ha
    | false =>
      dsimp only at ha
      split at ha
      case h_2 => cases ha
      split at ha
      case h_2 => cases ha
      rename_i hg
      split at ha
      · cases ha; exact .refl _ _
      · split at ha
        · rw [Bool.cond_eq_ite] at ha
          split at ha
          · rename_i hbb
            simp only [Bool.and_eq_true] at hbb
            cases ha; exact .put _ _ (AH.lt_of_get hg) hbb.2
          · cases ha
        · rw [Bool.cond_eq_ite] at ha
          split at ha
          · cases ha; exact .refl _ _
          · cases ha
      · cases ha
  all_goals
    try simp only [Bool.cond_eq_ite] at ha
    (repeat' split at ha) <;> first
      | (cases ha; done)
      | (cases ha; exact .refl _ _)
      | (simp only [Option.map_eq_some_iff] at ha; obtain ⟨_, _, rfl⟩ := ha; exact .refl _ _)

theorem aop_defer {low : Lw} {ρ : Operand → Value} {h : AH} {c : Call} {res : ARes} (ha : aop L low ρ h (.defer c) = some res) : ∃ f args, res = .defer f args := by
  simp only [aop] at ha
  split at ha
  · split at ha
    · cases ha; exact ⟨_, _, rfl⟩
    · cases ha
  · cases ha

theorem opV_sim (hL : L.Ok P) {r : Rec} (hsim : SimRec P r) {low : Lw} {fr : Fr} {h h' : AH} {o : Oper} {v : Value} {ds : List ADef} (ho : opV L r low fr h o = some (v, h', ds)) (hlow : low.le h.next) (hok : opOk o.op = true) :
    AKept low h h' ∧ (fr.round.isSome = true → ds = []) ∧ ∀ (F : Fence) n μ w a (next : Act → World → Prop) (Q : Exit → Act → World → Prop), Wd F → RoundRel μ fr.round F.round → Rel μ h w → (∀ x ∈ o.op.operands.toList, VRel μ (fr.env.eval x) (a.eval x)) →
      (∀ μ' w' c dc, Step low μ μ' w w' → Rel μ' h' w' → VRel μ' v c → DefsRel μ' ds dc → next ({ a with defers := dc ++ a.defers }.put o.dst c) w') → o.wpIn F n P a w next Q := by
  unfold opV at ho
  -- the shape of the run
  cases ha : aop L low fr.env.eval h o.op with
  | none => rw [ha] at ho; simp at ho
  | some res =>
  rw [ha] at ho
  have hrun : ∀ (F : Fence) μ w (a : Act), RoundRel μ fr.round F.round → Rel μ h w → o.semAt F.round a.eval = execOp a.eval o := fun F μ w a hro hst => by
    cases hF : F.round with
    | none => rfl
    | some l =>
      refine Oper.semAt_eq _ _ _ fun c hc => ?_
      rw [hc] at ha
      obtain ⟨f, args, rfl⟩ := aop_defer ha
      rw [hF] at hro
      generalize hfr : fr.round = x at hro ho
      cases hro with
      | some hm => simp at ho
  have hsound : ∀ (F : Fence) μ w (a : Act), RoundRel μ fr.round F.round → Rel μ h w → (∀ x ∈ o.op.operands.toList, VRel μ (fr.env.eval x) (a.eval x)) → ResOk P low μ h w res ((execOp a.eval o).run P w) := fun F μ w a hro hst hR =>
    aop_sound hL hst hlow hok hR ha
  cases res with
  | val v0 h0 =>
    simp only [Option.some.injEq, Prod.mk.injEq] at ho
    obtain ⟨rfl, rfl, rfl⟩ := ho
    refine ⟨?_, fun _ => rfl, fun F n μ w a next Q hF hro hst hR hk => ?_⟩
    · exact aop_kept ha
    · obtain ⟨_, μ', w', c, h1, h2, h3, h4⟩ := hsound F μ w a hro hst hR
      refine ⟨fun f _ => hF.fn f, ?_⟩
      rw [hrun F μ w a hro hst, h1]
      exact hk μ' w' c [] h2 h3 h4 .nil
  | skip h0 =>
    simp only [Option.some.injEq, Prod.mk.injEq] at ho
    obtain ⟨rfl, rfl, rfl⟩ := ho
    refine ⟨?_, fun _ => rfl, fun F n μ w a next Q hF hro hst hR hk => ?_⟩
    · exact aop_kept ha
    · obtain ⟨_, μ', w', h1, h2, h3⟩ := hsound F μ w a hro hst hR
      refine ⟨fun f _ => hF.fn f, ?_⟩
      rw [hrun F μ w a hro hst, h1]
      exact hk μ' w' undef [] h2 h3 .undef .nil
  | call f args =>
    dsimp only at ho
    cases hc : r.call low f args h with
    | none => rw [hc] at ho; simp at ho
    | some x =>
      obtain ⟨v0, h0⟩ := x
      rw [hc] at ho
      simp only [Option.some.injEq, Prod.mk.injEq] at ho
      obtain ⟨rfl, rfl, rfl⟩ := ho
      obtain ⟨c1, c2, c3⟩ := hsim.call _ _ _ _ _ _ hc hlow
      refine ⟨c2, fun _ => rfl, fun F n μ w a next Q hF hro hst hR hk => ?_⟩
      obtain ⟨cs, h1, h2⟩ := hsound F μ w a hro hst hR
      refine ⟨fun f _ => hF.fn f, ?_⟩
      rw [hrun F μ w a hro hst, h2 c1]
      refine ⟨hF.one, (c3 F (n - 1) μ w cs hF hst h1).1.mono ?_⟩
      rintro e w' ⟨c, μ', rfl, q1, q2, q3⟩
      exact hk μ' w' c [] q1 q2 q3 .nil
  | yield l args =>
    dsimp only at ho
    cases hc : yieldV r low l args h with
    | none => rw [hc] at ho; simp at ho
    | some x =>
      obtain ⟨v0, h0⟩ := x
      rw [hc] at ho
      simp only [Option.some.injEq, Prod.mk.injEq] at ho
      obtain ⟨rfl, rfl, rfl⟩ := ho
      obtain ⟨c2, c3⟩ := yield_sim hsim hc hlow
      refine ⟨c2, fun _ => rfl, fun F n μ w a next Q hF hro hst hR hk => ?_⟩
      obtain ⟨Lc, cs, h1, h2, h3⟩ := hsound F μ w a hro hst hR
      obtain ⟨fn, tmps, asg, body, y1, y2⟩ := c3 F (n - 1) μ w cs Lc hF hst h2 h1
      refine ⟨fun f _ => hF.fn f, ?_⟩
      rw [hrun F μ w a hro hst, h3, y1]
      refine ⟨hF.one, y2.mono ?_⟩
      rintro e w' ⟨c, μ', rfl, q1, q2, q3⟩
      exact hk μ' w' c [] q1 q2 q3 .nil
  | defer f args =>
    dsimp only at ho
    cases hro0 : fr.round with
    | some l => rw [hro0] at ho; simp at ho
    | none =>
      rw [hro0] at ho
      simp only [Option.some.injEq, Prod.mk.injEq] at ho
      obtain ⟨rfl, rfl, rfl⟩ := ho
      refine ⟨.refl _ _, fun hh => by simp at hh, fun F n μ w a next Q hF hro hst hR hk => ?_⟩
      rw [← hro0] at hro
      obtain ⟨d, cap, h1, h2, h3⟩ := hsound F μ w a hro hst hR
      refine ⟨fun f _ => hF.fn f, ?_⟩
      rw [hrun F μ w a hro hst, h1]
      exact hk μ w undef [d] (.refl _ _ _) hst .undef (.cons (.call h2 h3) .nil)

end Go.AM

namespace Go.AM
variable {L : Ty} {low : Lw} {R : List Nat} {h h' h2 : AH}

structure Agree (R : List Nat) (h h2 : AH) : Prop where
  next : h2.next = h.next
  get : ∀ f, f ∈ R → h2.get f = h.get f

structure LocRel (R : List Nat) (h h' h2 h2' : AH) : Prop where
  next : h2'.next = h'.next
  here : ∀ g, g ∈ R ∨ h.next ≤ g → h2'.get g = h'.get g
  there : ∀ g, g ∉ R → g < h.next → h2'.get g = h2.get g ∧ h'.get g = h.get g

theorem LocRel.same (ha : Agree R h h2) : LocRel R h h h2 h2 := by
  refine ⟨ha.next, fun g hg => ?_, fun g _ _ => ⟨rfl, rfl⟩⟩
  rcases hg with hg | hg
  · exact ha.get g hg
  · rw [AH.get_ge hg, AH.get_ge (by rw [ha.next]; exact hg)]

theorem LocRel.push (ha : Agree R h h2) (o : AObj) : LocRel R h (h.push o) h2 (h2.push o) := by
  refine ⟨by simp [ha.next], fun g hg => ?_, fun g _ hlt => ?_⟩
  · rw [AH.get_push, AH.get_push, ha.next]
    by_cases h0 : g = h.next
    · rw [if_pos h0, if_pos h0]
    · rw [if_neg h0, if_neg h0]
      exact (LocRel.same ha).here g hg
  · rw [AH.get_push, AH.get_push, ha.next, if_neg (by omega), if_neg (by omega)]
    exact ⟨rfl, rfl⟩

theorem LocRel.put (ha : Agree R h h2) {f : Nat} (hf : f ∈ R) (hlt : f < h.next) (o : AObj) : LocRel R h (h.put f o) h2 (h2.put f o) := by
  refine ⟨by simp [ha.next], fun g hg => ?_, fun g hg hlt' => ?_⟩
  · rw [AH.get_put _ _ hlt, AH.get_put _ _ (by rw [ha.next]; exact hlt)]
    by_cases h0 : g = f
    · rw [if_pos h0, if_pos h0]
    · rw [if_neg h0, if_neg h0]; exact (LocRel.same ha).here g hg
  · have h0 : g ≠ f := fun e => hg (e ▸ hf)
    rw [AH.get_put _ _ hlt, AH.get_put _ _ (by rw [ha.next]; exact hlt), if_neg h0, if_neg h0]
    exact ⟨rfl, rfl⟩

theorem rd_loc (ha : Agree R h h2) {a : Addr} (hb : a.block ∈ R) (n : Nat) : rd h2 a n = rd h a n := by
  unfold rd; rw [ha.get _ hb]

theorem wr_loc (ha : Agree R h h2) {a : Addr} (hb : a.block ∈ R) {vs : List Value} (hw : wr low h a vs = some h') : ∃ h2', wr low h2 a vs = some h2' ∧ LocRel R h h' h2 h2' := by
  unfold wr at hw ⊢
  split at hw
  · cases hw; exact ⟨h2, rfl, .same ha⟩
  · rw [ha.get _ hb]
    split at hw
    · rename_i cs m e hg he
      cases hc : (low.ok a.block && Nat.beq e cs.length && Nat.ble m e && Nat.ble (a.off + vs.length) e && vs.all one1) with
      | false => rw [hc] at hw; simp at hw
      | true =>
        rw [hc] at hw
        simp only [cond_true, Option.some.injEq] at hw ⊢
        subst hw
        exact ⟨_, rfl, .put ha hb (AH.lt_of_get hg) _⟩
    · cases hw

theorem loadT_loc (ha : Agree R h h2) {a : Addr} (hb : a.block ∈ R) (t : TypeId) : loadT L h2 t a = loadT L h t a := by
  unfold loadT; simp only [rd_loc ha hb]

theorem seqCells_loc (ha : Agree R h h2) {x : Value} (hb : ∀ f, f ∈ blkOf x → f ∈ R) (esz n : Nat) : seqCells h2 esz n x = seqCells h esz n x := by
  unfold seqCells
  split
  · rw [rd_loc ha (hb _ (by simp [blkOf]))]
  · rfl
  · rfl
  · rfl

theorem appendV_loc (ha : Agree R h h2) {esz n : Nat} {s v : Value} {new : List Value} (hb : ∀ f, f ∈ blkOf s → f ∈ R) (hv : appendV low h esz s n new = some (v, h')) :
    ∃ h2', appendV low h2 esz s n new = some (v, h2') ∧ LocRel R h h' h2 h2' := by
  unfold appendV at hv ⊢
  split at hv
  case h_2 => cases hv
  rename_i base len cap
  dsimp only
  rw [seqCells_loc ha hb]
  cases h1 : Nat.beq n 0 with
  | true => rw [h1] at hv; cases hv; exact ⟨h2, rfl, .same ha⟩
  | false =>
  rw [h1] at hv
  simp only [cond_false] at hv ⊢
  cases h3 : (Nat.beq esz 0 || Nat.ble big esz) with
  | true => rw [h3] at hv; simp at hv
  | false =>
  rw [h3] at hv
  simp only [cond_false] at hv ⊢
  cases h4 : Nat.blt 1073741824 (len + n) with
  | true => rw [h4] at hv; simp at hv
  | false =>
  rw [h4] at hv
  simp only [cond_false] at hv ⊢
  cases h5 : Nat.beq cap len with
  | true =>
    rw [h5] at hv
    simp only [cond_true] at hv ⊢
    split at hv
    · rename_i old hold
      simp only [Option.some.injEq, Prod.mk.injEq] at hv
      obtain ⟨rfl, rfl⟩ := hv
      rw [ha.next]
      exact ⟨_, rfl, .push ha _⟩
    · cases hv
  | false =>
  rw [h5] at hv
  simp only [cond_false] at hv ⊢
  cases h6 : Nat.beq cap (len + esz) with
  | false => rw [h6] at hv; simp at hv
  | true =>
  rw [h6] at hv
  simp only [cond_true] at hv ⊢
  cases base with
  | none => simp at hv
  | some a =>
    have hb' : a.block ∈ R := hb _ (by simp [blkOf])
    dsimp only at hv ⊢
    rw [ha.get _ hb']
    split at hv
    · rename_i cs m e hg he
      cases hc : (low.ok a.block && Nat.beq e cs.length && Nat.ble m e && Nat.beq (a.off + len * esz) e && new.all one1) with
      | false => rw [hc] at hv; simp at hv
      | true =>
        rw [hc] at hv
        simp only [cond_true, Option.some.injEq, Prod.mk.injEq] at hv ⊢
        obtain ⟨rfl, rfl⟩ := hv
        exact ⟨_, ⟨rfl, rfl⟩, .put ha hb' (AH.lt_of_get hg) _⟩
    · cases hv

/-- The same result, over another heap. -/
inductive SameRes (R : List Nat) (h h2 : AH) : ARes → ARes → Prop
  | val {v : Value} {h' h2' : AH} : LocRel R h h' h2 h2' → SameRes R h h2 (.val v h') (.val v h2')
  | skip {h' h2' : AH} : LocRel R h h' h2 h2' → SameRes R h h2 (.skip h') (.skip h2')

theorem convV_loc (ha : Agree R h h2) {s d : TypeId} {x : Value} {res : ARes} (hb : ∀ f, f ∈ blkOf x → f ∈ R) (hc : convV L h s d x = some res) : ∃ res2, convV L h2 s d x = some res2 ∧ SameRes R h h2 res res2 := by
  unfold convV at hc ⊢
  split at hc
  · cases hc; exact ⟨_, rfl, .val (.same ha)⟩
  · cases hc; exact ⟨_, rfl, .val (.same ha)⟩
  · rename_i e a n _ _
    (try dsimp only)
    split at hc
    · cases hc; exact ⟨_, rfl, .val (.same ha)⟩
    · rename_i a'
      rw [rd_loc ha (hb _ (by simp [blkOf]))]
      split at hc
      · rename_i cs hcs
        simp only [Option.map_eq_some_iff] at hc
        obtain ⟨bs, hbs, rfl⟩ := hc
        exact ⟨_, by rw [hbs]; rfl, .val (.same ha)⟩
      · cases hc
    · cases hc
  · cases hc

theorem mem_blks {f : Nat} {v : Value} {vs : List Value} (hv : v ∈ vs) (hf : f ∈ blkOf v) : f ∈ blks vs := by
  induction vs with
  | nil => cases hv
  | cons x xs ih =>
    unfold blks
    rcases List.mem_cons.mp hv with rfl | hv
    · exact List.mem_append_left _ hf
    · exact List.mem_append_right _ (ih hv)

theorem builtin_loc {b : Builtin} {ts : Array TypeId} {args : List Value} {res : ARes} (hR : ∀ f, f ∈ blks args → f ∈ R) (hb : b = .append ∨ b = .copy ∨ b = .clear) (ha : Agree R h h2) (hv : builtinV L low h b ts args = some res) :
    ∃ res2, builtinV L low h2 b ts args = some res2 ∧ SameRes R h h2 res res2 := by
  have harg : ∀ v, v ∈ args → ∀ f, f ∈ blkOf v → f ∈ R := fun v hv f hf => hR f (mem_blks hv hf)
  unfold builtinV at hv ⊢
  split at hv <;> first | (rcases hb with hb | hb | hb <;> cases hb; done) | skip
  · -- append
    rename_i s x
    have hs := harg s (by simp)
    have hx := harg x (by simp)
    (try dsimp only)
    split at hv
    case h_2 => cases hv
    rename_i t ht
    (try dsimp only)
    split at hv
    case h_2 => cases hv
    rename_i e hu
    (try dsimp only)
    split at hv
    case h_2 => cases hv
    rename_i esz z h1 h3
    (try dsimp only)
    split at hv
    · rename_i hw
      (try dsimp only)
      split at hv
      case h_2 => cases hv
      rename_i n
      (try dsimp only)
      cases hbl : Nat.blt n 1073741824 with
      | false => rw [hbl] at hv; simp at hv
      | true =>
        rw [hbl] at hv
        simp only [cond_true, Option.map_eq_some_iff] at hv ⊢
        obtain ⟨⟨v, h'⟩, hv, rfl⟩ := hv
        obtain ⟨h2', k1, k2⟩ := appendV_loc ha hs hv
        exact ⟨_, ⟨(v, h2'), k1, rfl⟩, .val k2⟩
    · rename_i hw
      (try dsimp only)
      split at hv
      case h_2 => cases hv
      rename_i n hn
      (try dsimp only)
      rw [seqCells_loc ha hx]
      split at hv
      case h_2 => cases hv
      rename_i new hnew
      simp only [Option.map_eq_some_iff] at hv ⊢
      obtain ⟨⟨v, h'⟩, hv, rfl⟩ := hv
      obtain ⟨h2', k1, k2⟩ := appendV_loc ha hs hv
      exact ⟨_, ⟨(v, h2'), k1, rfl⟩, .val k2⟩
    · cases hv
  · -- copy
    rename_i base dl cap x
    have hs := harg (.slice base dl cap) (by simp)
    have hx := harg x (by simp)
    (try dsimp only)
    split at hv
    case h_2 => cases hv
    rename_i t ht
    (try dsimp only)
    split at hv
    case h_2 => cases hv
    rename_i e hu
    (try dsimp only)
    split at hv
    case h_2 => cases hv
    rename_i esz sl h1 h3
    (try dsimp only at hv ⊢)
    rw [seqCells_loc ha hx]
    split at hv
    case h_2 => cases hv
    rename_i cs hcs
    split at hv
    · rename_i a
      simp only [Option.map_eq_some_iff] at hv ⊢
      obtain ⟨h', hv, rfl⟩ := hv
      obtain ⟨h2', k1, k2⟩ := wr_loc ha (hs _ (by simp [blkOf])) hv
      exact ⟨_, ⟨h2', k1, rfl⟩, .val k2⟩
    · cases hbe : Nat.beq (Nat.min sl dl) 0 with
      | false => rw [hbe] at hv; simp at hv
      | true => rw [hbe] at hv; simp only [cond_true, Option.some.injEq] at hv ⊢; subst hv; exact ⟨_, rfl, .val (.same ha)⟩
  · -- clear
    rename_i base n cap
    have hs := harg (.slice base n cap) (by simp)
    (try dsimp only)
    split at hv
    case h_2 => cases hv
    rename_i t ht
    (try dsimp only)
    split at hv
    case h_2 => cases hv
    rename_i e hu
    (try dsimp only)
    split at hv
    · rename_i z a hz
      simp only [Option.map_eq_some_iff] at hv ⊢
      obtain ⟨h', hv, rfl⟩ := hv
      obtain ⟨h2', k1, k2⟩ := wr_loc ha (hs _ (by simp [blkOf])) hv
      exact ⟨_, ⟨h2', k1, rfl⟩, .val k2⟩
    · cases hv
      exact ⟨_, rfl, .val (.same ha)⟩
    · cases hv
  · cases hv

theorem aop_loc {ρ : Operand → Value} {o : Op} {W : Option Nat} {res : ARes} (hl : localFp ρ o = some (R, W)) (ha : Agree R h h2) (hv : aop L low ρ h o = some res) :
    ∃ res2, aop L low ρ h2 o = some res2 ∧ SameRes R h h2 res res2 := by
  cases o <;> simp only [localFp] at hl <;> (try (cases hl; done)) <;> simp only [aop] at hv ⊢
  case alloc t =>
    simp only [Option.map_eq_some_iff] at hv
    obtain ⟨z, hz, rfl⟩ := hv
    rw [hz, ha.next]
    exact ⟨_, rfl, .val (.push ha _)⟩
  case box t x =>
    cases hv
    rw [ha.next]
    exact ⟨_, rfl, .val (.push ha _)⟩
  case buildSlice t n ps =>
    split at hv
    case h_2 => cases hv
    rename_i e hu
    (try dsimp only)
    split at hv
    case h_2 => cases hv
    rename_i esz z h1 h3
    cases hc : (Nat.ble (n * esz) (2 ^ 24) && !(Nat.beq esz 0)) with
    | false => rw [hc] at hv; simp at hv
    | true =>
      rw [hc] at hv
      simp only [cond_true, Option.map_eq_some_iff] at hv ⊢
      obtain ⟨cs, hcs, rfl⟩ := hv
      refine ⟨_, ⟨cs, hcs, rfl⟩, ?_⟩
      rw [ha.next]
      exact .val (.push ha _)
  case load t a =>
    simp only [Option.some.injEq, Prod.mk.injEq] at hl
    obtain ⟨rfl, _⟩ := hl
    split at hv
    case h_2 => cases hv
    rename_i a' heq
    simp only [Option.map_eq_some_iff] at hv ⊢
    obtain ⟨v, hv, rfl⟩ := hv
    rw [loadT_loc ha (by simp [heq, blkOf])]
    exact ⟨_, ⟨v, hv, rfl⟩, .val (.same ha)⟩
  case store t a x =>
    simp only [Option.some.injEq, Prod.mk.injEq] at hl
    obtain ⟨rfl, _⟩ := hl
    split at hv
    case h_2 => cases hv
    rename_i a' n heq hn
    (try dsimp only at hv ⊢)
    cases hc : Nat.beq (cellsOf (ρ x)).length n with
    | false => rw [hc] at hv; simp at hv
    | true =>
      rw [hc] at hv
      simp only [cond_true, Option.map_eq_some_iff] at hv ⊢
      obtain ⟨h', hv, rfl⟩ := hv
      obtain ⟨h2', k1, k2⟩ := wr_loc ha (by simp [heq, blkOf]) hv
      exact ⟨_, ⟨h2', k1, rfl⟩, .skip k2⟩
  case makeSlice t l c =>
    split at hv
    case h_2 => cases hv
    rename_i e hu
    (try dsimp only)
    split at hv
    case h_2 => cases hv
    rename_i esz z l' c' h1 h3 h4 h5
    (try dsimp only)
    cases hc : (Nat.ble l' c' && Nat.ble c' (2 ^ 24) && !(Nat.beq esz 0) && Nat.blt esz big) with
    | false => rw [hc] at hv; simp at hv
    | true =>
      rw [hc] at hv
      simp only [cond_true, Option.some.injEq] at hv ⊢
      subst hv
      rw [ha.next]
      exact ⟨_, rfl, .val (.push ha _)⟩
  case convert s d x =>
    simp only [Option.some.injEq, Prod.mk.injEq] at hl
    obtain ⟨rfl, _⟩ := hl
    exact convV_loc ha (fun f hf => hf) hv
  case call c =>
    split at hl
    case h_2 => cases hl
    rename_i b hcal
    simp only [hcal] at hv ⊢
    split at hl <;> first | (cases hl; done) | skip
    all_goals
      simp only [Option.some.injEq, Prod.mk.injEq] at hl
      obtain ⟨rfl, _⟩ := hl
      exact builtin_loc (fun f hf => hf) (by simp) ha hv

theorem opV_loc {r : Rec} {fr : Fr} {o : Oper} {W : Option Nat} {v : Value} {ds : List ADef} (hl : localFp fr.env.eval o.op = some (R, W)) (ha : Agree R h h2) (hv : opV L r low fr h o = some (v, h', ds)) :
    ∃ h2', opV L r low fr h2 o = some (v, h2', ds) ∧ LocRel R h h' h2 h2' := by
  unfold opV at hv ⊢
  cases hop : aop L low fr.env.eval h o.op with
  | none => rw [hop] at hv; simp at hv
  | some res =>
    rw [hop] at hv
    obtain ⟨res2, k1, k2⟩ := aop_loc hl ha hop
    rw [k1]
    cases k2 with
    | val k => simp only [Option.some.injEq, Prod.mk.injEq] at hv ⊢; obtain ⟨rfl, rfl, rfl⟩ := hv; exact ⟨_, ⟨rfl, rfl, rfl⟩, k⟩
    | skip k => simp only [Option.some.injEq, Prod.mk.injEq] at hv ⊢; obtain ⟨rfl, rfl, rfl⟩ := hv; exact ⟨_, ⟨rfl, rfl, rfl⟩, k⟩

theorem AH.ofFun' (g : Nat → Option AObj) : ∀ n, ∃ h : AH, h.next = n ∧ (∀ f, h.get f = if f < n then g f else none) ∧ ∀ f, n ≤ f → h.tr.get f = none
  | 0 => ⟨⟨0, .leaf⟩, rfl, fun f => by rw [AH.get_ge (Nat.zero_le _)]; simp, fun f _ => rfl⟩
  | n + 1 => by
    obtain ⟨h, h1, h2, h3⟩ := AH.ofFun' g n
    cases hg : g n with
    | none =>
      refine ⟨⟨n + 1, h.tr⟩, rfl, fun f => ?_, fun f hf => h3 f (by omega)⟩
      by_cases hf : f < n + 1
      · rw [AH.get_lt (by exact hf), if_pos hf]
        by_cases hfn : f = n
        · subst hfn; rw [hg]; exact h3 f (Nat.le_refl _)
        · have := h2 f
          rw [AH.get_lt (by omega), if_pos (by omega)] at this
          exact this
      · rw [AH.get_ge (by simpa using Nat.le_of_not_lt hf), if_neg hf]
    | some o =>
      refine ⟨h.push o, by simp [h1], fun f => ?_, fun f hf => ?_⟩
      · rw [AH.get_push, h1, h2 f]
        by_cases hfn : f = n
        · subst hfn; rw [if_pos rfl, if_pos (by omega), hg]
        · rw [if_neg hfn]
          by_cases hf : f < n
          · rw [if_pos hf, if_pos (by omega)]
          · rw [if_neg hf, if_neg (by omega)]
      · show (h.tr.set h.next o).get f = none
        rw [Tr.get_set, if_neg (by omega)]
        exact h3 f (by omega)

/-- A heap of given objects. -/
theorem AH.ofFun (g : Nat → Option AObj) (n : Nat) : ∃ h : AH, h.next = n ∧ ∀ f, h.get f = if f < n then g f else none :=
  let ⟨h, h1, h2, _⟩ := AH.ofFun' g n; ⟨h, h1, h2⟩

end Go.AM

namespace Go.AM
variable {P : Program} {L : Ty}

theorem dst_lt {N : Nat} {o : Oper} (h : operOk N o = true) {d : Tmp} (hd : o.dst = some d) : d < N := by
  unfold operOk at h
  simp only [hd, Bool.and_eq_true] at h
  exact Nat.ble_eq.mp h.2

theorem opOk_opd {op : Op} (h : opOk op = true) {x : Operand} (hx : x ∈ op.operands.toList) : opdOk x = true := by
  unfold opOk at h; simp only [List.all_eq_true] at h; exact h x hx

theorem opsV_sim (hL : L.Ok P) {r : Rec} (hsim : SimRec P r) {low : Lw} {N : Nat} {ops : Array Oper} : ∀ (rest : List Oper) (i : Nat) (fr : Fr) (h : AH) (fr' : Fr) (h' : AH), ops.toList.drop i = rest → rest.all (operOk N) = true →
    opsV L r low ops rest fr h = some (fr', h') → low.le h.next → AKept low h h' ∧ fr'.round = fr.round ∧
      ∀ (F : Fence) n μ w a (Q : Exit → Act → World → Prop), Wd F → RoundRel μ fr.round F.round → St μ fr h a w → N ≤ a.tmps.size →
        (∀ μ' a' w', Step low μ μ' w w' → St μ' fr' h' a' w' → a'.tmps.size = a.tmps.size → Q .normal a' w') → wpOpsIn F n P ops Q (List.range' i rest.length) a w
  | [], i, fr, h, fr', h', _, _, he, _ => by
    simp only [opsV, Option.some.injEq, Prod.mk.injEq] at he
    obtain ⟨rfl, rfl⟩ := he
    refine ⟨.refl _ _, rfl, fun F n μ w a Q _ _ hst _ hQ => ?_⟩
    simpa [wpOpsIn] using hQ μ a w (.refl _ _ _) hst rfl
  | o :: rest, i, fr, h, fr', h', hd, hok, he, hlow => by
    simp only [List.all_cons, Bool.and_eq_true] at hok
    have hio : ops[i]? = some o := by
      have : (ops.toList.drop i)[0]? = some o := by rw [hd]; rfl
      simpa using this
    have hd' : ops.toList.drop (i + 1) = rest := by
      have : (ops.toList.drop i).drop 1 = rest := by rw [hd]; rfl
      simpa [List.drop_drop] using this
    have hdst : ∀ {a : Act}, N ≤ a.tmps.size → ∀ t, o.dst = some t → t < a.tmps.size := fun hN t ht => Nat.lt_of_lt_of_le (dst_lt hok.1 ht) hN
    have hopk : opOk o.op = true := by have := hok.1; unfold operOk at this; simp only [Bool.and_eq_true] at this; exact this.1
    unfold opsV at he
    cases hg : guardV ops fr.env o with
    | true =>
      rw [hg] at he
      simp only [cond_true] at he
      cases ho : opV L r low fr h o with
      | none => rw [ho] at he; simp at he
      | some x =>
        obtain ⟨v, h1, ds⟩ := x
        rw [ho] at he
        dsimp only at he
        obtain ⟨k1, k2, k3⟩ := opV_sim hL hsim ho hlow hopk
        obtain ⟨r1, r2, r3⟩ := opsV_sim hL hsim (N := N) rest (i + 1) _ _ _ _ hd' hok.2 he (Lw.le.mono hlow k1.next)
        refine ⟨k1.trans r1, r2, fun F n μ w a Q hF hro hst hN hQ => ?_⟩
        rw [List.length_cons, List.range'_succ]
        simp only [wpOpsIn, hio]
        rw [← guard_eq hst.env ops o, hg]
        simp only [if_true]
        refine k3 F n μ w a _ _ hF hro hst.rel (fun x hx => eval_rel hst.env x (opOk_opd hopk hx)) fun μ' w' c dc q1 q2 q3 q4 => ?_
        refine r3 F n μ' w' _ Q hF (hro.mono q1.sub) ⟨q2, ?_, ?_⟩ (by rw [put_size]; exact hN) fun μ'' a'' w'' s1 s2 s3 => hQ μ'' a'' w'' (q1.trans s1) s2 (by rw [s3, put_size])
        · exact EnvRel.put (a := { a with defers := dc ++ a.defers }) (hst.env.mono q1.sub) (hdst hN) q3
        · rw [put_defers']; exact q4.append (hst.defs.mono q1.sub)
    | false =>
      rw [hg] at he
      simp only [cond_false] at he
      obtain ⟨r1, r2, r3⟩ := opsV_sim hL hsim (N := N) rest (i + 1) _ _ _ _ hd' hok.2 he hlow
      refine ⟨r1, r2, fun F n μ w a Q hF hro hst hN hQ => ?_⟩
      rw [List.length_cons, List.range'_succ]
      simp only [wpOpsIn, hio]
      rw [← guard_eq hst.env ops o, hg]
      simp only [Bool.false_eq_true, if_false]
      refine ⟨fun f _ => hF.fn f, ?_⟩
      refine r3 F n μ w _ Q hF hro ⟨hst.rel, hst.env.put (hdst hN) .undef, by rw [put_defers']; exact hst.defs⟩ (by rw [put_size]; exact hN) fun μ'' a'' w'' s1 s2 s3 => hQ μ'' a'' w'' s1 s2 (by rw [s3, put_size])

end Go.AM

namespace Go.AM
variable {P : Program} {L : Ty}

theorem pop_heap {low : Lw} {ρ : Operand → Value} {h : AH} {o : Op} {res : ARes} (hp : pureOp o = true) (ha : aop L low ρ h o = some res) : ∃ v, res = .val v h := by
  cases o <;> simp only [aop] at ha <;> (try (simp [pureOp] at hp; done))
  case call c =>
    simp only [pureOp] at hp
    split at ha
    · rename_i f hcal; rw [hcal] at hp; simp at hp
    · rename_i f m hcal; rw [hcal] at hp; simp at hp
    · rename_i b hcal
      rw [hcal] at hp
      unfold builtinV at ha
      split at ha
      · (repeat' split at ha) <;> first | (cases ha; done) | (cases ha; exact ⟨_, rfl⟩)
      · simp at hp
      · cases ha; exact ⟨_, rfl⟩
      · cases ha; exact ⟨_, rfl⟩
      · simp at hp
      · simp at hp
      · simp at hp
      · cases ha
  all_goals
    try simp only [Bool.cond_eq_ite] at ha
    (repeat' split at ha) <;> first
      | (cases ha; done)
      | (cases ha; exact ⟨_, rfl⟩)
      | (simp only [Option.map_eq_some_iff] at ha; obtain ⟨_, _, rfl⟩ := ha; exact ⟨_, rfl⟩)

/-! ### the masks -/
theorem masks_length : ∀ (os : List Oper) (ms : List Nat), (masks os ms).length = ms.length + os.length
  | [], ms => by simp [masks]
  | o :: os, ms => by simp [masks, masks_length os]; omega
theorem masks_prefix : ∀ (os : List Oper) (ms : List Nat), (masks os ms).take ms.length = ms
  | [], ms => by simp [masks]
  | o :: os, ms => by
    have h := masks_prefix os (ms ++ [maskOf ms o])
    have : ((masks os (ms ++ [maskOf ms o])).take (ms ++ [maskOf ms o]).length).take ms.length = ms := by rw [h]; simp
    rw [List.take_take] at this
    simpa [masks] using this
theorem masks_get : ∀ (os : List Oper) (ms : List Nat) (j : Nat) (o : Oper), os[j]? = some o → (masks os ms).getD (ms.length + j) 0 = maskOf ((masks os ms).take (ms.length + j)) o
  | [], ms, j, o, h => by simp at h
  | p :: os, ms, 0, o, h => by
    simp at h; subst h
    simp only [masks, Nat.add_zero]
    have h := masks_prefix os (ms ++ [maskOf ms p])
    have h2 : (masks os (ms ++ [maskOf ms p])).take ms.length = ms := by
      have : ((masks os (ms ++ [maskOf ms p])).take (ms ++ [maskOf ms p]).length).take ms.length = ms := by rw [h]; simp
      rw [List.take_take] at this
      simpa using this
    rw [h2]
    have : (masks os (ms ++ [maskOf ms p]))[ms.length]? = some (maskOf ms p) := by
      have h3 : ((masks os (ms ++ [maskOf ms p])).take (ms ++ [maskOf ms p]).length)[ms.length]? = some (maskOf ms p) := by rw [h]; simp
      rw [List.getElem?_take] at h3
      simpa using h3
    simp [List.getD_eq_getElem?_getD, this]
  | p :: os, ms, j + 1, o, h => by
    have := masks_get os (ms ++ [maskOf ms p]) j o (by simpa using h)
    simp only [masks]
    rw [show ms.length + (j + 1) = (ms ++ [maskOf ms p]).length + j from by simp; omega]
    exact this

theorem maskOf_bit {ms : List Nat} {o : Oper} {i : Nat} (h : (maskOf ms o).testBit i = true) : ∃ e ∈ o.after.toList, Region.binds .any e = true ∧ (e.on = i ∨ (ms.getD e.on 0).testBit i = true) := by
  unfold maskOf at h
  have key : ∀ (l : List Edge) (s : Nat), (l.foldl (fun s e => bif Region.binds .any e then s ||| 2 ^ e.on ||| ms.getD e.on 0 else s) s).testBit i = true → s.testBit i = true ∨ ∃ e ∈ l, Region.binds .any e = true ∧ (e.on = i ∨ (ms.getD e.on 0).testBit i = true) := by
    intro l
    induction l with
    | nil => intro s hs; exact .inl hs
    | cons e l ih =>
      intro s hs
      rw [List.foldl_cons] at hs
      rcases ih _ hs with h1 | ⟨e', he', h2⟩
      · cases hb : Region.binds .any e with
        | false => rw [hb] at h1; simp at h1; exact .inl h1
        | true =>
          rw [hb] at h1
          simp only [cond_true, Nat.testBit_or, Bool.or_eq_true] at h1
          rcases h1 with (h1 | h1) | h1
          · exact .inl h1
          · rw [Nat.testBit_two_pow] at h1
            exact .inr ⟨e, by simp, hb, .inl (by simpa using h1)⟩
          · exact .inr ⟨e, by simp, hb, .inr h1⟩
      · exact .inr ⟨e', by simp [he'], h2⟩
  rcases key _ _ h with h | h
  · simp at h
  · exact h

/-- Who comes ahead of one that has come up has come up. -/
theorem ahead_done {ops : Array Oper} (hst : ops.toList.zipIdx.all (fun (o, j) => o.after.toList.all fun e => !(Region.binds .any e) || Nat.blt e.on j) = true)
    {S : Nat → Prop} (hS : ∀ j o, S j → ops[j]? = some o → ∀ e ∈ o.after.toList, Region.binds .any e = true → S e.on) :
    ∀ (j i : Nat), j < ops.size → S j → ahead (masks ops.toList []) i j = true → S i ∧ i < j := by
  intro j
  induction j using Nat.strongRecOn with
  | _ j ih =>
    intro i hj hSj ha
    obtain ⟨o, ho⟩ : ∃ o, ops[j]? = some o := ⟨ops[j], by simp [hj]⟩
    have hot : ops.toList[j]? = some o := by simpa using ho
    unfold ahead at ha
    have hg := masks_get ops.toList [] j o hot
    simp only [List.length_nil, Nat.zero_add] at hg
    rw [hg] at ha
    obtain ⟨e, he, hb, h⟩ := maskOf_bit ha
    have hSe := hS j o hSj ho e he hb
    have hlt : e.on < j := by
      simp only [List.all_eq_true] at hst
      have := hst (o, j) (by rw [List.mem_zipIdx_iff_getElem?]; simpa using hot) e he
      rw [hb] at this
      simp only [Bool.not_true, Bool.false_or] at this
      exact Nat.ble_eq.mp this
    rcases h with rfl | h
    · exact ⟨hSe, hlt⟩
    · have : ahead (masks ops.toList []) i e.on = true := by
        unfold ahead
        rw [List.getD_eq_getElem?_getD, List.getElem?_take, if_pos hlt] at h
        rw [List.getD_eq_getElem?_getD]; exact h
      obtain ⟨q1, q2⟩ := ih e.on hlt i (by omega) hSe this
      exact ⟨q1, by omega⟩

/-! ### the trace -/
structure Tstep (L : Ty) (r : Rec) (low : Lw) (ops : Array Oper) (fr : Fr) (V : Nat → Value) (H : Nat → AH) (E : Nat → Env) (K : Nat → Kind) (j : Nat) : Prop where
  out : ∃ o, ops[j]? = some o ∧ E (j + 1) = (E j).put o.dst (V j) ∧
    ((guardV ops (E j) o = false ∧ V j = undef ∧ H (j + 1) = H j ∧ K j = .pure) ∨
     (guardV ops (E j) o = true ∧ drawOp L r low { fr with env := E j } (H j) o = some (K j, V j, H (j + 1))))

theorem trace_of {r : Rec} {low : Lw} {ops : Array Oper} {fr0 : Fr} : ∀ (rest : List Oper) (i : Nat) (fr : Fr) (h : AH) (ks : List Kind) (fr' : Fr) (h' : AH), ops.toList.drop i = rest → fr.defers = fr0.defers → fr.round = fr0.round →
    drawV L r low ops rest fr h = some (ks, fr', h') →
    ∃ (V : Nat → Value) (H : Nat → AH) (E : Nat → Env) (K : Nat → Kind), H i = h ∧ E i = fr.env ∧ H (i + rest.length) = h' ∧ fr' = { fr0 with env := E (i + rest.length) } ∧ ks.length = rest.length ∧
      (∀ j, j < rest.length → ks[j]? = some (K (i + j))) ∧ ∀ j, i ≤ j → j < i + rest.length → Tstep L r low ops fr0 V H E K j
  | [], i, fr, h, ks, fr', h', _, hd, hr, he => by
    simp only [drawV, Option.some.injEq, Prod.mk.injEq] at he
    obtain ⟨rfl, rfl, rfl⟩ := he
    refine ⟨fun _ => undef, fun _ => h, fun _ => fr.env, fun _ => .pure, rfl, rfl, rfl, ?_, rfl, fun j hj => by simp at hj, fun j h1 h2 => by simp at h2; omega⟩
    cases fr; simp_all
  | o :: rest, i, fr, h, ks, fr', h', hdr, hd, hr, he => by
    have hio : ops[i]? = some o := by
      have : (ops.toList.drop i)[0]? = some o := by rw [hdr]; rfl
      simpa using this
    have hdr' : ops.toList.drop (i + 1) = rest := by
      have : (ops.toList.drop i).drop 1 = rest := by rw [hdr]; rfl
      simpa [List.drop_drop] using this
    have hfr : fr = { fr0 with env := fr.env } := by cases fr; simp_all
    -- one step, and the rest
    have key : ∀ (k : Kind) (v : Value) (h1 : AH) (ks1 : List Kind), ks = k :: ks1 → drawV L r low ops rest { fr with env := fr.env.put o.dst v } h1 = some (ks1, fr', h') →
        ((guardV ops fr.env o = false ∧ v = undef ∧ h1 = h ∧ k = .pure) ∨ (guardV ops fr.env o = true ∧ drawOp L r low fr h o = some (k, v, h1))) →
        ∃ (V : Nat → Value) (H : Nat → AH) (E : Nat → Env) (K : Nat → Kind), H i = h ∧ E i = fr.env ∧ H (i + (o :: rest).length) = h' ∧ fr' = { fr0 with env := E (i + (o :: rest).length) } ∧ ks.length = (o :: rest).length ∧
          (∀ j, j < (o :: rest).length → ks[j]? = some (K (i + j))) ∧ ∀ j, i ≤ j → j < i + (o :: rest).length → Tstep L r low ops fr0 V H E K j := by
      intro k v h1 ks1 hks hdv hcase
      obtain ⟨V, H, E, K, q1, q2, q3, q4, q5, q6, q7⟩ := trace_of (fr0 := fr0) rest (i + 1) { fr with env := fr.env.put o.dst v } h1 ks1 fr' h' hdr' hd hr hdv
      have e1 : i + (o :: rest).length = i + 1 + rest.length := by simp; omega
      refine ⟨fun j => if j = i then v else V j, fun j => if j = i then h else H j, fun j => if j = i then fr.env else E j, fun j => if j = i then k else K j, by simp, by simp, ?_, ?_, by rw [hks]; simp [q5], fun j hj => ?_, fun j h2 h3 => ?_⟩
      · dsimp only; rw [if_neg (by rw [e1]; omega), e1]; exact q3
      · dsimp only; rw [if_neg (by rw [e1]; omega), e1]; exact q4
      · rw [hks]
        cases j with
        | zero => simp
        | succ j =>
          dsimp only
          rw [if_neg (by omega)]
          have := q6 j (by simpa using hj)
          rw [show i + (j + 1) = i + 1 + j from by omega]
          simpa using this
      · by_cases hji : j = i
        · subst hji
          refine ⟨o, hio, ?_, ?_⟩
          · rw [if_neg (by omega), if_pos rfl, if_pos rfl]; exact q2
          · rw [if_pos rfl, if_pos rfl, if_pos rfl, if_pos rfl, if_neg (by omega), q1]
            rcases hcase with hc | ⟨hc1, hc2⟩
            · exact .inl hc
            · rw [hfr] at hc2
              exact .inr ⟨hc1, hc2⟩
        · obtain ⟨o', w1, w2, w3⟩ := q7 j (by omega) (by rw [← e1]; exact h3)
          refine ⟨o', w1, ?_, ?_⟩
          · rw [if_neg (by omega), if_neg hji, if_neg hji]; exact w2
          · rw [if_neg hji, if_neg hji, if_neg hji, if_neg hji, if_neg (by omega)]; exact w3
    unfold drawV at he
    cases hg : guardV ops fr.env o with
    | true =>
      rw [hg] at he
      simp only [cond_true] at he
      cases hop : drawOp L r low fr h o with
      | none => rw [hop] at he; simp at he
      | some x =>
        obtain ⟨k, v, h1⟩ := x
        rw [hop] at he
        dsimp only at he
        cases hdv : drawV L r low ops rest { fr with env := fr.env.put o.dst v } h1 with
        | none => rw [hdv] at he; simp at he
        | some y =>
          obtain ⟨ks1, fr1, h2⟩ := y
          rw [hdv] at he
          simp only [Option.some.injEq, Prod.mk.injEq] at he
          obtain ⟨rfl, rfl, rfl⟩ := he
          exact key k v h1 ks1 rfl hdv (.inr ⟨hg, hop⟩)
    | false =>
      rw [hg] at he
      simp only [cond_false] at he
      cases hdv : drawV L r low ops rest { fr with env := fr.env.put o.dst undef } h with
      | none => rw [hdv] at he; simp at he
      | some y =>
        obtain ⟨ks1, fr1, h2⟩ := y
        rw [hdv] at he
        simp only [Option.some.injEq, Prod.mk.injEq] at he
        obtain ⟨rfl, rfl, rfl⟩ := he
        exact key .pure undef h ks1 rfl hdv (.inl ⟨hg, rfl, rfl, rfl⟩)

end Go.AM

namespace Go.AM
variable {P : Program} {L : Ty}

theorem RelC.sub {K K' : Nat → Mu} {μ μr : Mu} {h : AH} {w : World} (hr : RelC K μ h w) (hs : ∀ f e Lc, μr f e = some Lc → μ f e = some Lc ∧ (K f).le (K' f)) : RelC K' μr h w := by
  refine ⟨fun f e Lc x => hr.dom f e Lc (hs f e Lc x).1, fun f e Lc cs m ro x hg => ?_, fun f e L1 g e' L2 x y hb => hr.sep _ _ _ _ _ _ (hs _ _ _ x).1 (hs _ _ _ y).1 hb, fun f e Lc y x hg => ?_, fun f e Lc o x hg => let ⟨h0, O1, k1, hO⟩ := hr.oth f e Lc o (hs f e Lc x).1 hg; ⟨h0, O1, k1, hO.mono (hs f e Lc x).2⟩⟩
  · obtain ⟨h1, h2, h3, C, hrow, hcont⟩ := hr.cells _ _ _ _ _ _ (hs _ _ _ x).1 hg
    exact ⟨h1, h2, h3, C, hrow, fun hm o v q1 q2 q3 => let ⟨c, k1, k2⟩ := hcont hm o v q1 q2 q3; ⟨c, k1, k2.mono (hs _ _ _ x).2⟩⟩
  · obtain ⟨h0, Pl, k1, k2, k3, k4, k5, k6, k7, L1, k8, k9⟩ := hr.loops _ _ _ _ (hs _ _ _ x).1 hg
    exact ⟨h0, Pl, k1, k2, k3, k4, k5, k6, k7.mono (hs _ _ _ x).2, L1, (hs _ _ _ x).2 _ _ _ k8, k9⟩

theorem RelC.congr {K : Nat → Mu} {μ : Mu} {h h' : AH} {w : World} (hr : RelC K μ h w) (hs : ∀ f e Lc, μ f e = some Lc → f < h'.next ∧ h'.get f = h.get f) : RelC K μ h' w := by
  refine ⟨fun f e Lc x => ⟨(hs f e Lc x).1, (hr.dom f e Lc x).2⟩, fun f e Lc cs m ro x hg => hr.cells _ _ _ _ _ _ x ((hs _ _ _ x).2 ▸ hg), fun f e L1 g e' L2 x y hb => ?_, fun f e Lc y x hg => hr.loops _ _ _ _ x ((hs _ _ _ x).2 ▸ hg), fun f e Lc o x hg => hr.oth _ _ _ _ x ((hs _ _ _ x).2 ▸ hg)⟩
  rcases hr.sep _ _ _ _ _ _ x y hb with q | ⟨⟨c1, m1, q1⟩, ⟨c2, m2, q2⟩⟩
  · exact .inl q
  · exact .inr ⟨⟨c1, m1, (hs _ _ _ x).2.trans q1⟩, ⟨c2, m2, (hs _ _ _ y).2.trans q2⟩⟩

theorem guard_eq' {μ : Mu} {e : Env} {t : Array Value} (ops : Array Oper) (o : Oper) (h : ∀ d ∈ o.looksAt ops, VRel μ (e.get d) (t.getD d undef)) : guardV ops e o = Region.wanted o (yielded ops t) := by
  unfold guardV Region.wanted
  cases hgd : o.guard with
  | none => rfl
  | some g =>
    obtain ⟨j, want⟩ := g
    simp only [yielded]
    cases hd : (ops[j]?).bind (·.dst) with
    | none => simp
    | some d =>
      simp only [Option.bind_some]
      have hv := h d (by simp [Oper.looksAt, hgd, hd])
      simp only [Array.getD_eq_getD_getElem?] at hv
      cases ht : t[d]? with
      | none =>
        rw [ht] at hv
        simp only [Option.getD_none, undef_eq] at hv
        generalize e.get d = u at hv
        cases hv; simp
      | some c =>
        rw [ht] at hv
        simp only [Option.getD_some] at hv
        generalize e.get d = u at hv
        cases hv <;> simp

theorem evalAt_rel {μ : Mu} {e : Env} {a : Act} {x : Operand} (hx : opdOk x = true) (h : ∀ t, x = .tmp t → VRel μ (e.get t) (a.tmps.getD t undef)) : VRel μ (e.eval x) (a.eval x) := by
  cases x with
  | tmp t => exact h t rfl
  | const v =>
    have := opd_rel (μ := μ) (e := Env.empty) (a := { tmps := #[], defers := [] }) (fun i => by simp [Env.get_empty, undef_eq]; exact .tuple .nil) hx
    exact this
  | global i => exact .junk _
  | func f =>
    have := opd_rel (μ := μ) (e := Env.empty) (a := { tmps := #[], defers := [] }) (fun i => by simp [Env.get_empty, undef_eq]; exact .tuple .nil) hx
    exact this

/-! ### the trace's heaps -/
section
variable {r : Rec} {low : Lw} {k : Nat} {ops : Array Oper} {fr0 : Fr} {V : Nat → Value} {H : Nat → AH} {E : Nat → Env} {K : Nat → Kind}

def Kind.wrt : Kind → Nat → Prop
  | .pure, _ => False
  | .loc _ W, f => W = some f
  | .reads, _ => False
  | .writes, _ => True

def Kind.fp : Kind → Nat → Prop
  | .pure, _ => False
  | .loc R _, f => f ∈ R
  | .reads, _ => True
  | .writes, _ => True

/-- Operation j writes or makes the family. -/
def Wrf (H : Nat → AH) (K : Nat → Kind) (j f : Nat) : Prop := (f < (H j).next ∧ (K j).wrt f) ∨ ((H j).next ≤ f ∧ f < (H (j + 1)).next)

structure Tr0 (low : Lw) (k : Nat) (H : Nat → AH) (K : Nat → Kind) : Prop where
  next : ∀ i, i < k → (H i).next ≤ (H (i + 1)).next
  base : low.le (H 0).next
  pure : ∀ i, i < k → K i = .pure → H (i + 1) = H i
  get : ∀ i, i < k → ∀ f, f < (H i).next → ¬ (K i).wrt f → (H (i + 1)).get f = (H i).get f
  low0 : ∀ i, i < k → ∀ f, low.ok f = false → f < (H i).next → (H (i + 1)).get f = (H i).get f
  loc : ∀ i R f, i < k → K i = .loc R (some f) → f ∈ R ∧ nonRo (H i) f = true ∧ nonRo (H (i + 1)) f = true ∧ low.ok f = true

theorem Tr0.mono (t : Tr0 low k H K) {i : Nat} : ∀ {j : Nat}, i ≤ j → j ≤ k → (H i).next ≤ (H j).next
  | 0, h1, h2 => by have : i = 0 := by omega
                    subst this; exact Nat.le_refl _
  | j + 1, h1, h2 => by
    by_cases hj : i = j + 1
    · subst hj; exact Nat.le_refl _
    · exact Nat.le_trans (t.mono (j := j) (by omega) (by omega)) (t.next j (by omega))

theorem Tr0.same (t : Tr0 low k H K) {i : Nat} {f : Nat} (hf : f < (H i).next) : ∀ {j : Nat}, i ≤ j → j ≤ k → (∀ l, i ≤ l → l < j → ¬ Wrf H K l f) → (H j).get f = (H i).get f
  | 0, h1, h2, _ => by have : i = 0 := by omega
                       subst this; rfl
  | j + 1, h1, h2, h3 => by
    by_cases hj : i = j + 1
    · subst hj; rfl
    · have hlt : f < (H j).next := Nat.lt_of_lt_of_le hf (t.mono (by omega) (by omega))
      rw [t.get j (by omega) f hlt (fun hw => h3 j (by omega) (by omega) (.inl ⟨hlt, hw⟩))]
      exact t.same hf (by omega) (by omega) fun l q1 q2 => h3 l q1 (by omega)

theorem Tr0.kept (t : Tr0 low k H K) : ∀ {j : Nat}, j ≤ k → AKept low (H 0) (H j)
  | 0, _ => .refl _ _
  | j + 1, hj => (t.kept (by omega)).trans ⟨t.next j (by omega), fun f h1 h2 => t.low0 j (by omega) f h1 h2⟩

theorem Wrf.lt (t : Tr0 low k H K) {j f : Nat} (hj : j < k) (h : Wrf H K j f) : f < (H (j + 1)).next := by
  rcases h with ⟨h, _⟩ | ⟨_, h⟩
  · exact Nat.lt_of_lt_of_le h (t.next j hj)
  · exact h

theorem Wrf.nonpure (t : Tr0 low k H K) {j f : Nat} (hj : j < k) (h : Wrf H K j f) : K j ≠ .pure := fun hp => by
  rcases h with ⟨_, h⟩ | ⟨h1, h2⟩
  · rw [hp] at h; exact h
  · rw [t.pure j hj hp] at h2; omega

theorem memO_true {f : Nat} {R : List Nat} (h : f ∈ R) : memO (some f) R = true := by
  unfold memO; rw [List.any_eq_true]; exact ⟨f, h, Nat.beq_refl f⟩

theorem clash_fp {a b : Kind} {f : Nat} (h1 : a.fp f) (h2 : b.wrt f) : a.clash b = true ∧ b.clash a = true := by
  cases a <;> cases b <;> simp only [Kind.fp, Kind.wrt] at h1 h2 <;> (try exact h1.elim) <;> (try exact h2.elim) <;> (try subst h2) <;> simp [Kind.clash, memO_true, *]

theorem clash_writes {a : Kind} (h : a ≠ .pure) : Kind.clash .writes a = true ∧ a.clash .writes = true := by
  cases a <;> first | exact (h rfl).elim | exact ⟨rfl, rfl⟩

/-- What holds in the midst of the region. -/
structure DI (low : Lw) (k : Nat) (ops : Array Oper) (H : Nat → AH) (E : Nat → Env) (K : Nat → Kind) (μ0 : Mu) (w0 : World) (sz : Nat) (ds : List Deferred) (S : Nat → Prop) (m : Nat → Nat) (hs : AH) (μ : Mu) (a : Act) (w : World) : Prop where
  lt : ∀ j, S j → j < k
  mle : ∀ f, m f ≤ k
  mS : ∀ f, m f = 0 ∨ (0 < m f ∧ S (m f - 1) ∧ Wrf H K (m f - 1) f)
  mmax : ∀ f j, m f ≤ j → S j → ¬ Wrf H K j f
  hnext : hs.next = (H k).next
  hget : ∀ f, f < (H (m f)).next → hs.get f = (H (m f)).get f
  dom : ∀ f e Lc, μ f e = some Lc → f < (H 0).next ∨ ∃ j, S j ∧ (H j).next ≤ f ∧ f < (H (j + 1)).next
  wdom : ∀ j R f, S j → K j = .loc R (some f) → f < (H 0).next ∨ ∃ j', S j' ∧ (H j').next ≤ f ∧ f < (H (j' + 1)).next
  rel : RelC (fun f => μ.lt (H (m f)).next) μ hs w
  env : ∀ t, ∃ m, m ≤ k ∧ (m = 0 ∨ ∃ o, 0 < m ∧ S (m - 1) ∧ ops[m - 1]? = some o ∧ o.dst = some t) ∧ (∀ j o, m ≤ j → S j → ops[j]? = some o → o.dst ≠ some t) ∧ VRel (μ.lt (H m).next) ((E m).get t) (a.tmps.getD t undef)
  step : Step low μ0 μ w0 w
  size : a.tmps.size = sz
  defers : a.defers = ds

theorem Mu.lt_mono {μ μ' : Mu} (h : μ.le μ') {n m : Nat} (hn : n ≤ m) : (μ.lt n).le (μ'.lt m) := fun f e Lc x => by
  unfold Mu.lt at x ⊢; split at x
  · rw [if_pos (by omega)]; exact h _ _ _ x
  · cases x

theorem Mu.lt_some {μ : Mu} {n f e : Nat} {Lc : Loc} (h : μ.lt n f e = some Lc) : f < n ∧ μ f e = some Lc := by
  unfold Mu.lt at h; split at h
  · exact ⟨by assumption, h⟩
  · cases h

/-- What an operation that comes up looks at is what its run in the text's order looked at. -/
theorem DI.looks (hk : ops.size = k) (tr : Tr0 low k H K) (ht : ∀ j, j < k → Tstep L r low ops fr0 V H E K j) (hst : drawStatic ops = true)
    {μ0 : Mu} {w0 : World} {sz : Nat} {ds : List Deferred} {S : Nat → Prop} {m : Nat → Nat} {hs : AH} {μ : Mu} {a : Act} {w : World}
    (d : DI low k ops H E K μ0 w0 sz ds S m hs μ a w) (hcl : ∀ j o, S j → ops[j]? = some o → ∀ e ∈ o.after.toList, Region.binds .any e = true → S e.on)
    {i : Nat} {o : Oper} (hi : ops[i]? = some o) (hni : ¬ S i) (hed : ∀ e ∈ o.after.toList, Region.binds .any e = true → S e.on) :
    (∀ j, j < k → ahead (masks ops.toList []) j i = true → S j ∧ j < i) ∧
    (∀ j, j < k → S j → ahead (masks ops.toList []) i j = false) ∧
    (∀ t ∈ o.looksAt ops, VRel (μ.lt (H i).next) ((E i).get t) (a.tmps.getD t undef)) ∧
    (∀ j p t, j < k → S j → ops[j]? = some p → p.dst = some t → o.dst = some t → j < i) := by
  have hik : i < k := by rw [← hk]; exact (Array.getElem?_eq_some_iff.1 hi).1
  have hst1 : ops.toList.zipIdx.all (fun (o, j) => o.after.toList.all fun e => !(Region.binds .any e) || Nat.blt e.on j) = true := by
    unfold drawStatic at hst; simp only [Bool.and_eq_true] at hst; exact hst.1
  have hst2 : ∀ (j : Nat) (p q : Oper) (i' : Nat), ops[j]? = some q → ops[i']? = some p → i' < j → ahead (masks ops.toList []) i' j = true ∨ p.apart ops q = true := fun j p q i' hq hp hlt => by
    unfold drawStatic at hst; simp only [Bool.and_eq_true, List.all_eq_true, Bool.or_eq_true] at hst
    refine hst.2 (q, j) (by rw [List.mem_zipIdx_iff_getElem?]; simpa using hq) (p, i') ?_
    rw [List.mem_take_iff_getElem]
    have hs : i' < ops.size := (Array.getElem?_eq_some_iff.1 hp).1
    refine ⟨i', by simp; omega, ?_⟩
    have := (Array.getElem?_eq_some_iff.1 hp).2
    simp [this]
  have hS' : ∀ j o', (S j ∨ j = i) → ops[j]? = some o' → ∀ e ∈ o'.after.toList, Region.binds .any e = true → (S e.on ∨ e.on = i) := fun j o' hj ho e he hb => by
    rcases hj with hj | rfl
    · exact .inl (hcl j o' hj ho e he hb)
    · rw [hi] at ho; cases ho; exact .inl (hed e he hb)
  have A1 : ∀ j, j < k → ahead (masks ops.toList []) j i = true → S j ∧ j < i := fun j hj ha => by
    obtain ⟨q1, q2⟩ := ahead_done hst1 hS' i j (by omega) (.inr rfl) ha
    rcases q1 with q1 | q1
    · exact ⟨q1, q2⟩
    · omega
  have A2 : ∀ j, j < k → S j → ahead (masks ops.toList []) i j = false := fun j hj hs => by
    cases ha : ahead (masks ops.toList []) i j with
    | false => rfl
    | true => exact (hni (ahead_done hst1 hcl j i (by omega) hs ha).1).elim
  refine ⟨A1, A2, fun t htl => ?_, fun j p t hj hs hp hpd hod => ?_⟩
  · obtain ⟨m, hmk, hm, hmax, hv⟩ := d.env t
    have hmi : m ≤ i := by
      rcases hm with rfl | ⟨p, h0, h1, h2, h3⟩
      · omega
      · by_cases hlt : m - 1 < i
        · omega
        · have hne : m - 1 ≠ i := fun e => hni (e ▸ h1)
          rcases hst2 (m - 1) o p i h2 hi (by omega) with q | q
          · rw [A2 _ (by omega) h1] at q; cases q
          · exact ((Oper.apart_spec q).2.2 t h3 htl).elim
    have hsame : ∀ n, m + n ≤ i → (E (m + n)).get t = (E m).get t := by
      intro n
      induction n with
      | zero => intro _; rfl
      | succ n ih =>
        intro hn
        rw [← ih (by omega)]
        obtain ⟨p, hp, he, _⟩ := (ht (m + n) (by omega)).out
        rw [show m + (n + 1) = m + n + 1 from by omega, he]
        have hne : p.dst ≠ some t := by
          by_cases hs : S (m + n)
          · exact hmax _ _ (by omega) hs hp
          · rcases hst2 i p o (m + n) hi hp (by omega) with q | q
            · exact (hs (A1 _ (by omega) q).1).elim
            · exact fun hd => (Oper.apart_spec q).1 t hd htl
        cases hpd : p.dst with
        | none => rfl
        | some u =>
          simp only [Env.put, Env.get_set]
          rw [if_neg]
          rintro rfl
          exact hne hpd
    have := hsame (i - m) (by omega)
    rw [show m + (i - m) = i from by omega] at this
    rw [this]
    exact hv.mono (Mu.lt_mono (Mu.le_refl _) (tr.mono hmi (by omega)))
  · rcases Nat.lt_or_ge j i with q | q
    · exact q
    · have hne : j ≠ i := fun e => hni (e ▸ hs)
      rcases hst2 j o p i hp hi (by omega) with q | q
      · rw [A2 _ hj hs] at q; cases q
      · exact ((Oper.apart_spec q).2.1 t hod hpd).elim

/-- The temporaries, one more operation done. -/
theorem DI.env' (hk : ops.size = k) (tr : Tr0 low k H K) (ht : ∀ j, j < k → Tstep L r low ops fr0 V H E K j)
    {S : Nat → Prop} {μ μ' : Mu} {a : Act} (hle : μ.le μ') (hlt : ∀ j, S j → j < k)
    (henv : ∀ t, ∃ m, m ≤ k ∧ (m = 0 ∨ ∃ o, 0 < m ∧ S (m - 1) ∧ ops[m - 1]? = some o ∧ o.dst = some t) ∧ (∀ j o, m ≤ j → S j → ops[j]? = some o → o.dst ≠ some t) ∧ VRel (μ.lt (H m).next) ((E m).get t) (a.tmps.getD t undef))
    {i : Nat} {o : Oper} (hi : ops[i]? = some o) (hlast : ∀ j p t, j < k → S j → ops[j]? = some p → p.dst = some t → o.dst = some t → j < i)
    (hsz : ∀ t, o.dst = some t → t < a.tmps.size) {c : Value} (hv : VRel (μ'.lt (H (i + 1)).next) (V i) c) :
    ∀ t, ∃ m, m ≤ k ∧ (m = 0 ∨ ∃ o, 0 < m ∧ (S (m - 1) ∨ m - 1 = i) ∧ ops[m - 1]? = some o ∧ o.dst = some t) ∧ (∀ j o, m ≤ j → (S j ∨ j = i) → ops[j]? = some o → o.dst ≠ some t) ∧ VRel (μ'.lt (H m).next) ((E m).get t) ((a.put o.dst c).tmps.getD t undef) := by
  intro t
  have hik : i < k := by rw [← hk]; exact (Array.getElem?_eq_some_iff.1 hi).1
  by_cases hd : o.dst = some t
  · refine ⟨i + 1, by omega, .inr ⟨o, by omega, .inr (by omega), by simpa using hi, hd⟩, fun j p hj hs hp hpd => ?_, ?_⟩
    · rcases hs with hs | rfl
      · have := hlast j p t (hlt j hs) hs hp hpd hd; omega
      · omega
    · obtain ⟨p, hp, he, _⟩ := (ht i hik).out
      rw [hi] at hp; cases hp
      rw [he, hd]
      have := hsz t hd
      simp only [Env.put, Env.get_set, if_true, Act.put]
      simp [Array.getD, this]
      exact hv
  · obtain ⟨m, hmk, hm, hmax, hv'⟩ := henv t
    refine ⟨m, hmk, ?_, fun j p hj hs hp => ?_, ?_⟩
    · rcases hm with rfl | ⟨p, h0, h1, h2, h3⟩
      · exact .inl rfl
      · exact .inr ⟨p, h0, .inl h1, h2, h3⟩
    · rcases hs with hs | rfl
      · exact hmax j p hj hs hp
      · rw [hi] at hp; cases hp; exact hd
    · have : (a.put o.dst c).tmps.getD t undef = a.tmps.getD t undef := by
        cases hod : o.dst with
        | none => rfl
        | some u =>
          simp only [Act.put, Array.getD_eq_getD_getElem?]
          rw [Array.getElem?_setIfInBounds_ne]
          rintro rfl; exact hd hod
      rw [this]
      exact hv'.mono (Mu.lt_mono hle (Nat.le_refl _))
end

end Go.AM

namespace Go.AM
variable {P : Program} {L : Ty}
variable {r : Rec} {low : Lw} {k : Nat} {ops : Array Oper} {fr0 : Fr} {V : Nat → Value} {H : Nat → AH} {E : Nat → Env} {K : Nat → Kind}

theorem opV_pure {r : Rec} {low : Lw} {fr : Fr} {h h1 : AH} {o : Oper} {v : Value} {ds : List ADef} (hp : pureOp o.op = true) (h0 : opV L r low fr h o = some (v, h1, ds)) : h1 = h ∧ aop L low fr.env.eval h o.op = some (.val v h) := by
  unfold opV at h0
  cases ha : aop L low fr.env.eval h o.op with
  | none => rw [ha] at h0; simp at h0
  | some res =>
    rw [ha] at h0
    obtain ⟨v', rfl⟩ := pop_heap hp ha
    simp only [Option.some.injEq, Prod.mk.injEq] at h0
    obtain ⟨rfl, rfl, _⟩ := h0
    exact ⟨rfl, rfl⟩

theorem drawOp_cases {r : Rec} {low : Lw} {fr : Fr} {h h1 : AH} {o : Oper} {v : Value} {kd : Kind} (hd : drawOp L r low fr h o = some (kd, v, h1)) :
    (kd = .pure ∧ pureOp o.op = true ∧ opV L r low fr h o = some (v, h1, [])) ∨
    (∃ R W0 W lw, kd = .loc R W ∧ localFp fr.env.eval o.op = some (R, W0) ∧ opV L r lw fr h o = some (v, h1, []) ∧ ((W = none ∧ lw = .up h.next) ∨ (∃ f, W = some f ∧ W0 = some f ∧ lw = .one f h.next ∧ low.ok f = true ∧ nonRo h f = true ∧ nonRo h1 f = true))) ∨
    (kd = .reads ∧ opV L r (.up h.next) fr h o = some (v, h1, [])) ∨ (kd = .writes ∧ opV L r low fr h o = some (v, h1, [])) := by
  unfold drawOp at hd
  cases hp : pureOp o.op with
  | true =>
    rw [hp] at hd
    simp only [cond_true] at hd
    split at hd
    · rename_i h0; cases hd; exact .inl ⟨rfl, rfl, h0⟩
    · cases hd
  | false =>
    rw [hp] at hd
    simp only [cond_false] at hd
    split at hd
    · rename_i R W0 hl
      split at hd
      · rename_i h0; cases hd
        exact .inr (.inl ⟨R, W0, none, _, rfl, hl, h0, .inl ⟨rfl, rfl⟩⟩)
      · cases hd
      · split at hd
        · rename_i f
          cases hc : (low.ok f && nonRo h f) with
          | false => rw [hc] at hd; simp at hd
          | true =>
            rw [hc] at hd
            simp only [cond_true] at hd
            simp only [Bool.and_eq_true] at hc
            split at hd
            · rename_i v' h' h0
              cases hn : nonRo h' f with
              | false => rw [hn] at hd; simp at hd
              | true =>
                rw [hn] at hd; cases hd
                exact .inr (.inl ⟨R, some f, some f, _, rfl, hl, h0, .inr ⟨f, rfl, rfl, rfl, hc.1, hc.2, hn⟩⟩)
            · cases hd
        · cases hd
    · split at hd
      · rename_i h0; cases hd; exact .inr (.inr (.inl ⟨rfl, h0⟩))
      · cases hd
      · split at hd
        · rename_i h0; cases hd; exact .inr (.inr (.inr ⟨rfl, h0⟩))
        · cases hd

theorem blkOpt_mem {v : Value} {f : Nat} (h : blkOpt v = some f) : f ∈ blkOf v := by
  cases v <;> first | (simp [blkOpt] at h; done) | skip
  · rename_i a; cases a with
    | none => simp [blkOpt] at h
    | some a => simp [blkOpt] at h; simp [blkOf, h]
  · rename_i a _ _; cases a with
    | none => simp [blkOpt] at h
    | some a => simp [blkOpt] at h; simp [blkOf, h]

theorem localFp_mem {ρ : Operand → Value} {o : Op} {R : List Nat} {f : Nat} (h : localFp ρ o = some (R, some f)) : f ∈ R := by
  cases o <;> simp only [localFp] at h <;> (try (cases h; done)) <;> (try (simp at h; done))
  case store t a x =>
    simp only [Option.some.injEq, Prod.mk.injEq] at h
    obtain ⟨rfl, h⟩ := h
    exact blkOpt_mem h
  case call c =>
    split at h
    case h_2 => cases h
    split at h <;> first | (cases h; done) | skip
    all_goals
      simp only [Option.some.injEq, Prod.mk.injEq] at h
      obtain ⟨rfl, h⟩ := h
      split at h
      · rename_i v vs heq
        rw [heq]
        exact mem_blks (by simp) (blkOpt_mem h)
      · cases h

theorem mem_blks_inv {f : Nat} : ∀ {vs : List Value}, f ∈ blks vs → ∃ v, v ∈ vs ∧ f ∈ blkOf v
  | [], h => by simp [blks] at h
  | v :: vs, h => by
    unfold blks at h
    rcases List.mem_append.mp h with h | h
    · exact ⟨v, by simp, h⟩
    · obtain ⟨u, h1, h2⟩ := mem_blks_inv h; exact ⟨u, by simp [h1], h2⟩

theorem localFp_opd {ρ : Operand → Value} {o : Op} {R : List Nat} {W : Option Nat} {f : Nat} (h : localFp ρ o = some (R, W)) (hf : f ∈ R) : ∃ x, x ∈ o.operands.toList ∧ f ∈ blkOf (ρ x) := by
  cases o <;> simp only [localFp] at h <;> (try (cases h; done)) <;> (try (cases h; simp at hf; done))
  case load t a => cases h; exact ⟨a, by simp [Op.operands], hf⟩
  case store t a x => cases h; exact ⟨a, by simp [Op.operands], hf⟩
  case convert s d x => cases h; exact ⟨x, by simp [Op.operands], hf⟩
  case call c =>
    split at h
    case h_2 => cases h
    split at h <;> first | (cases h; done) | skip
    all_goals
      simp only [Option.some.injEq, Prod.mk.injEq] at h
      obtain ⟨rfl, _⟩ := h
      obtain ⟨v, h1, h2⟩ := mem_blks_inv hf
      obtain ⟨x, h3, rfl⟩ := List.mem_map.mp h1
      exact ⟨x, by simp only [Op.operands, Call.operands, Array.toList_append, List.mem_append]; exact .inr h3, h2⟩

theorem blk_dom {μ : Mu} {v c : Value} (h : VRel μ v c) {f : Nat} (hf : f ∈ blkOf v) : ∃ e Lc, μ f e = some Lc := by
  cases h <;> simp [blkOf] at hf <;> subst hf <;> exact ⟨_, _, by assumption⟩

theorem trace_Tr0 (hL : L.Ok P) (hsim : SimRec P r) {N : Nat} (hok : ops.toList.all (operOk N) = true) (hk : ops.size = k) (hlow : low.le (H 0).next)
    (ht : ∀ j, j < k → Tstep L r low ops fr0 V H E K j) : Tr0 low k H K := by
  have hone : ∀ {f n g : Nat}, low.le n → low.ok f = true → (Lw.one f n).ok g = true → low.ok g = true := fun {f n g} hl hf hg => by
    simp only [Lw.ok, Bool.or_eq_true] at hg
    rcases hg with hg | hg
    · rw [Nat.eq_of_beq_eq_true hg]; exact hf
    · exact hl g (Nat.ble_eq.mp hg)
  have hup : ∀ {n g : Nat}, low.le n → (Lw.up n).ok g = true → low.ok g = true := fun {n g} hl hg => hl g (Nat.ble_eq.mp hg)
  have hnext : ∀ n, n ≤ k → low.le (H n).next ∧ ∀ i, i < n → (H i).next ≤ (H (i + 1)).next ∧ (K i = .pure → H (i + 1) = H i) ∧ (∀ f, f < (H i).next → ¬ (K i).wrt f → (H (i + 1)).get f = (H i).get f) ∧
      (∀ f, low.ok f = false → f < (H i).next → (H (i + 1)).get f = (H i).get f) ∧ (∀ R f, K i = .loc R (some f) → f ∈ R ∧ nonRo (H i) f = true ∧ nonRo (H (i + 1)) f = true ∧ low.ok f = true) := by
    intro n
    induction n with
    | zero => intro _; exact ⟨hlow, fun i hi => by omega⟩
    | succ n ih =>
      intro hn
      obtain ⟨i1, i2⟩ := ih (by omega)
      have step : (H n).next ≤ (H (n + 1)).next ∧ (K n = .pure → H (n + 1) = H n) ∧ (∀ f, f < (H n).next → ¬ (K n).wrt f → (H (n + 1)).get f = (H n).get f) ∧
          (∀ f, low.ok f = false → f < (H n).next → (H (n + 1)).get f = (H n).get f) ∧ (∀ R f, K n = .loc R (some f) → f ∈ R ∧ nonRo (H n) f = true ∧ nonRo (H (n + 1)) f = true ∧ low.ok f = true) := by
        obtain ⟨o, ho, he, hc⟩ := (ht n (by omega)).out
        have hopk : opOk o.op = true := by
          rw [List.all_eq_true] at hok
          have := hok o (by rw [List.mem_iff_getElem?]; exact ⟨n, by simpa using ho⟩)
          unfold operOk at this; simp only [Bool.and_eq_true] at this; exact this.1
        rcases hc with ⟨_, _, q3, q4⟩ | ⟨_, q2⟩
        · rw [q3, q4]; exact ⟨Nat.le_refl _, fun _ => rfl, fun _ _ _ => rfl, fun _ _ _ => rfl, fun _ _ h => by cases h⟩
        · rcases drawOp_cases q2 with ⟨w1, w2, w3⟩ | ⟨R, W0, W, lw, w1, w2, w3, w4⟩ | ⟨w1, w3⟩ | ⟨w1, w3⟩
          · obtain ⟨w4, _⟩ := opV_pure w2 w3
            rw [w4, w1]; exact ⟨Nat.le_refl _, fun _ => rfl, fun _ _ _ => rfl, fun _ _ _ => rfl, fun _ _ h => by cases h⟩
          · rcases w4 with ⟨rfl, rfl⟩ | ⟨f, rfl, rfl, rfl, y1, y2, y3⟩
            · obtain ⟨a1, _, _⟩ := opV_sim hL hsim w3 (Lw.le_up _) hopk
              have hno : ∀ f, f < (H n).next → (Lw.up (H n).next).ok f = false := fun f hf => by
                cases hx : (Lw.up (H n).next).ok f with
                | false => rfl
                | true => have := Nat.ble_eq.mp hx; omega
              exact ⟨a1.next, (fun h => by rw [w1] at h; cases h), fun f hf _ => a1.get f (hno f hf) hf, fun f _ hf => a1.get f (hno f hf) hf, fun R' f h => by rw [w1] at h; cases h⟩
            · obtain ⟨a1, _, _⟩ := opV_sim hL hsim w3 (Lw.le_one _ _) hopk
              have hno : ∀ g, g < (H n).next → g ≠ f → (Lw.one f (H n).next).ok g = false := fun g hg hne => by
                cases hx : (Lw.one f (H n).next).ok g with
                | false => rfl
                | true =>
                  simp only [Lw.ok, Bool.or_eq_true] at hx
                  rcases hx with hx | hx
                  · exact (hne (Nat.eq_of_beq_eq_true hx)).elim
                  · have := Nat.ble_eq.mp hx; omega
              refine ⟨a1.next, (fun h => by rw [w1] at h; cases h), fun g hg hw => a1.get g (hno g hg fun e => hw (by rw [w1, e]; rfl)) hg, fun g hlo hg => a1.get g (hno g hg fun e => ?_) hg, fun R' f' h => ?_⟩
              · rw [e, y1] at hlo; cases hlo
              · rw [w1] at h; cases h; exact ⟨localFp_mem w2, y2, y3, y1⟩
          · obtain ⟨a1, _, _⟩ := opV_sim hL hsim w3 (Lw.le_up _) hopk
            have hno : ∀ f, f < (H n).next → (Lw.up (H n).next).ok f = false := fun f hf => by
              cases hx : (Lw.up (H n).next).ok f with
              | false => rfl
              | true => have := Nat.ble_eq.mp hx; omega
            exact ⟨a1.next, (fun h => by rw [w1] at h; cases h), fun f hf _ => a1.get f (hno f hf) hf, fun f _ hf => a1.get f (hno f hf) hf, fun R' f h => by rw [w1] at h; cases h⟩
          · obtain ⟨a1, _, _⟩ := opV_sim hL hsim w3 i1 hopk
            exact ⟨a1.next, (fun h => by rw [w1] at h; cases h), fun f hf hw => (hw (by rw [w1]; trivial)).elim, fun f hlo hf => a1.get f hlo hf, fun R' f h => by rw [w1] at h; cases h⟩
      refine ⟨i1.mono step.1, fun i hi => ?_⟩
      by_cases hin : i = n
      · subst hin; exact step
      · exact i2 i (by omega)
  obtain ⟨_, h2⟩ := hnext k (Nat.le_refl _)
  exact ⟨fun i hi => (h2 i hi).1, hlow, fun i hi => (h2 i hi).2.1, fun i hi => (h2 i hi).2.2.1, fun i hi => (h2 i hi).2.2.2.1, fun i R f hi => (h2 i hi).2.2.2.2 R f⟩

/-- What is asked of the run, unfolded. -/
theorem dyn_spec {ks : List Kind} (hd : drawDyn ops ks = true) (hks : ∀ j, j < ks.length → ks[j]? = some (K j)) {i j : Nat} (hj : j < ks.length) (hlt : i < j) (hc : (K i).clash (K j) = true) : ahead (masks ops.toList []) i j = true := by
  unfold drawDyn at hd
  simp only [List.all_eq_true, Bool.or_eq_true, Bool.not_eq_true'] at hd
  have hki := hks i (by omega)
  have := hd (K j, j) (by rw [List.mem_zipIdx_iff_getElem?]; simpa using hks j hj) (K i, i) (by
    rw [List.mem_take_iff_getElem]
    refine ⟨i, by simp; omega, ?_⟩
    have hi : i < ks.length := by omega
    simp [hi] at hki
    simp [hki])
  rcases this with this | this
  · rw [hc] at this; cases this
  · exact this

end Go.AM

namespace Go.AM
variable {P : Program} {L : Ty}
variable {r : Rec} {low : Lw} {k : Nat} {ops : Array Oper} {fr0 : Fr} {V : Nat → Value} {H : Nat → AH} {E : Nat → Env} {K : Nat → Kind}
variable {μ0 : Mu} {w0 : World} {sz : Nat} {ds : List Deferred} {S : Nat → Prop} {m : Nat → Nat} {hs : AH} {μ : Mu} {a : Act} {w : World}

/-- What is asked of who is done, and who is next. -/
structure Nx (K : Nat → Kind) (k : Nat) (S : Nat → Prop) (i : Nat) : Prop where
  lt : i < k
  nS : ¬ S i
  up : ∀ j, j < i → (K j).clash (K i) = true → S j
  dn : ∀ j, i < j → S j → (K i).clash (K j) = true → False

section
variable (tr : Tr0 low k H K) (d : DI low k ops H E K μ0 w0 sz ds S m hs μ a w) {i : Nat} (nx : Nx K k S i)
include tr d

theorem DI.here {f e : Nat} {Lc : Loc} (hx : μ f e = some Lc) : f < (H (m f)).next := by
  rcases d.dom f e Lc hx with q | ⟨j, q1, q2, q3⟩
  · exact Nat.lt_of_lt_of_le q (tr.mono (Nat.zero_le _) (d.mle f))
  · have hj := d.lt j q1
    have : j < m f := by
      rcases Nat.lt_or_ge j (m f) with z | z
      · exact z
      · exact (d.mmax f j z q1 (.inr ⟨q2, q3⟩)).elim
    exact Nat.lt_of_lt_of_le q3 (tr.mono (by omega) (d.mle f))

include nx

/-- No family that is there is made by who is next. -/
theorem DI.gap {f : Nat} (hd : f < (H 0).next ∨ ∃ j, S j ∧ (H j).next ≤ f ∧ f < (H (j + 1)).next) : f < (H i).next ∨ (H (i + 1)).next ≤ f := by
  have hi := nx.lt
  rcases hd with q | ⟨j, q1, q2, q3⟩
  · exact .inl (Nat.lt_of_lt_of_le q (tr.mono (Nat.zero_le _) (by omega)))
  · have hj := d.lt j q1
    rcases Nat.lt_trichotomy j i with z | z | z
    · exact .inl (Nat.lt_of_lt_of_le q3 (tr.mono (by omega) (by omega)))
    · exact (nx.nS (z ▸ q1)).elim
    · exact .inr (Nat.le_trans (tr.mono (i := i + 1) (j := j) (by omega) (by omega)) q2)

/-- What who is next looks at is as it was in the text's order. -/
theorem DI.sees {f e : Nat} {Lc : Loc} (hx : μ f e = some Lc) (hf : f < (H i).next) (hfp : (K i).fp f) : m f ≤ i ∧ hs.get f = (H i).get f := by
  have hi := nx.lt
  have hm : m f ≤ i := by
    rcases Nat.lt_or_ge i (m f) with z | z
    · exfalso
      rcases d.mS f with q | ⟨q1, q2, q3⟩
      · omega
      · have hj := d.lt _ q2
        have hne : m f - 1 ≠ i := fun e => nx.nS (e ▸ q2)
        rcases q3 with ⟨_, q3⟩ | ⟨q3, _⟩
        · exact nx.dn (m f - 1) (by omega) q2 (clash_fp hfp q3).1
        · have := tr.mono (i := i) (j := m f - 1) (by omega) (by omega); omega
    · exact z
  refine ⟨hm, ?_⟩
  have hh := d.here tr hx
  rw [d.hget f hh]
  refine (tr.same hh hm (by omega) fun l q1 q2 q3 => ?_).symm
  by_cases hl : S l
  · exact d.mmax f l q1 hl q3
  · rcases q3 with ⟨_, q3⟩ | ⟨q3, q4⟩
    · exact hl (nx.up l q2 (clash_fp hfp q3).2)
    · rcases d.dom f e Lc hx with z | ⟨j, z1, z2, z3⟩
      · have := tr.mono (i := 0) (j := l) (Nat.zero_le _) (by omega); omega
      · have hj := d.lt j z1
        rcases Nat.lt_trichotomy j l with y | y | y
        · have := tr.mono (i := j + 1) (j := l) (by omega) (by omega); omega
        · exact hl (y ▸ z1)
        · have := tr.mono (i := l + 1) (j := j) (by omega) (by omega); omega

/-- One more operation, that did something with the heap. -/
theorem DI.merge (hk : ops.size = k) (ht : ∀ j, j < k → Tstep L r low ops fr0 V H E K j) {o : Oper} (hi : ops[i]? = some o) (hnp : K i ≠ .pure)
    (hlast : ∀ j p t, j < k → S j → ops[j]? = some p → p.dst = some t → o.dst = some t → j < i) (hsz : ∀ t, o.dst = some t → t < a.tmps.size)
    {lw : Lw} {hx' : AH} {μ2 : Mu} {w' : World} {u : Value} (hn2 : hx'.next = (H (i + 1)).next) (s1 : Step lw (μ.lt (H i).next) μ2 w w') (s2 : Rel μ2 hx' w') (s3 : VRel μ2 (V i) u)
    (ca : ∀ f, Wrf H K i f → hx'.get f = (H (i + 1)).get f)
    (cb : ∀ f e Lc, μ f e = some Lc → f < (H i).next → ¬ Wrf H K i f → isRo hx' f → isRo hs f)
    (cc : ∀ f, f < (H i).next → lw.ok f = true → Wrf H K i f ∧ low.ok f = true)
    (cd : ∀ g e Lc, μ g e = some Lc → ¬ Wrf H K i g → ∀ f e' L', μ f e' = some L' → f < (H i).next → Wrf H K i f → ¬ isRo hs f)
    (cw : ∀ R f, K i = .loc R (some f) → f < (H 0).next ∨ ∃ j', S j' ∧ (H j').next ≤ f ∧ f < (H (j' + 1)).next) :
    ∃ m' hs' μ', μ.le μ' ∧ DI low k ops H E K μ0 w0 sz ds (fun j => S j ∨ j = i) m' hs' μ' (a.put o.dst u) w' := by
  classical
  have hik := nx.lt
  obtain ⟨hs', hn', hg'⟩ := AH.ofFun (fun f => if Wrf H K i f then (H (i + 1)).get f else hs.get f) (H k).next
  let μ' : Mu := fun f e => if f < (H (i + 1)).next then μ2 f e else μ f e
  have hmono := tr.next i hik
  have hmk : (H (i + 1)).next ≤ (H k).next := tr.mono (by omega) (Nat.le_refl _)
  have wlt : ∀ {f}, Wrf H K i f → f < (H (i + 1)).next := fun h => h.lt tr hik
  have lowf : ∀ {f e Lc}, μ f e = some Lc → f < (H (i + 1)).next → f < (H i).next := fun {f e Lc} x hf => by
    rcases d.gap tr nx (d.dom f e Lc x) with q | q
    · exact q
    · omega
  have hle : μ.le μ' := fun f e Lc x => by
    show (if _ then _ else _) = _
    by_cases hf : f < (H (i + 1)).next
    · rw [if_pos hf]
      refine s1.sub f e Lc ?_
      unfold Mu.lt; rw [if_pos (lowf x hf)]; exact x
    · rw [if_neg hf]; exact x
  have hle2 : μ2.le μ' := fun f e Lc x => by
    show (if _ then _ else _) = _
    rw [if_pos (by rw [← hn2]; exact (s2.dom _ _ _ x).1)]; exact x
  have hin : ∀ {f e Lc}, μ' f e = some Lc → f < (H (i + 1)).next → μ2 f e = some Lc := fun {f e Lc} x hf => by
    change (if _ then _ else _) = _ at x
    rw [if_pos hf] at x; exact x
  have hout : ∀ {f e Lc}, μ' f e = some Lc → ¬ f < (H (i + 1)).next → μ f e = some Lc := fun {f e Lc} x hf => by
    change (if _ then _ else _) = _ at x
    rw [if_neg hf] at x; exact x
  -- an entry is an elder one, or of a family that turned
  have hnew : ∀ {f e Lc}, μ2 f e = some Lc → μ f e = some Lc ∨ (Wrf H K i f ∧ low.ok f = true ∧ (w.heap.size ≤ Lc.blk ∨ ∃ e0 L0, μ f e0 = some L0 ∧ f < (H i).next ∧ L0.blk = Lc.blk)) := fun {f e Lc} x => by
    have hf2 : f < (H (i + 1)).next := by rw [← hn2]; exact (s2.dom _ _ _ x).1
    rcases s1.new f e Lc x with q | ⟨q1, q2⟩
    · exact .inl (Mu.lt_some q).2
    · refine .inr ?_
      have hw : Wrf H K i f ∧ low.ok f = true := by
        by_cases hf : f < (H i).next
        · exact cc f hf q1
        · exact ⟨.inr ⟨by omega, hf2⟩, tr.base f (Nat.le_trans (tr.mono (Nat.zero_le _) (by omega)) (Nat.le_of_not_lt hf))⟩
      refine ⟨hw.1, hw.2, ?_⟩
      rcases q2 with q2 | ⟨e0, L0, q3, q4⟩
      · exact .inl q2
      · exact .inr ⟨e0, L0, (Mu.lt_some q3).2, (Mu.lt_some q3).1, q4⟩
  have hold : ∀ {f e Lc}, μ' f e = some Lc → ¬ Wrf H K i f → μ f e = some Lc := fun {f e Lc} x hw => by
    by_cases hf : f < (H (i + 1)).next
    · rcases hnew (hin x hf) with q | ⟨q, _⟩
      · exact q
      · exact (hw q).elim
    · exact hout x hf
  have hblk : ∀ {f e Lc}, μ f e = some Lc → ¬ Wrf H K i f → w'.heap[Lc.blk]? = w.heap[Lc.blk]? := fun {f e Lc} x hw => by
    refine s1.kept.block _ (d.rel.dom _ _ _ x).2 fun f2 e2 L2 x2 hb => ?_
    cases hok : lw.ok f2 with
    | false => rfl
    | true =>
      exfalso
      obtain ⟨y1, y2⟩ := Mu.lt_some x2
      have hw2 := (cc f2 y1 hok).1
      rcases d.rel.sep _ _ _ _ _ _ y2 x hb with ⟨z, _⟩ | ⟨z, _⟩
      · exact hw (z ▸ hw2)
      · exact cd f e Lc x hw f2 e2 L2 y2 y1 hw2 z
  have gw : ∀ {f}, Wrf H K i f → hs'.get f = hx'.get f := fun {f} hw => by
    rw [hg' f, if_pos (Nat.lt_of_lt_of_le (wlt hw) hmk)]
    simp only [if_pos hw]
    exact (ca f hw).symm
  have go : ∀ {f e Lc}, μ f e = some Lc → ¬ Wrf H K i f → hs'.get f = hs.get f := fun {f e Lc} x hw => by
    rw [hg' f, if_pos (by rw [← d.hnext]; exact (d.rel.dom _ _ _ x).1)]
    simp only [if_neg hw]
  have hro : ∀ {f e Lc}, μ' f e = some Lc → f < (H (i + 1)).next → isRo hx' f → isRo hs' f := fun {f e Lc} x hf hR => by
    by_cases hw : Wrf H K i f
    · obtain ⟨c1, m1, q⟩ := hR; exact ⟨c1, m1, (gw hw).trans q⟩
    · have y := hold x hw
      obtain ⟨c1, m1, q⟩ := cb f e Lc y (lowf y hf) hw hR
      exact ⟨c1, m1, (go y hw).trans q⟩
  have K2 : μ2.le (μ'.lt (H (i + 1)).next) := fun g e Lc x => by
    unfold Mu.lt; rw [if_pos (by rw [← hn2]; exact (s2.dom _ _ _ x).1)]; exact hle2 _ _ _ x
  refine ⟨fun f => if Wrf H K i f then i + 1 else m f, hs', μ', hle, ⟨fun j hj => ?_, fun f => ?_, fun f => ?_, fun f j hj hS hw => ?_, hn', fun f hf => ?_, fun f e Lc x => ?_, fun j R f hj hK => ?_, ⟨fun f e Lc x => ?_, fun f e Lc cs mr ro x hg => ?_, fun f e L1 g e' L2 x y hb => ?_, fun f e Lc y x hg => ?_, fun f e Lc b x hg => ?_⟩, ?_, ?_, by rw [put_size]; exact d.size, by rw [put_defers']; exact d.defers⟩⟩
  · rcases hj with hj | rfl
    · exact d.lt j hj
    · exact hik
  · (try dsimp only); split
    · omega
    · exact d.mle f
  · (try dsimp only); split
    · rename_i hw; exact .inr ⟨by omega, .inr (by omega), by simpa using hw⟩
    · rcases d.mS f with q | ⟨q1, q2, q3⟩
      · exact .inl q
      · exact .inr ⟨q1, .inl q2, q3⟩
  · -- nobody writes later
    (try dsimp only at hj)
    by_cases hwi : Wrf H K i f
    · rw [if_pos hwi] at hj
      have hSj : S j := by
        rcases hS with hS | rfl
        · exact hS
        · omega
      have hjk := d.lt j hSj
      rcases hw with ⟨y1, y2⟩ | ⟨y1, y2⟩
      · rcases hwi with ⟨z1, z2⟩ | ⟨z1, z2⟩
        · -- both write
          refine nx.dn j (by omega) hSj ?_
          cases hKi : K i with
          | pure => exact (hnp hKi).elim
          | reads => rw [hKi] at z2; exact z2.elim
          | writes => exact (clash_writes (fun e => by rw [e] at y2; exact y2)).1
          | loc R W =>
            rw [hKi] at z2
            have z2 : W = some f := z2
            subst z2
            exact (clash_fp (a := .loc R (some f)) (show f ∈ R from (tr.loc i R f hik hKi).1) y2).1
        · -- made by i, written by j
          cases hKj : K j with
          | pure => rw [hKj] at y2; exact y2
          | reads => rw [hKj] at y2; exact y2
          | writes => exact nx.dn j (by omega) hSj (by rw [hKj]; exact (clash_writes hnp).2)
          | loc R W =>
            rw [hKj] at y2
            have y2 : W = some f := y2
            subst y2
            rcases d.gap tr nx (d.wdom j R f hSj hKj) with q | q <;> omega
      · have h1 := wlt hwi
        have := tr.mono (i := i + 1) (j := j) (by omega) (by omega); omega
    · rw [if_neg hwi] at hj
      rcases hS with hS | rfl
      · exact d.mmax f j hj hS hw
      · exact hwi hw
  · (try dsimp only at hf ⊢)
    by_cases hwi : Wrf H K i f
    · rw [if_pos hwi] at hf ⊢
      rw [hg' f, if_pos (by omega)]; simp only [if_pos hwi]
    · rw [if_neg hwi] at hf ⊢
      rw [hg' f, if_pos (Nat.lt_of_lt_of_le hf (tr.mono (d.mle f) (Nat.le_refl _)))]; simp only [if_neg hwi]
      exact d.hget f hf
  · by_cases hf : f < (H (i + 1)).next
    · rcases hnew (hin x hf) with q | ⟨q1, _, q2⟩
      · rcases d.dom f e Lc q with z | ⟨j, z1, z2⟩
        · exact .inl z
        · exact .inr ⟨j, .inl z1, z2⟩
      · by_cases hfi : f < (H i).next
        · rcases q1 with ⟨_, q1⟩ | ⟨q1, _⟩
          · rcases q2 with q2 | ⟨e0, L0, q3, q4, _⟩
            · cases hKi : K i with
              | pure => exact (hnp hKi).elim
              | reads => rw [hKi] at q1; exact q1.elim
              | loc R W =>
                rw [hKi] at q1
                have q1 : W = some f := q1
                subst q1
                rcases cw R f hKi with z | ⟨j, z1, z2⟩
                · exact .inl z
                · exact .inr ⟨j, .inl z1, z2⟩
              | writes =>
                have key : ∀ n, n ≤ i → f < (H n).next → f < (H 0).next ∨ ∃ j, (S j ∨ j = i) ∧ (H j).next ≤ f ∧ f < (H (j + 1)).next := by
                  intro n
                  induction n with
                  | zero => intro _ h; exact .inl h
                  | succ n ih =>
                    intro hn h
                    by_cases hfn : f < (H n).next
                    · exact ih (by omega) hfn
                    · refine .inr ⟨n, .inl (nx.up n (by omega) ?_), by omega, h⟩
                      rw [hKi]
                      exact (clash_writes (fun hp => by rw [tr.pure n (by omega) hp] at h; exact hfn h)).2
                exact key i (Nat.le_refl _) hfi
            · rcases d.dom f e0 L0 q3 with z | ⟨j, z1, z2⟩
              · exact .inl z
              · exact .inr ⟨j, .inl z1, z2⟩
          · omega
        · exact .inr ⟨i, .inr rfl, by omega, hf⟩
    · rcases d.dom f e Lc (hout x hf) with z | ⟨j, z1, z2⟩
      · exact .inl z
      · exact .inr ⟨j, .inl z1, z2⟩
  · have : f < (H 0).next ∨ ∃ j', S j' ∧ (H j').next ≤ f ∧ f < (H (j' + 1)).next := by
      rcases hj with hj | rfl
      · exact d.wdom j R f hj hK
      · exact cw R f hK
    rcases this with z | ⟨j', z1, z2⟩
    · exact .inl z
    · exact .inr ⟨j', .inl z1, z2⟩
  · by_cases hf : f < (H (i + 1)).next
    · exact ⟨by rw [hn']; omega, (s2.dom _ _ _ (hin x hf)).2⟩
    · obtain ⟨q1, q2⟩ := d.rel.dom _ _ _ (hout x hf)
      exact ⟨by rw [hn', ← d.hnext]; exact q1, Nat.lt_of_lt_of_le q2 s1.kept.size⟩
  · (try dsimp only)
    by_cases hw : Wrf H K i f
    · rw [if_pos hw]
      rw [gw hw] at hg
      obtain ⟨h1, h2, h3, C, hrow, hcont⟩ := s2.cells _ _ _ _ _ _ (hin x (wlt hw)) hg
      exact ⟨h1, h2, h3, C, hrow, fun hm o v q1 q2 q3 => let ⟨c, k1, k2⟩ := hcont hm o v q1 q2 q3; ⟨c, k1, k2.mono K2⟩⟩
    · rw [if_neg hw]
      have y := hold x hw
      rw [go y hw] at hg
      obtain ⟨h1, h2, h3, C, ⟨el, fz, z1, z2⟩, hcont⟩ := d.rel.cells _ _ _ _ _ _ y hg
      exact ⟨h1, h2, h3, C, ⟨el, fz, (hblk y hw).trans z1, z2⟩, fun hm o v q1 q2 q3 => let ⟨c, k1, k2⟩ := hcont hm o v q1 q2 q3; ⟨c, k1, k2.mono (Mu.lt_mono hle (Nat.le_refl _))⟩⟩
  · -- places of their own
    have mixed : ∀ {f e L1 g e' L2}, μ' f e = some L1 → μ' g e' = some L2 → L1.blk = L2.blk → f < (H (i + 1)).next → ¬ g < (H (i + 1)).next → isRo hs' f ∧ isRo hs' g := fun {f e L1 g e' L2} x y hb hf hgn => by
      have y' := hout y hgn
      have hwg : ¬ Wrf H K i g := fun h => hgn (wlt h)
      have fin : ∀ {e0 L0}, μ f e0 = some L0 → L0.blk = L2.blk → isRo hs' f ∧ isRo hs' g := fun {e0 L0} x0 hb0 => by
        rcases d.rel.sep _ _ _ _ _ _ x0 y' hb0 with ⟨z, _⟩ | ⟨z1, z2⟩
        · subst z; exact (hgn hf).elim
        · have hwf : ¬ Wrf H K i f := fun h => cd g e' L2 y' hwg f e0 L0 x0 (lowf x0 hf) h z1
          obtain ⟨c1, m1, r1⟩ := z1
          obtain ⟨c2, m2, r2⟩ := z2
          exact ⟨⟨c1, m1, (go x0 hwf).trans r1⟩, ⟨c2, m2, (go y' hwg).trans r2⟩⟩
      rcases hnew (hin x hf) with q | ⟨_, _, q | ⟨e0, L0, q1, _, q2⟩⟩
      · exact fin q hb
      · have := (d.rel.dom _ _ _ y').2; omega
      · exact fin q1 (q2.trans hb)
    by_cases hf : f < (H (i + 1)).next <;> by_cases hgn : g < (H (i + 1)).next
    · rcases s2.sep _ _ _ _ _ _ (hin x hf) (hin y hgn) hb with t | ⟨t1, t2⟩
      · exact .inl t
      · exact .inr ⟨hro x hf t1, hro y hgn t2⟩
    · exact .inr (mixed x y hb hf hgn)
    · exact .inr (mixed y x hb.symm hgn hf).symm
    · have x' := hout x hf
      have y' := hout y hgn
      rcases d.rel.sep _ _ _ _ _ _ x' y' hb with t | ⟨⟨c1, m1, t1⟩, ⟨c2, m2, t2⟩⟩
      · exact .inl t
      · exact .inr ⟨⟨c1, m1, (go x' fun h => hf (wlt h)).trans t1⟩, ⟨c2, m2, (go y' fun h => hgn (wlt h)).trans t2⟩⟩
  · (try dsimp only)
    by_cases hw : Wrf H K i f
    · rw [if_pos hw]
      rw [gw hw] at hg
      obtain ⟨h0, Pl, z1, z2, z3, z4, z5, z6, z7, Ld, z8, z9⟩ := s2.loops _ _ _ _ (hin x (wlt hw)) hg
      exact ⟨h0, Pl, z1, z2, z3, z4, z5, z6, z7.mono K2, Ld, K2 _ _ _ z8, z9⟩
    · rw [if_neg hw]
      have y' := hold x hw
      rw [go y' hw] at hg
      obtain ⟨h0, Pl, z1, z2, z3, z4, z5, z6, z7, Ld, z8, z9⟩ := d.rel.loops _ _ _ _ y' hg
      exact ⟨h0, Pl, (hblk y' hw).trans z1, z2, z3, z4, z5, z6, z7.mono (Mu.lt_mono hle (Nat.le_refl _)), Ld, Mu.lt_mono hle (Nat.le_refl _) _ _ _ z8, z9⟩
  · by_cases hw : Wrf H K i f
    · rw [gw hw] at hg
      obtain ⟨h0, O1, z1, hO⟩ := s2.oth _ _ _ _ (hin x (wlt hw)) hg
      refine ⟨h0, O1, z1, ?_⟩
      rw [if_pos hw]
      exact hO.mono K2
    · have y' := hold x hw
      rw [go y' hw] at hg
      obtain ⟨h0, O1, z1, hO⟩ := d.rel.oth _ _ _ _ y' hg
      refine ⟨h0, O1, (hblk y' hw).trans z1, ?_⟩
      rw [if_neg hw]
      exact hO.mono (Mu.lt_mono hle (Nat.le_refl _))
  · exact DI.env' (a := a) hk tr ht hle d.lt d.env hi hlast hsz (s3.mono K2)
  · refine d.step.trans ⟨⟨s1.kept.os, s1.kept.tape, s1.kept.output, s1.kept.size, fun b hb hall => ?_⟩, hle, fun f e Lc x => ?_⟩
    · refine s1.kept.block b hb fun f e Lc x hL => ?_
      obtain ⟨y1, y2⟩ := Mu.lt_some x
      cases hok : lw.ok f with
      | false => rfl
      | true =>
        have := hall f e Lc y2 hL
        rw [(cc f y1 hok).2] at this; cases this
    · by_cases hf : f < (H (i + 1)).next
      · rcases hnew (hin x hf) with q | ⟨_, q1, q | ⟨e0, L0, q2, _, q3⟩⟩
        · exact .inl q
        · exact .inr ⟨q1, .inl q⟩
        · exact .inr ⟨q1, .inr ⟨e0, L0, q2, q3⟩⟩
      · exact .inl (hout x hf)
end
end Go.AM

namespace Go.AM
variable {P : Program} {L : Ty}
variable {r : Rec} {low : Lw} {k : Nat} {ops : Array Oper} {fr0 : Fr} {V : Nat → Value} {H : Nat → AH} {E : Nat → Env} {K : Nat → Kind}

theorem nonRo_not {h : AH} {f : Nat} (hn : nonRo h f = true) : ¬ isRo h f := fun ⟨c, m, q⟩ => by
  unfold nonRo at hn; rw [q] at hn; cases hn

section
variable (hL : L.Ok P) (hsim : SimRec P r) {N : Nat} (hok : ops.toList.all (operOk N) = true) (hk : ops.size = k) (tr : Tr0 low k H K)
  (ht : ∀ j, j < k → Tstep L r low ops fr0 V H E K j) (hst : drawStatic ops = true)
  (hdyn : ∀ i j, i < j → j < k → (K i).clash (K j) = true → ahead (masks ops.toList []) i j = true)
  {μ0 : Mu} {w0 : World} {sz : Nat} {ds : List Deferred}
include hL hsim hok hk tr ht hst hdyn

/-- One operation of the region. -/
theorem DI.op {F : Fence} {n : Nat} {Q : Exit → Act → World → Prop} {S : Nat → Prop} {m : Nat → Nat} {hs : AH} {μ : Mu} {a : Act} {w : World} (hF : Wd F) (hro : RoundRel (μ0.lt (H 0).next) fr0.round F.round) (hN : N ≤ sz)
    (d : DI low k ops H E K μ0 w0 sz ds S m hs μ a w) (hcl : ∀ j o, S j → ops[j]? = some o → ∀ e ∈ o.after.toList, Region.binds .any e = true → S e.on)
    {i : Nat} {o : Oper} (hi : ops[i]? = some o) (hni : ¬ S i) (hed : ∀ e ∈ o.after.toList, Region.binds .any e = true → S e.on)
    {next : Act → World → Prop} (hnext : ∀ m' hs' μ' a' w', DI low k ops H E K μ0 w0 sz ds (fun j => S j ∨ j = i) m' hs' μ' a' w' → next a' w') :
    wpOpIn F n P ops Q i next a w := by
  obtain ⟨A1, A2, A3, A4⟩ := d.looks hk tr ht hst hcl hi hni hed
  have hik : i < k := by rw [← hk]; exact (Array.getElem?_eq_some_iff.1 hi).1
  have nx : Nx K k S i := ⟨hik, hni, fun j hj hc => (A1 j (by omega) (hdyn j i hj hik hc)).1, fun j hj hs hc => by
    have h1 := hdyn i j hj (d.lt j hs) hc
    rw [A2 j (d.lt j hs) hs] at h1; cases h1⟩
  have hop : operOk N o = true := by
    rw [List.all_eq_true] at hok
    exact hok o (by rw [List.mem_iff_getElem?]; exact ⟨i, by simpa using hi⟩)
  have hopk : opOk o.op = true := by unfold operOk at hop; simp only [Bool.and_eq_true] at hop; exact hop.1
  have hdst : ∀ t, o.dst = some t → t < a.tmps.size := fun t hd => by rw [d.size]; exact Nat.lt_of_lt_of_le (dst_lt hop hd) hN
  have hgd : guardV ops (E i) o = Region.wanted o (yielded ops a.tmps) := guard_eq' ops o A3
  have hev : ∀ x ∈ o.op.operands.toList, VRel (μ.lt (H i).next) ((E i).eval x) (a.eval x) := fun x hx => evalAt_rel (opOk_opd hopk hx) fun t hxt => A3 t (by
    subst hxt
    exact List.mem_append_left _ (List.mem_filterMap.2 ⟨.tmp t, hx, rfl⟩))
  have hround : RoundRel (μ.lt (H i).next) fr0.round F.round := hro.mono (Mu.lt_mono d.step.sub (tr.mono (Nat.zero_le _) (by omega)))
  -- an operation that leaves the heap as it is
  have quiet : ∀ (u : Value), K i = .pure → VRel (μ.lt (H i).next) (V i) u → next (a.put o.dst u) w := fun u hp hv => by
    have hH := tr.pure i hik hp
    have hnw : ∀ f, ¬ Wrf H K i f := fun f h => h.nonpure tr hik hp
    refine hnext m hs μ _ w ⟨fun j hj => ?_, d.mle, fun f => ?_, fun f j hj hS hw => ?_, d.hnext, d.hget, fun f e Lc x => ?_, fun j R f hj hK => ?_, d.rel, ?_, d.step, by rw [put_size]; exact d.size, by rw [put_defers']; exact d.defers⟩
    · rcases hj with hj | rfl
      · exact d.lt j hj
      · exact hik
    · rcases d.mS f with q | ⟨q1, q2, q3⟩
      · exact .inl q
      · exact .inr ⟨q1, .inl q2, q3⟩
    · rcases hS with hS | rfl
      · exact d.mmax f j hj hS hw
      · exact hnw f hw
    · rcases d.dom f e Lc x with q | ⟨j, q1, q2⟩
      · exact .inl q
      · exact .inr ⟨j, .inl q1, q2⟩
    · rcases hj with hj | rfl
      · rcases d.wdom j R f hj hK with q | ⟨j', q1, q2⟩
        · exact .inl q
        · exact .inr ⟨j', .inl q1, q2⟩
      · rw [hp] at hK; cases hK
    · exact DI.env' hk tr ht (Mu.le_refl _) d.lt d.env hi A4 hdst (by rw [hH]; exact hv)
  obtain ⟨o', ho', hE, hcase⟩ := (ht i hik).out
  rw [hi] at ho'; cases ho'
  unfold wpOpIn
  simp only [hi]
  rw [← hgd]
  rcases hcase with ⟨g1, g2, g3, g4⟩ | ⟨g1, g2⟩
  · rw [g1]
    simp only [Bool.false_eq_true, if_false]
    exact ⟨fun f _ => hF.fn f, quiet undef g4 (by rw [g2]; exact .undef)⟩
  rw [g1]
  simp only [if_true]
  -- the part of the heap that is seen, as the text's order has it
  have seen : (∀ f, (K i).fp f) → Rel (μ.lt (H i).next) (H i) w := fun hall => by
    refine RelC.congr (h := hs) (RelC.sub d.rel fun f e Lc x => ?_) fun f e Lc x => ?_
    · obtain ⟨q1, q2⟩ := Mu.lt_some x
      exact ⟨q2, Mu.lt_mono (Mu.le_refl _) (tr.mono (d.sees tr nx q2 q1 (hall f)).1 (by omega))⟩
    · obtain ⟨q1, q2⟩ := Mu.lt_some x
      exact ⟨q1, (d.sees tr nx q2 q1 (hall f)).2.symm⟩
  rcases drawOp_cases g2 with ⟨w1, w2, w3⟩ | ⟨R, W0, W, lw, w1, w2, w3, w4⟩ | ⟨w1, w3⟩ | ⟨w1, w3⟩
  · -- pure
    obtain ⟨_, ha⟩ := opV_pure w2 w3
    refine ⟨fun f _ => hF.fn f, ?_⟩
    have hs := pop_sound (w := w) hL w2 hopk hev ha
    cases hs with
    | mk e1 e2 =>
      have : o.semAt F.round a.eval = execOp a.eval o := by
        cases hFr : F.round with
        | none => rfl
        | some l => exact Oper.semAt_eq _ _ _ fun c hc => by rw [hc] at w2; simp [pureOp] at w2
      rw [this, e1]
      exact quiet _ w1 e2
  · -- a simple one
    have hnp : K i ≠ .pure := by rw [w1]; exact fun h => by cases h
    have hRd : ∀ f, f ∈ R → ∃ e Lc, μ f e = some Lc ∧ f < (H i).next := fun f hf => by
      obtain ⟨x, hx1, hx2⟩ := localFp_opd w2 hf
      obtain ⟨e, Lc, q⟩ := blk_dom (hev x hx1) hx2
      exact ⟨e, Lc, (Mu.lt_some q).2, (Mu.lt_some q).1⟩
    have hsee : ∀ f, f ∈ R → m f ≤ i ∧ hs.get f = (H i).get f := fun f hf => by
      obtain ⟨e, Lc, q1, q2⟩ := hRd f hf
      exact d.sees tr nx q1 q2 (by rw [w1]; exact hf)
    obtain ⟨hx, hxn, hxg⟩ := AH.ofFun (fun f => if m f ≤ i then hs.get f else none) (H i).next
    have hag : Agree R (H i) hx := ⟨hxn, fun f hf => by
      obtain ⟨e, Lc, q1, q2⟩ := hRd f hf
      rw [hxg f, if_pos q2]
      simp only [if_pos (hsee f hf).1]
      exact (hsee f hf).2⟩
    obtain ⟨hx', v1, v2⟩ := opV_loc (fr := { fr0 with env := E i }) w2 hag w3
    have hgetx : ∀ {f ob}, hx.get f = some ob → f < (H i).next ∧ m f ≤ i ∧ hs.get f = some ob := fun {f ob} hg => by
      rw [hxg f] at hg
      by_cases hf : f < (H i).next
      · rw [if_pos hf] at hg
        by_cases hm : m f ≤ i
        · simp only [if_pos hm] at hg; exact ⟨hf, hm, hg⟩
        · simp only [if_neg hm] at hg; cases hg
      · rw [if_neg hf] at hg; cases hg
    have hroKeep : ∀ {f e Lc}, μ f e = some Lc → f < (H i).next → isRo hs f → isRo hx f := fun {f e Lc} x hf ⟨c1, m1, q⟩ => by
      refine ⟨c1, m1, ?_⟩
      rw [hxg f, if_pos hf]
      have hm : m f ≤ i := by
        rcases Nat.lt_or_ge i (m f) with z | z
        · exfalso
          rcases d.mS f with y | ⟨y1, y2, y3⟩
          · omega
          · have hj := d.lt _ y2
            have hne : m f - 1 ≠ i := fun e => hni (e ▸ y2)
            rcases y3 with ⟨_, y3⟩ | ⟨y3, _⟩
            · cases hKj : K (m f - 1) with
              | pure => rw [hKj] at y3; exact y3
              | reads => rw [hKj] at y3; exact y3
              | writes => exact nx.dn (m f - 1) (by omega) y2 (by rw [hKj]; exact (clash_writes hnp).2)
              | loc R' W' =>
                rw [hKj] at y3
                have y3 : W' = some f := y3
                subst y3
                have hro' := (tr.loc (m f - 1) R' f hj hKj).2.2.1
                have hget := d.hget f (d.here tr x)
                rw [show m f - 1 + 1 = m f from by omega] at hro'
                exact nonRo_not hro' ⟨c1, m1, hget.symm.trans q⟩
            · have := tr.mono (i := i) (j := m f - 1) (by omega) (by omega); omega
        · exact z
      simp only [if_pos hm]; exact q
    have hrx : Rel (μ.lt (H i).next) hx w := by
      have kk : ∀ {f}, m f ≤ i → (μ.lt (H (m f)).next).le (μ.lt (H i).next) := fun {f} hm => Mu.lt_mono (Mu.le_refl _) (tr.mono hm (by omega))
      refine ⟨fun f e Lc x => ?_, fun f e Lc cs mr ro x hg => ?_, fun f e L1 g e' L2 x y hb => ?_, fun f e Lc y x hg => ?_, fun f e Lc b x hg => ?_⟩
      · obtain ⟨q1, q2⟩ := Mu.lt_some x
        exact ⟨by rw [hxn]; exact q1, (d.rel.dom _ _ _ q2).2⟩
      · obtain ⟨_, q3, q4⟩ := hgetx hg
        obtain ⟨h1, h2, h3, C, hrow, hcont⟩ := d.rel.cells _ _ _ _ _ _ (Mu.lt_some x).2 q4
        exact ⟨h1, h2, h3, C, hrow, fun hm o v z1 z2 z3 => let ⟨c, k1, k2⟩ := hcont hm o v z1 z2 z3; ⟨c, k1, k2.mono (kk q3)⟩⟩
      · obtain ⟨q1, q2⟩ := Mu.lt_some x
        obtain ⟨y1, y2⟩ := Mu.lt_some y
        rcases d.rel.sep _ _ _ _ _ _ q2 y2 hb with t | ⟨t1, t2⟩
        · exact .inl t
        · exact .inr ⟨hroKeep q2 q1 t1, hroKeep y2 y1 t2⟩
      · obtain ⟨_, q3, q4⟩ := hgetx hg
        obtain ⟨h0, Pl, z1, z2, z3, z4, z5, z6, z7, Ld, z8, z9⟩ := d.rel.loops _ _ _ _ (Mu.lt_some x).2 q4
        exact ⟨h0, Pl, z1, z2, z3, z4, z5, z6, z7.mono (kk q3), Ld, kk q3 _ _ _ z8, z9⟩
      · obtain ⟨_, q3, q4⟩ := hgetx hg
        obtain ⟨h0, O1, z1, hO⟩ := d.rel.oth _ _ _ _ (Mu.lt_some x).2 q4
        exact ⟨h0, O1, z1, hO.mono (kk q3)⟩
    have hlw : lw.le hx.next := by
      rw [hxn]
      rcases w4 with ⟨_, rfl⟩ | ⟨f, _, _, rfl, _⟩
      · exact Lw.le_up _
      · exact Lw.le_one _ _
    obtain ⟨k1, k2, k3⟩ := opV_sim hL hsim v1 hlw hopk
    refine k3 F n (μ.lt (H i).next) w a next Q hF hround hrx hev fun μ2 w' u dc s1 s2 s3 s4 => ?_
    cases s4
    have hwrt : ∀ {f}, (K i).wrt f → W = some f := fun {f} h => by rw [w1] at h; exact h
    obtain ⟨m', hs', μ', _, d'⟩ := DI.merge (o := o) tr d nx hk ht hi hnp A4 hdst (lw := lw) (hx' := hx') v2.next s1 s2 s3
      (fun f hw => v2.here f (by
        rcases hw with ⟨_, hw⟩ | ⟨hw, _⟩
        · have := hwrt hw
          subst this
          exact .inl (tr.loc i R f hik w1).1
        · exact .inr hw))
      (fun f e Lc x hf hw ⟨c1, m1, q⟩ => by
        by_cases hfR : f ∈ R
        · rw [v2.here f (.inl hfR), tr.get i hik f hf (fun h => hw (.inl ⟨hf, h⟩)), ← (hsee f hfR).2] at q
          exact ⟨c1, m1, q⟩
        · rw [(v2.there f hfR hf).1] at q
          exact ⟨c1, m1, (hgetx q).2.2⟩)
      (fun f hf hok => by
        rcases w4 with ⟨_, rfl⟩ | ⟨f0, rfl, _, rfl, y1, _⟩
        · have := Nat.ble_eq.mp hok; omega
        · simp only [Lw.ok, Bool.or_eq_true] at hok
          rcases hok with hok | hok
          · have := Nat.eq_of_beq_eq_true hok
            subst this
            exact ⟨.inl ⟨hf, by rw [w1]; rfl⟩, y1⟩
          · have := Nat.ble_eq.mp hok; omega)
      (fun g e Lc xg hwg f e' L' x hf hw => by
        rcases hw with ⟨_, hw⟩ | ⟨hw, _⟩
        · have := hwrt hw
          subst this
          obtain ⟨y0, y1, _⟩ := tr.loc i R f hik w1
          refine fun ⟨c1, m1, q⟩ => nonRo_not y1 ⟨c1, m1, ?_⟩
          rw [← (hsee f y0).2]; exact q
        · omega)
      (fun R' f hK => by
        rw [w1] at hK; cases hK
        obtain ⟨e, Lc, q1, _⟩ := hRd f (tr.loc i R f hik w1).1
        exact d.dom f e Lc q1)
    exact hnext m' hs' μ' _ w' d'
  · -- looks at the heap, and writes nothing that is there
    have hnp : K i ≠ .pure := by rw [w1]; exact fun h => by cases h
    have hrr := seen (fun f => by rw [w1]; trivial)
    obtain ⟨k1, k2, k3⟩ := opV_sim hL hsim w3 (Lw.le_up _) hopk
    refine k3 F n (μ.lt (H i).next) w a next Q hF hround hrr hev fun μ2 w' u dc s1 s2 s3 s4 => ?_
    cases s4
    obtain ⟨m', hs', μ', _, d'⟩ := DI.merge (o := o) tr d nx hk ht hi hnp A4 hdst (lw := .up (H i).next) (hx' := H (i + 1)) rfl s1 s2 s3
      (fun f hw => rfl)
      (fun f e Lc x hf hw ⟨c1, m1, q⟩ => by
        rw [tr.get i hik f hf (fun h => hw (.inl ⟨hf, h⟩)), ← (d.sees tr nx x hf (by rw [w1]; trivial)).2] at q
        exact ⟨c1, m1, q⟩)
      (fun f hf hok => by have := Nat.ble_eq.mp hok; omega)
      (fun g e Lc xg hwg f e' L' x hf hw => by
        rcases hw with ⟨_, hw⟩ | ⟨hw, _⟩
        · rw [w1] at hw; exact hw.elim
        · omega)
      (fun R' f hK => by rw [w1] at hK; cases hK)
    exact hnext m' hs' μ' _ w' d'
  · -- writes
    have hnp : K i ≠ .pure := by rw [w1]; exact fun h => by cases h
    have hrr := seen (fun f => by rw [w1]; trivial)
    have hlow : low.le (H i).next := tr.base.mono (tr.mono (Nat.zero_le _) (by omega))
    have hall : ∀ {f e Lc}, μ f e = some Lc → f < (H i).next := fun {f e Lc} x => by
      rcases d.dom f e Lc x with q | ⟨j, q1, q2, q3⟩
      · exact Nat.lt_of_lt_of_le q (tr.mono (Nat.zero_le _) (by omega))
      · rcases Nat.lt_trichotomy j i with z | z | z
        · exact Nat.lt_of_lt_of_le q3 (tr.mono (by omega) (by omega))
        · exact (hni (z ▸ q1)).elim
        · exfalso
          refine nx.dn j z q1 ?_
          rw [w1]
          exact (clash_writes (fun hp => by rw [tr.pure j (d.lt j q1) hp] at q3; omega)).1
    obtain ⟨k1, k2, k3⟩ := opV_sim hL hsim w3 hlow hopk
    refine k3 F n (μ.lt (H i).next) w a next Q hF hround hrr hev fun μ2 w' u dc s1 s2 s3 s4 => ?_
    cases s4
    have hww : ∀ {f}, f < (H i).next → Wrf H K i f := fun {f} hf => .inl ⟨hf, by rw [w1]; trivial⟩
    obtain ⟨m', hs', μ', _, d'⟩ := DI.merge (o := o) tr d nx hk ht hi hnp A4 hdst (lw := low) (hx' := H (i + 1)) rfl s1 s2 s3
      (fun f hw => rfl)
      (fun f e Lc x hf hw => (hw (hww hf)).elim)
      (fun f hf hok => ⟨hww hf, hok⟩)
      (fun g e Lc xg hwg f e' L' x hf hw => (hwg (hww (hall xg))).elim)
      (fun R' f hK => by rw [w1] at hK; cases hK)
    exact hnext m' hs' μ' _ w' d'
end
end Go.AM

namespace Go.AM
variable {P : Program} {L : Ty}
variable {r : Rec} {low : Lw} {k : Nat} {ops : Array Oper} {fr0 : Fr} {V : Nat → Value} {H : Nat → AH} {E : Nat → Env} {K : Nat → Kind}

section
variable (hL : L.Ok P) (hsim : SimRec P r) {N : Nat} (hok : ops.toList.all (operOk N) = true) (hk : ops.size = k) (tr : Tr0 low k H K)
  (ht : ∀ j, j < k → Tstep L r low ops fr0 V H E K j) (hst : drawStatic ops = true)
  (hdyn : ∀ i j, i < j → j < k → (K i).clash (K j) = true → ahead (masks ops.toList []) i j = true)
  {μ0 : Mu} {w0 : World} {sz : Nat} {ds : List Deferred}
include hL hsim hok hk tr ht hst hdyn

theorem listed_true {listed : Array Bool} {j : Nat} (hj : j < listed.size) : listed.getD j true = listed.getD j false := by simp [hj]

theorem DI.all {F : Fence} {n : Nat} {Q : Exit → Act → World → Prop} (hF : Wd F) (hro : RoundRel (μ0.lt (H 0).next) fr0.round F.round) (hN : N ≤ sz)
    (hQ : ∀ μ' a' w', Step low μ0 μ' w0 w' → Rel μ' (H k) w' → EnvRel μ' (E k) a'.tmps → a'.tmps.size = sz → a'.defers = ds → Q .normal a' w') :
    ∀ (fuel : Nat) (listed : Array Bool) (S : Nat → Prop) (m : Nat → Nat) (hs : AH) (μ : Mu) (a : Act) (w : World), listed.size = k → listed.toList.count false ≤ fuel → (∀ j, S j ↔ listed.getD j false = true) →
      (∀ j o, S j → ops[j]? = some o → ∀ e ∈ o.after.toList, Region.binds .any e = true → S e.on) →
      DI low k ops H E K μ0 w0 sz ds S m hs μ a w → wpAnyIn F n P .any ops Q fuel listed a w := by
  have hst1 : ∀ j o, ops[j]? = some o → ∀ e ∈ o.after.toList, Region.binds .any e = true → e.on < j := fun j o ho e he hb => by
    unfold drawStatic at hst; simp only [Bool.and_eq_true, List.all_eq_true] at hst
    have := hst.1 (o, j) (by rw [List.mem_zipIdx_iff_getElem?]; simpa using ho) e he
    rw [hb] at this
    simp only [Bool.not_true, Bool.false_or] at this
    exact Nat.ble_eq.mp this
  -- nothing comes up: all is done
  have fin : ∀ (listed : Array Bool) (S : Nat → Prop) (m : Nat → Nat) (hs : AH) (μ : Mu) (a : Act) (w : World), listed.size = k → (∀ j, S j ↔ listed.getD j false = true) →
      DI low k ops H E K μ0 w0 sz ds S m hs μ a w → Region.ready .any ops listed = [] → Q .normal a w := by
    intro listed S m hs μ a w hls hS d hnil
    have hall : ∀ j, j < k → S j := by
      intro j
      induction j using Nat.strongRecOn with
      | _ j ih =>
        intro hj
        refine Classical.byContradiction fun hn => ?_
        have hf : listed.getD j false = false := by
          cases hb : listed.getD j false with
          | false => rfl
          | true => exact (hn ((hS j).2 hb)).elim
        have : j ∈ Region.ready .any ops listed := by
          rw [mem_ready]
          refine ⟨by rw [show listed.getD j true = listed.getD j false from by simp [show j < listed.size by omega]]; exact hf, ops[j], by simp [hk, hj], fun e he hb => ?_⟩
          have hlt := hst1 j ops[j] (by simp [hk, hj]) e (by simpa using he) hb
          exact (hS _).1 (ih e.on hlt (by omega))
        rw [hnil] at this; cases this
    have hdomk : ∀ f e Lc, μ f e = some Lc → f < (H k).next := fun f e Lc x => Nat.lt_of_lt_of_le (d.here tr x) (tr.mono (d.mle f) (Nat.le_refl _))
    refine hQ μ a w d.step (RelC.congr (h := hs) (RelC.sub d.rel fun f e Lc x => ⟨x, Mu.lt_le _ _⟩) fun f e Lc x => ⟨hdomk f e Lc x, ?_⟩) (fun t => ?_) d.size d.defers
    · have hh := d.here tr x
      rw [d.hget f hh]
      exact tr.same hh (d.mle f) (Nat.le_refl _) fun l q1 q2 => d.mmax f l q1 (hall l q2)
    obtain ⟨m, hmk, hm, hmax, hv⟩ := d.env t
    have hsame : ∀ n, m + n ≤ k → (E (m + n)).get t = (E m).get t := by
      intro n
      induction n with
      | zero => intro _; rfl
      | succ n ih =>
        intro hn
        rw [← ih (by omega)]
        obtain ⟨p, hp, he, _⟩ := (ht (m + n) (by omega)).out
        rw [show m + (n + 1) = m + n + 1 from by omega, he]
        have hne : p.dst ≠ some t := hmax _ _ (by omega) (hall _ (by omega)) hp
        cases hpd : p.dst with
        | none => rfl
        | some u =>
          simp only [Env.put, Env.get_set]
          rw [if_neg]
          rintro rfl
          exact hne hpd
    have := hsame (k - m) (by omega)
    rw [show m + (k - m) = k from by omega] at this
    rw [this]
    exact hv.mono (Mu.lt_le _ _)
  intro fuel
  induction fuel with
  | zero =>
    intro listed S m hs μ a w hls hcnt hS hcl d
    have hnil : Region.ready .any ops listed = [] := by
      rw [List.eq_nil_iff_forall_not_mem]
      intro j hj
      rw [mem_ready] at hj
      obtain ⟨h1, o, ho, _⟩ := hj
      have hjl : j < listed.size := by rw [hls, ← hk]; exact (Array.getElem?_eq_some_iff.1 ho).1
      have h0 : listed.toList.count false = 0 := by omega
      rw [List.count_eq_zero] at h0
      apply h0
      simp [hjl] at h1
      rw [Array.mem_toList_iff, Array.mem_iff_getElem]
      exact ⟨j, hjl, h1⟩
    exact ⟨hnil, fin listed S m hs μ a w hls hS d hnil⟩
  | succ fuel ih =>
    intro listed S m hs μ a w hls hcnt hS hcl d
    refine ⟨fin listed S m hs μ a w hls hS d, fun i hi => ?_⟩
    rw [mem_ready] at hi
    obtain ⟨h1, o, ho, hed⟩ := hi
    have hil : i < listed.size := by rw [hls, ← hk]; exact (Array.getElem?_eq_some_iff.1 ho).1
    have hni : ¬ S i := fun hs => by
      have := (hS i).1 hs
      simp [hil] at this h1
      rw [h1] at this; cases this
    have hed' : ∀ e ∈ o.after.toList, Region.binds .any e = true → S e.on := fun e he hb => (hS _).2 (hed e (by simpa using he) hb)
    refine DI.op hL hsim hok hk tr ht hst hdyn hF hro hN d hcl ho hni hed' fun m' hs' μ' a' w' d' => ?_
    refine ih _ _ m' hs' μ' a' w' (by simpa using hls) ?_ (fun j => ?_) (fun j o' hj ho' e he hb => ?_) d'
    · rw [Array.toList_setIfInBounds, List.count_set (by simpa using hil)]
      have : listed.toList[i]'(by simpa using hil) = false := by simp [hil] at h1; simpa using h1
      rw [this]
      have hpos : 0 < listed.toList.count false := by
        rw [List.count_pos_iff]
        rw [← this]; exact List.getElem_mem _
      simp only [beq_self_eq_true, if_true, Nat.sub_self]
      simp only [show (true == false) = false from rfl, Bool.false_eq_true, if_false]
      omega
    · by_cases hji : j = i
      · subst hji; simp [hil]
      · rw [getD_set_ne false (fun e => hji e.symm), ← hS j]
        exact ⟨fun h => h.resolve_right hji, .inl⟩
    · rcases hj with hj | rfl
      · exact .inl (hcl j o' hj ho' e he hb)
      · rw [ho] at ho'; cases ho'; exact .inl (hed' e he hb)
end

theorem draw_sim (hL : L.Ok P) (hsim : SimRec P r) {N : Nat} {fr fr' : Fr} {h h' : AH} {ks : List Kind} (hok : ops.toList.all (operOk N) = true) (hst : drawStatic ops = true)
    (he : drawV L r low ops ops.toList fr h = some (ks, fr', h')) (hd : drawDyn ops ks = true) (hlow : low.le h.next) :
    AKept low h h' ∧ fr'.round = fr.round ∧
      ∀ (F : Fence) n μ w a (Q : Exit → Act → World → Prop), Wd F → RoundRel μ fr.round F.round → St μ fr h a w → N ≤ a.tmps.size →
        (∀ μ' a' w', Step low μ μ' w w' → St μ' fr' h' a' w' → a'.tmps.size = a.tmps.size → Q .normal a' w') → wpAnyIn F n P .any ops Q ops.size (Array.replicate ops.size false) a w := by
  obtain ⟨V, H, E, K, q1, q2, q3, q4, q5, q6, q7⟩ := trace_of (L := L) (r := r) (low := low) (ops := ops) (fr0 := fr) ops.toList 0 fr h ks fr' h' (by simp) rfl rfl he
  simp only [Nat.zero_add, Array.length_toList] at q3 q4 q5 q6 q7
  have ht : ∀ j, j < ops.size → Tstep L r low ops fr V H E K j := fun j hj => q7 j (Nat.zero_le _) hj
  have tr : Tr0 low ops.size H K := trace_Tr0 hL hsim hok rfl (by rw [q1]; exact hlow) ht
  have hdyn : ∀ i j, i < j → j < ops.size → (K i).clash (K j) = true → ahead (masks ops.toList []) i j = true := fun i j hij hj hc =>
    dyn_spec hd (fun j hj => q6 j (by rw [← q5]; exact hj)) (by omega) hij hc
  subst q4
  have hkk := tr.kept (Nat.le_refl _)
  rw [q1, q3] at hkk
  refine ⟨hkk, rfl, fun F n μ w a Q hF hro hs hN hQ => ?_⟩
  have hdom : ∀ f e Lc, μ f e = some Lc → f < (H 0).next := fun f e Lc x => by rw [q1]; exact (hs.rel.dom _ _ _ x).1
  have hnn : (H 0).next ≤ (H ops.size).next := tr.mono (Nat.zero_le _) (Nat.le_refl _)
  obtain ⟨h0, h0n, h0g⟩ := AH.ofFun (fun f => (H 0).get f) (H ops.size).next
  have h0s : ∀ f, f < (H 0).next → h0.get f = (H 0).get f := fun f hf => by rw [h0g, if_pos (by omega)]
  refine DI.all hL hsim hok rfl tr ht hst hdyn (μ0 := μ) (w0 := w) (sz := a.tmps.size) (ds := a.defers) hF (hro.mono (Mu.le_lt (Mu.le_refl _) hdom)) hN
    (fun μ' a' w' s1 s2 s3 s4 s5 => hQ μ' a' w' s1 ⟨by rw [q3] at s2; exact s2, s3, by rw [s5]; exact hs.defs.mono s1.sub⟩ s4)
    ops.size _ (fun _ => False) (fun _ => 0) h0 μ a w (by simp) (by simp) (fun j => ?_) (fun j o hf => hf.elim)
    ⟨fun j hf => hf.elim, fun _ => Nat.zero_le _, fun _ => .inl rfl, fun f j _ hf => hf.elim, h0n, h0s, fun f e Lc x => .inl (hdom f e Lc x), fun j R f hf => hf.elim, ?_, fun t => ⟨0, Nat.zero_le _, .inl rfl, fun j o _ hf => hf.elim, ?_⟩, .refl _ _ _, rfl, rfl⟩
  · simp
    by_cases h : j < ops.size <;> simp [Array.getElem?_replicate, h]
  · refine RelC.congr (h := h) (RelC.sub hs.rel fun f e Lc x => ⟨x, Mu.le_lt (Mu.le_refl _) hdom⟩) fun f e Lc x => ?_
    have hf := hdom f e Lc x
    exact ⟨by rw [h0n]; omega, by rw [h0s f hf, q1]⟩
  · rw [q2]
    exact (hs.env t).mono (Mu.le_lt (Mu.le_refl _) hdom)

end Go.AM

