/- Facts of the given program that the abstract machine asks for; what two of its functions (disk.Check, num.Read) do on a small heap with variables. -/
import Derived.Test.YtmkbdhjikpamiaaGreatAm7
import Derived.Test.YtmkbdhjikpamiaaGreatRows
namespace Go.Proofs.YtmkbdhjikpamiaaGreat
open Go.AM
theorem fnsOk : Tryz.prog.funcs.toList.all okFn = true := by kernel_rfl
theorem mixedOk : Tryz.prog.follows .mixedOrders = true := by kernel_rfl
def okL : List Nat := [7, 8, 32, 33, 40, 41, 50, 51, 146, 147, 158, 159, 181, 182, 184, 185, 196, 197, 198, 199, 200, 249, 250, 320, 321, 364, 390]
noncomputable def okT (t : TypeId) : Bool := okL.any (Nat.beq t)
theorem heldOk : okL.all (fun t => !(Tryz.prog.stoodInHeld t)) = true := by kernel_rfl
theorem okT_held (t : TypeId) (h : okT t = true) : Tryz.prog.stoodInHeld t = false := by
  unfold okT at h
  rw [List.any_eq_true] at h
  obtain ⟨u, h1, h2⟩ := h
  rw [Nat.eq_of_beq_eq_true h2]
  have := List.all_eq_true.mp heldOk u h1
  simpa using this
theorem fnOk (f : Nat) (fn : Func) (_ : true = true) (hf : Tryz.prog.funcs[f]? = some fn) : okFn fn = true := by
  have := fnsOk
  rw [List.all_eq_true] at this
  exact this fn (by rw [List.mem_iff_getElem?]; exact ⟨f, by simpa using hf⟩)
noncomputable def pBase : Pr := prR Tryz.prog okT (fun _ => true) (fun _ => false)
theorem pBase_ok : pBase.Ok Tryz.prog := prR_ok okT_held mixedOk fnOk
theorem check19 (off cap : Nat → Nat) (c0 : Nat) : isOk ((recN pBase 200).call (.up 2) 115 [.agg ⟨[.slice (some ⟨0, 0, some (2 * 19)⟩) 19 c0, .slice none 0 0]⟩] (smallH (secsFrom 32 off cap 0 19))) = true := by kernel_rfl
theorem read4 (x : Nat → Int) (cb cs : Nat) : newInts ((recN pBase 200).call (.up 2) 179 [.slice (some ⟨0, 0, some 32⟩) 4 cb, .slice (some ⟨1, 0, some 4⟩) 1 cs] (smallH2 (bytesFrom x 0 32) [i64 4, i64 1, i64 1, i64 2])) =
    some [u64 (stepR (stepR (stepR (stepR 0 (x 0)) (x 1)) (x 2)) (x 3))] := by kernel_rfl
theorem read8 (x : Nat → Int) (cb cs : Nat) : newInts ((recN pBase 200).call (.up 2) 179 [.slice (some ⟨0, 0, some 32⟩) 8 cb, .slice (some ⟨1, 0, some 4⟩) 4 cs] (smallH2 (bytesFrom x 0 32) [i64 4, i64 1, i64 1, i64 2])) =
    some [u64 (stepR (stepR (stepR (stepR 0 (x 0)) (x 1)) (x 2)) (x 3)), u64 (stepR 0 (x 4)), u64 (stepR 0 (x 5)), u64 (stepR (stepR 0 (x 6)) (x 7))] := by kernel_rfl
noncomputable def natCk (args : List Value) (h : AH) : Option (Value × AH) := bif natC 32 19 args h then some (.int .i64 (.ofNat 0), h) else none
abbrev Fast := FuncId → Option (List Value → AH → Option (Value × AH))
def FastOk (t : Fast) : Prop := ∀ f g, t f = some g → ∀ args h v h', g args h = some (v, h') → ∀ low : Lw, low.le h.next → GoodAt Tryz.prog f args h low v h'
noncomputable def fast0 : Fast := fun f => bif Nat.beq f 115 then some natCk else bif Nat.beq f 179 then some natRd else none
theorem fast0_ok : FastOk fast0 := fun f g hf args h v h' hg low hlow => by
  unfold fast0 at hf
  cases h1 : Nat.beq f 115 with
  | true =>
    rw [h1] at hf
    simp only [cond_true, Option.some.injEq] at hf
    subst hf
    have h1 := Nat.eq_of_beq_eq_true h1
    subst h1
    unfold natCk at hg
    cases hc : natC 32 19 args h with
    | false => rw [hc] at hg; cases hg
    | true =>
      rw [hc] at hg
      simp only [cond_true, Option.some.injEq, Prod.mk.injEq] at hg
      obtain ⟨rfl, rfl⟩ := hg
      exact natC_sim (recN_sim pBase_ok 200) check19 hc low
  | false =>
    rw [h1] at hf
    simp only [cond_false] at hf
    cases h2 : Nat.beq f 179 with
    | false => rw [h2] at hf; cases hf
    | true =>
      rw [h2] at hf
      simp only [cond_true, Option.some.injEq] at hf
      subst hf
      have h2 := Nat.eq_of_beq_eq_true h2
      subst h2
      exact natRd_sim (recN_sim pBase_ok 200) read4 read8 hg hlow
/-- The machine of the program with natives. -/
noncomputable def pWith (t : Fast) : Pr := prN Tryz.prog okT (fun _ => true) (fun f => Nat.beq f 251) t
theorem pWith_sim {t : Fast} (h : FastOk t) (n : Nat) : SimRec Tryz.prog (Mo.recM (pWith t) n) := by
  rw [Mo.recM_eq]
  exact recN_sim (prN_ok okT_held mixedOk fnOk h) n
/-- A call that is known is put into the table. -/
noncomputable def withMemo (f0 : FuncId) (E : Memo) (t : Fast) : Fast := fun f => bif Nat.beq f f0 then some (memoN E) else t f
theorem withMemo_ok {t u : Fast} (ht : FastOk t) (hu : FastOk u) {f0 : FuncId} {E : Memo} {n : Nat} (hrun : memoRun (Mo.recM (pWith t) n) f0 E = true) : FastOk (withMemo f0 E u) := fun f g hf args h v h' hg low hlow => by
  unfold withMemo at hf
  cases h1 : Nat.beq f f0 with
  | true =>
    rw [h1] at hf
    simp only [cond_true, Option.some.injEq] at hf
    subst hf
    have h1 := Nat.eq_of_beq_eq_true h1
    subst h1
    exact memo_sim (pWith_sim ht n) hrun hg hlow
  | false =>
    rw [h1] at hf
    exact hu f g hf args h v h' hg low hlow
noncomputable def okB (x : Option (Value × AH)) : Bool := match x with | some (.bool true, _) => true | _ => false
theorem okB_spec {x : Option (Value × AH)} (h : okB x = true) : ∃ h', x = some (.bool true, h') := by
  unfold okB at h
  split at h
  · exact ⟨_, rfl⟩
  · cases h
def I (n : Nat) : Value := .int .i64 (.ofNat n)
def B (n : Nat) : Value := .int .u8 (.ofNat n)
end Go.Proofs.YtmkbdhjikpamiaaGreat
