/- Facts of the given program that the abstract machine asks for; what disk.Check does on a small heap with variables; a function that begins by the address of a field of no cells; calls that are known. -/
import Derived.Test.YtmkbdhjikpamiaaGreatAm7
import Derived.Test.YtmkbdhjikpamiaaGreatRows
namespace Go.Proofs.YtmkbdhjikpamiaaGreat
open Go.AM
theorem fnsOk : Tryz.prog.funcs.toList.all okFn = true := by kernel_rfl
theorem mixedOk : Tryz.prog.follows .mixedOrders = true := by kernel_rfl
def okL : List Nat := [7, 8, 32, 33, 40, 41, 50, 51, 146, 147, 158, 159, 181, 182, 184, 185, 196, 197, 198, 199, 200, 249, 250, 320, 321, 364, 390]
noncomputable def okT (t : TypeId) : Bool := okL.any (Nat.beq t)
theorem heldOk : okL.all (fun t => !(Tryz.prog.stoodInHeld t)) = true := by kernel_rfl
theorem okT_held (t : TypeId) (h : okT t = true) : Tryz.prog.stoodInHeld t = false := by
  unfold okT at h
  rw [List.any_eq_true] at h
  obtain ⟨u, h1, h2⟩ := h
  rw [Nat.eq_of_beq_eq_true h2]
  have := List.all_eq_true.mp heldOk u h1
  simpa using this
theorem fnOk (f : Nat) (fn : Func) (_ : true = true) (hf : Tryz.prog.funcs[f]? = some fn) : okFn fn = true := by
  have := fnsOk
  rw [List.all_eq_true] at this
  exact this fn (by rw [List.mem_iff_getElem?]; exact ⟨f, by simpa using hf⟩)
noncomputable def pBase : Pr := prR Tryz.prog okT (fun _ => true) (fun _ => false)
theorem pBase_ok : pBase.Ok Tryz.prog := prR_ok okT_held mixedOk fnOk
theorem check (off cap : Nat → Nat) (c0 : Nat) : isOk ((recN pBase 400).call (.up 2) 115 [.agg ⟨[.slice (some ⟨0, 0, some (2 * 86)⟩) 86 c0, .slice none 0 0]⟩] (smallH (secsFrom 32 off cap 0 86))) = true := by kernel_rfl
noncomputable def natCk (args : List Value) (h : AH) : Option (Value × AH) := bif natC 32 86 args h then some (.int .i64 (.ofNat 0), h) else none
abbrev Fast := FuncId → Option (List Value → AH → Option (Value × AH))
def FastOk (t : Fast) : Prop := ∀ f g, t f = some g → ∀ args h v h', g args h = some (v, h') → ∀ low : Lw, low.le h.next → GoodAt Tryz.prog f args h low v h'
noncomputable def fast0 : Fast := fun f => bif Nat.beq f 115 then some natCk else none
theorem fast0_ok : FastOk fast0 := fun f g hf args h v h' hg low hlow => by
  unfold fast0 at hf
  cases h1 : Nat.beq f 115 with
  | true =>
    rw [h1] at hf
    simp only [cond_true, Option.some.injEq] at hf
    subst hf
    have h1 := Nat.eq_of_beq_eq_true h1
    subst h1
    unfold natCk at hg
    cases hc : natC 32 86 args h with
    | false => rw [hc] at hg; cases hg
    | true =>
      rw [hc] at hg
      simp only [cond_true, Option.some.injEq, Prod.mk.injEq] at hg
      obtain ⟨rfl, rfl⟩ := hg
      exact natC_sim (recN_sim pBase_ok 400) check hc low
  | false => rw [h1] at hf; cases hf

/-! a function that begins by the address of a field of no cells -/
noncomputable def ops0 : Array Oper := match Tryz.f339.body with | some (.seq (.region _ o _) _) => o | _ => #[]
noncomputable def ops1 : Array Oper := match Tryz.f339.body with | some (.seq _ (.seq (.region _ o _) _)) => o | _ => #[]
noncomputable def restD : Code := match Tryz.f339.body with | some (.seq _ (.seq _ c)) => c | _ => .skip
noncomputable def oper0 : Oper := ops0.toList.headD default
noncomputable def oper1 : Oper := ops1.toList.headD default
theorem downFld : (match Tryz.prog.underlying 200 with
    | some (.struct fs) => match fs[0]? with
      | some f => match Tryz.prog.info? f.type with
        | some ti => Nat.beq ti.size 0 && Nat.beq f.offset 0 && Nat.beq f.byteOffset 0
        | none => false
      | none => false
    | _ => false) = true := by kernel_rfl
theorem zfn : ZFn Tryz.prog Tryz.f339 0 1 oper0 oper1 ops1 restD 2 7 200 0 where
  body := by kernel_rfl
  res := by kernel_rfl
  op0 := by kernel_rfl
  dst0 := by kernel_rfl
  grd0 := by kernel_rfl
  fst := by kernel_rfl
  op1 := by kernel_rfl
  dst1 := by kernel_rfl
  grd1 := by kernel_rfl
  fld := by
    have h := downFld
    split at h
    · rename_i fs hu
      split at h
      · rename_i f hf
        split at h
        · rename_i ti hi
          simp only [Bool.and_eq_true] at h
          exact ⟨fs, f, ti, hu, hf, hi, Nat.eq_of_beq_eq_true h.1.1, Nat.eq_of_beq_eq_true h.1.2, Nat.eq_of_beq_eq_true h.2⟩
        · cases h
      · cases h
    · cases h
  none := by kernel_rfl
noncomputable def pNat (t : Fast) : Pr := prN Tryz.prog okT (fun _ => true) (fun f => Nat.beq f 251) t
theorem pNat_ok {t : Fast} (h : FastOk t) : (pNat t).Ok Tryz.prog := prN_ok okT_held mixedOk fnOk h
theorem pNat_fn (t : Fast) : (pNat t).fn 339 = some Tryz.f339 := by kernel_rfl
/-- The machine of the program with natives. -/
noncomputable def pWith (t : Fast) : Pr := prZ (pNat t) 339 (natZ (pNat t).ty ops1 restD 2 7)
theorem pWith_ok {t : Fast} (h : FastOk t) : (pWith t).Ok Tryz.prog :=
  prZ_ok (pNat_ok h) fun _ hr _ _ _ _ _ he hlow => natZ_sim (pNat_ok h) hr (pNat_fn t) zfn he hlow
theorem pWith_sim {t : Fast} (h : FastOk t) (n : Nat) : SimRec Tryz.prog (Mo.recM (pWith t) n) := by
  rw [Mo.recM_eq]
  exact recN_sim (pWith_ok h) n

/-! calls that are known -/
def MemoOk (f0 : FuncId) (E : Memo) : Prop := ∀ args h v h', memoN E args h = some (v, h') → ∀ low : Lw, low.le h.next → GoodAt Tryz.prog f0 args h low v h'
theorem memoOk {t : Fast} (ht : FastOk t) {f0 : FuncId} {E : Memo} {n : Nat} (hrun : memoRun (Mo.recM (pWith t) n) f0 E = true) : MemoOk f0 E := fun _ _ _ _ hg low hlow =>
  memo_sim (pWith_sim ht n) hrun hg hlow
noncomputable def memosN (l : List Memo) (args : List Value) (h : AH) : Option (Value × AH) :=
  List.rec (motive := fun _ => Option (Value × AH)) none (fun E _ ih => match memoN E args h with | some o => some o | none => ih) l
theorem memosN_ok {f0 : FuncId} : ∀ {l : List Memo}, (∀ E, E ∈ l → MemoOk f0 E) → ∀ args h v h', memosN l args h = some (v, h') → ∀ low : Lw, low.le h.next → GoodAt Tryz.prog f0 args h low v h'
  | [], _, _, _, _, _, hg, _, _ => by cases hg
  | E :: l, hl, args, h, v, h', hg, low, hlow => by
    have hg : (match memoN E args h with | some o => some o | none => memosN l args h) = some (v, h') := hg
    split at hg
    · rename_i o ho
      cases hg
      exact hl E (by simp) args h v h' ho low hlow
    · exact memosN_ok (fun E' h' => hl E' (by simp [h'])) args h v h' hg low hlow
noncomputable def withMemos (f0 : FuncId) (l : List Memo) (t : Fast) : Fast := fun f => bif Nat.beq f f0 then some (memosN l) else t f
theorem withMemos_ok {u : Fast} (hu : FastOk u) {f0 : FuncId} {l : List Memo} (hl : ∀ E, E ∈ l → MemoOk f0 E) : FastOk (withMemos f0 l u) := fun f g hf args h v h' hg low hlow => by
  unfold withMemos at hf
  cases h1 : Nat.beq f f0 with
  | true =>
    rw [h1] at hf
    simp only [cond_true, Option.some.injEq] at hf
    subst hf
    have h1 := Nat.eq_of_beq_eq_true h1
    subst h1
    exact memosN_ok hl args h v h' hg low hlow
  | false =>
    rw [h1] at hf
    exact hu f g hf args h v h' hg low hlow
noncomputable def okB (x : Option (Value × AH)) : Bool := match x with | some (.bool true, _) => true | _ => false
theorem okB_spec {x : Option (Value × AH)} (h : okB x = true) : ∃ h', x = some (.bool true, h') := by
  unfold okB at h
  split at h
  · exact ⟨_, rfl⟩
  · cases h
def I (n : Nat) : Value := .int .i64 (.ofNat n)
def B (n : Nat) : Value := .int .u8 (.ofNat n)
def z32 : MObj := ⟨[B 0, B 0, B 0, B 0, B 0, B 0, B 0, B 0, B 0, B 0, B 0, B 0, B 0, B 0, B 0, B 0, B 0, B 0, B 0, B 0, B 0, B 0, B 0, B 0, B 0, B 0, B 0, B 0, B 0, B 0, B 0, B 0], 0⟩
end Go.Proofs.YtmkbdhjikpamiaaGreat
