/- An abstract machine for programs of this language, part 6: what it computes is what a call of the program does. Holds: AmRec2: functions that recover.; AmRec3: the same, strict; the machine of a given program, with functions that recover.; AmC1: the same machine, its branches closed terms (they are not copied at each step).; AmMono: the closed machine at one type of results: MADE BY gen_mono.py.. -/
import Derived.Test.YtankbhnmpmhldaaGreatDoorAm5
import Derived.KernelRfl

set_option linter.unusedSectionVars false
set_option linter.unusedSimpArgs false
set_option linter.unusedVariables false

namespace Go.AM
variable {P : Program}

noncomputable def opsS (L : Ty) (low : Lw) (ops : Array Oper) : List Oper → Env → AH → Option (Env × AH)
  | [], e, h => some (e, h)
  | o :: rest, e, h =>
    bif guardV ops e o then
      match aop L low e.eval h o.op with
      | some (.val v h) => opsS L low ops rest (e.put o.dst v) h
      | some (.skip h) => opsS L low ops rest (e.put o.dst undef) h
      | _ => none
    else opsS L low ops rest (e.put o.dst undef) h

def isRec (o : Oper) : Bool := match o.op, o.guard with
  | .call c, none => match c.callee with
    | .builtin .recover => true
    | _ => false
  | _, _ => false

/-- What a function that is done leaves. -/
noncomputable def doneV (L : Ty) (rs : List ResultVar) (o : Option Out) : Option (Value × AH) := match o with
  | some ⟨.normal, fr, h⟩ => match fr.defers with
    | [] => (resultsV L fr.env h rs).map fun vs => (oneOrTuple vs, h)
    | _ => none
  | some ⟨.ret, fr, h⟩ => match fr.defers with
    | [] => (resultsV L fr.env h rs).map fun vs => (oneOrTuple vs, h)
    | _ => none
  | _ => none

/-- A deferred call of a function that begins with 'recover', which gives 'pv'. -/
noncomputable def dcallW (L : Ty) (fns : FuncId → Option Func) (r : Rec) (low : Lw) (pv : Value) (f : FuncId) (args : List Value) (h : AH) : Option (Value × AH) := match fns f with
  | some fn => match fn.body with
    | some (.seq (.region _ ops false) rest) => match ops.toList with
      | o :: tl => bif isRec o then match o.dst with
        | some t => match opsS L low ops tl ((Env.ofArgs 0 args Env.empty).set t pv) h with
          | some (e, h1) => doneV L fn.results.toList (r.code low rest ⟨e, [], none⟩ h1)
          | none => none
        | none => none
        else none
      | [] => none
    | _ => none
  | none => none

theorem recover_run {o : Oper} (ho : isRec o = true) (σ : Operand → Value) (w : World) : (execOp σ o).run P w = .ok .recover w ∧ o.guard = none := by
  obtain ⟨dst, op, ty, ps, after, guard⟩ := o
  unfold isRec at ho
  dsimp only at ho
  split at ho
  · rename_i c
    split at ho
    · rename_i hc
      refine ⟨?_, rfl⟩
      simp [execOp, resolve, hc, invoke, builtin]
    · cases ho
  · cases ho

section
variable {L : Ty} (hL : L.Ok P)
include hL

theorem opsS_sim {low : Lw} {N : Nat} {ops : Array Oper} : ∀ (rest : List Oper) (i : Nat) (e : Env) (h : AH) (e' : Env) (h' : AH), ops.toList.drop i = rest → rest.all (operOk N) = true →
    opsS L low ops rest e h = some (e', h') → low.le h.next → AKept low h h' ∧
      ∀ (F : Fence) n μ w a (cs : List Frame) (Q : Exit → Act → List Frame → World → Prop), Wd F → Rel μ h w → EnvRel μ e a.tmps → N ≤ a.tmps.size →
        (∀ μ' a' w', Step low μ μ' w w' → Rel μ' h' w' → EnvRel μ' e' a'.tmps → a'.tmps.size = a.tmps.size → a'.defers = a.defers → Q .normal a' cs w') → wpOpsSIn F n P ops Q (List.range' i rest.length) a cs w
  | [], i, e, h, e', h', _, _, he, _ => by
    simp only [opsS, Option.some.injEq, Prod.mk.injEq] at he
    obtain ⟨rfl, rfl⟩ := he
    refine ⟨.refl _ _, fun F n μ w a cs Q _ hr hen _ hQ => ?_⟩
    simpa [wpOpsSIn] using hQ μ a w (.refl _ _ _) hr hen rfl rfl
  | o :: rest, i, e, h, e', h', hd, hok, he, hlow => by
    simp only [List.all_cons, Bool.and_eq_true] at hok
    have hio : ops[i]? = some o := by
      have : (ops.toList.drop i)[0]? = some o := by rw [hd]; rfl
      simpa using this
    have hd' : ops.toList.drop (i + 1) = rest := by
      have : (ops.toList.drop i).drop 1 = rest := by rw [hd]; rfl
      simpa [List.drop_drop] using this
    have hdst : ∀ {a : Act}, N ≤ a.tmps.size → ∀ t, o.dst = some t → t < a.tmps.size := fun hN t ht => Nat.lt_of_lt_of_le (dst_lt hok.1 ht) hN
    have hopk : opOk o.op = true := by have := hok.1; unfold operOk at this; simp only [Bool.and_eq_true] at this; exact this.1
    unfold opsS at he
    cases hg : guardV ops e o with
    | true =>
      rw [hg] at he
      simp only [cond_true] at he
      split at he
      · rename_i v h1 ha
        have k1 := aop_kept ha
        obtain ⟨r1, r3⟩ := opsS_sim (N := N) rest (i + 1) _ _ _ _ hd' hok.2 he (Lw.le.mono hlow k1.next)
        refine ⟨AKept.trans k1 r1, fun F n μ w a cs Q hF hr hen hN hQ => ?_⟩
        rw [List.length_cons, List.range'_succ]
        simp only [wpOpsSIn, hio]
        rw [← guard_eq hen ops o, hg]
        simp only [if_true]
        obtain ⟨_, μ', w', c, q1, q2, q3, q4⟩ := aop_sound hL hr hlow hopk (fun x hx => eval_rel (a := a) hen x (opOk_opd hopk hx)) ha
        refine ⟨fun f _ => hF.fn f, ?_⟩
        rw [q1]
        refine r3 F n μ' w' _ cs Q hF q3 (EnvRel.put (hen.mono q2.sub) (hdst hN) q4) (by rw [put_size]; exact hN) fun μ'' a'' w'' s1 s2 s3 s4 s5 => hQ μ'' a'' w'' (q2.trans s1) s2 s3 (by rw [s4, put_size]) (by rw [s5, put_defers'])
      · rename_i h1 ha
        have k1 := aop_kept ha
        obtain ⟨r1, r3⟩ := opsS_sim (N := N) rest (i + 1) _ _ _ _ hd' hok.2 he (Lw.le.mono hlow k1.next)
        refine ⟨AKept.trans k1 r1, fun F n μ w a cs Q hF hr hen hN hQ => ?_⟩
        rw [List.length_cons, List.range'_succ]
        simp only [wpOpsSIn, hio]
        rw [← guard_eq hen ops o, hg]
        simp only [if_true]
        obtain ⟨_, μ', w', q1, q2, q3⟩ := aop_sound hL hr hlow hopk (fun x hx => eval_rel (a := a) hen x (opOk_opd hopk hx)) ha
        refine ⟨fun f _ => hF.fn f, ?_⟩
        rw [q1]
        refine r3 F n μ' w' _ cs Q hF q3 (EnvRel.put (hen.mono q2.sub) (hdst hN) .undef) (by rw [put_size]; exact hN) fun μ'' a'' w'' s1 s2 s3 s4 s5 => hQ μ'' a'' w'' (q2.trans s1) s2 s3 (by rw [s4, put_size]) (by rw [s5, put_defers'])
      · cases he
    | false =>
      rw [hg] at he
      simp only [cond_false] at he
      obtain ⟨r1, r3⟩ := opsS_sim (N := N) rest (i + 1) _ _ _ _ hd' hok.2 he hlow
      refine ⟨r1, fun F n μ w a cs Q hF hr hen hN hQ => ?_⟩
      rw [List.length_cons, List.range'_succ]
      simp only [wpOpsSIn, hio]
      rw [← guard_eq hen ops o, hg]
      simp only [Bool.false_eq_true, if_false]
      exact ⟨fun f _ => hF.fn f, r3 F n μ w _ cs Q hF hr (EnvRel.put hen (hdst hN) .undef) (by rw [put_size]; exact hN) fun μ'' a'' w'' s1 s2 s3 s4 s5 => hQ μ'' a'' w'' s1 s2 s3 (by rw [s4, put_size]) (by rw [s5, put_defers'])⟩
end

section
variable {L : Ty} (hL : L.Ok P) {r : Rec} (hsim : SimRec P r) {fns : FuncId → Option Func}
  (hfn : ∀ f fn, fns f = some fn → P.funcs[f]? = some fn ∧ (fn.name == "runtime.NumGoroutine") = false ∧ ∀ c, fn.body = some c → codeOk fn.ntmps c = true)
include hL hsim hfn

theorem done_cases {rs : List ResultVar} {o : Option Out} {v : Value} {h' : AH} (he : doneV L rs o = some (v, h')) :
    ∃ ex fr vs, o = some ⟨ex, fr, h'⟩ ∧ (ex = .normal ∨ ex = .ret) ∧ fr.defers = [] ∧ resultsV L fr.env h' rs = some vs ∧ v = oneOrTuple vs := by
  unfold doneV at he
  split at he
  · rename_i fr h1
    split at he
    · rename_i hd
      simp only [Option.map_eq_some_iff, Prod.mk.injEq] at he
      obtain ⟨vs, hv, rfl, rfl⟩ := he
      exact ⟨_, _, vs, rfl, .inl rfl, hd, hv, rfl⟩
    · cases he
  · rename_i fr h1
    split at he
    · rename_i hd
      simp only [Option.map_eq_some_iff, Prod.mk.injEq] at he
      obtain ⟨vs, hv, rfl, rfl⟩ := he
      exact ⟨_, _, vs, rfl, .inr rfl, hd, hv, rfl⟩
    · cases he
  · cases he

theorem dcallW_sim {low : Lw} {pv : Value} {f : FuncId} {args : List Value} {h h' : AH} {v : Value} (he : dcallW L fns r low pv f args h = some (v, h')) (hlow : low.le h.next) :
    Callable P f ∧ AKept low h h' ∧ ∀ (F : Fence) n μ w cs (pc : Value) (u u' : FrameMode), Wd F → Rel μ h w → VsRel μ args cs → VRel μ pv pc →
      (∀ (c0 : Frame) (rest : List Frame), c0.mode = u → (recoverD (c0 :: rest) = some (pc, { c0 with mode := u' } :: rest)) ∨ (recoverD (c0 :: rest) = none ∧ pc = .nilIface ∧ u' = u)) →
      CallsDIn F n P f ⟨cs⟩ u w fun e u1 w' => u1 = u' ∧ ∃ cv μ', e = .returned cv ∧ Step low μ μ' w w' ∧ Rel μ' h' w' := by
  unfold dcallW at he
  split at he
  case h_2 => cases he
  rename_i fn hf
  split at he
  case h_2 => cases he
  rename_i id ops rest hb
  split at he
  case h_2 => cases he
  rename_i o tl hops
  cases hir : isRec o with
  | false => rw [hir] at he; simp at he
  | true =>
  rw [hir] at he
  simp only [cond_true] at he
  split at he
  case h_2 => cases he
  rename_i t hdst
  split at he
  case h_2 => cases he
  rename_i e h1 hs
  obtain ⟨ex, fr2, vs, hc, hex, hdf, hv, rfl⟩ := done_cases hL hsim hfn he
  obtain ⟨p1, p2, p3⟩ := hfn f fn hf
  have hok := p3 _ hb
  simp only [codeOk, Bool.and_eq_true, hops, List.all_cons] at hok
  obtain ⟨⟨⟨ho0, htl⟩, _⟩, hrest⟩ := hok
  have hdrop : ops.toList.drop 1 = tl := by rw [hops]; rfl
  obtain ⟨k1, k2⟩ := opsS_sim hL (N := fn.ntmps) tl 1 _ _ _ _ hdrop htl hs hlow
  obtain ⟨a1, a2, a3⟩ := hsim.code _ _ _ _ _ hc (Lw.le.mono hlow k1.next)
  refine ⟨⟨fn, p1, p2, by rw [hb]; rfl⟩, k1.trans a1, fun F n μ w cs pc u u' hF hr hcs hpv hrec => ?_⟩
  have main : CallsDIn F.plain n P f ⟨cs⟩ u w fun e u1 w' => u1 = u' ∧ ∃ cv μ', e = .returned cv ∧ Step low μ μ' w w' ∧ Rel μ' h' w' := by
    refine callsDIn_of_wpSIn p1 hb (hF.fn _) fun c0 bs hu => wpSIn_seq (wpSIn_region ?_)
    have hsz : ops.size = tl.length + 1 := by rw [← Array.length_toList, hops]; rfl
    rw [hsz, List.range_eq_range', List.range'_succ]
    have h0 : ops[0]? = some o := by rw [← Array.getElem?_toList, hops]; rfl
    simp only [wpOpsSIn, h0]
    obtain ⟨z1, z2⟩ := recover_run (P := P) hir (Act.eval { tmps := ⟨cs⟩ ++ Array.replicate (fn.ntmps - (⟨cs⟩ : Array Value).size) undef, defers := [] }) w
    have hw : Region.wanted o (yielded ops ((⟨cs⟩ : Array Value) ++ Array.replicate (fn.ntmps - (⟨cs⟩ : Array Value).size) undef)) = true := by
      unfold Region.wanted; rw [z2]
    rw [hw]
    refine ⟨fun f _ => hF.fn f, ?_⟩
    simp only [if_true, z1]
    have hlt : t < ((⟨cs⟩ : Array Value) ++ Array.replicate (fn.ntmps - (⟨cs⟩ : Array Value).size) undef).size := by
      exact Nat.lt_of_lt_of_le (dst_lt ho0 hdst) (by simp; omega)
    have hN : fn.ntmps ≤ (({ tmps := ⟨cs⟩ ++ Array.replicate (fn.ntmps - (⟨cs⟩ : Array Value).size) undef, defers := [] } : Act).put o.dst pc).tmps.size := by
      rw [put_size]; simp; omega
    have hen : EnvRel μ ((Env.ofArgs 0 args Env.empty).set t pv) (({ tmps := ⟨cs⟩ ++ Array.replicate (fn.ntmps - (⟨cs⟩ : Array Value).size) undef, defers := [] } : Act).put o.dst pc).tmps := by
      rw [hdst]
      exact (args_env hcs _).set hlt hpv
    have cont : ∀ (c1 : Frame), c1 = { c0 with mode := u' } → wpOpsSIn F.plain n P ops (Exit.thenS (rest.wpSIn F.plain n P (bodyPostS P fn c0 bs fun e u1 w' => u1 = u' ∧ ∃ cv μ', e = .returned cv ∧ Step low μ μ' w w' ∧ Rel μ' h' w'))
        (bodyPostS P fn c0 bs fun e u1 w' => u1 = u' ∧ ∃ cv μ', e = .returned cv ∧ Step low μ μ' w w' ∧ Rel μ' h' w')) (List.range' 1 tl.length)
        (({ tmps := ⟨cs⟩ ++ Array.replicate (fn.ntmps - (⟨cs⟩ : Array Value).size) undef, defers := [] } : Act).put o.dst pc) (c1 :: bs) w := fun c1 hc1 => by
      refine k2 F.plain n μ w _ (c1 :: bs) _ hF.plain hr hen hN fun μ1 a1' w1 s1 s2 s3 s4 s5 => ?_
      show rest.wpSIn F.plain n P _ a1' (c1 :: bs) w1
      refine wpSIn_of_wpIn rfl (wpIn_mono (a3 fn.ntmps F.plain n μ1 w1 a1' hrest hF.plain .none ⟨s2, s3, ?_⟩ (by omega)) ?_)
      · rw [s5, put_defers']; exact .nil
      · rintro e a' w2 ⟨he', μ2, t1, ⟨t2, t3, t4⟩, t5⟩
        have hd' : a'.defers = [] := by
          simp only [hdf] at t4
          generalize a'.defers = x at t4
          cases t4; rfl
        obtain ⟨cv, m1, m2⟩ := oneOrTuple_run hL t2 t3 hv
        have fin : a'.defers = [] ∧ ∃ u1, (c1 :: bs) = { c0 with mode := u1 } :: bs ∧ ∃ v, (results fn a'.tmps).run P w2 = .ok v w2 ∧ (u1 = u' ∧ ∃ cv μ', Ending.returned v = .returned cv ∧ Step low μ μ' w w2 ∧ Rel μ' h' w2) :=
          ⟨hd', u', by rw [hc1], cv, m1, rfl, cv, μ2, rfl, s1.trans t1, t2⟩
        rcases hex with rfl | rfl
        · cases he'; exact fin
        · cases he'; exact fin
    rcases hrec c0 bs hu with q | ⟨q, rfl, rfl⟩
    · rw [q]; exact cont _ rfl
    · rw [q]
      refine cont c0 ?_
      cases c0; simp_all
  exact main

/-! ### a function with one deferred call that recovers -/
noncomputable def natR (L : Ty) (fns : FuncId → Option Func) (n : Nat) (r : Rec) (low : Lw) (f : FuncId) (args : List Value) (h : AH) : Option (Value × AH) := match fns f with
  | some fn => match fn.body with
    | some c => match r.code low c ⟨Env.ofArgs 0 args Env.empty, [], none⟩ h with
      | some ⟨ex, fr, h1⟩ => match ex, fr.defers with
        | .ret, [.call g ga] => match dcallW L fns r low .nilIface g ga h1 with
          | some (_, h2) => (resultsV L fr.env h2 fn.results.toList).map fun vs => (oneOrTuple vs, h2)
          | none => none
        | .normal, [.call g ga] => match dcallW L fns r low .nilIface g ga h1 with
          | some (_, h2) => (resultsV L fr.env h2 fn.results.toList).map fun vs => (oneOrTuple vs, h2)
          | none => none
        | _, _ => none
      | none => match (pRecN L fns r n).code low c ⟨Env.ofArgs 0 args Env.empty, [], none⟩ h with
        | some ⟨v, fr, h1⟩ => match fr.defers with
          | [.call g ga] => match dcallW L fns r low v g ga h1 with
            | some (_, h2) => (resultsV L fr.env h2 fn.results.toList).map fun vs => (oneOrTuple vs, h2)
            | none => none
          | _ => none
        | none => none
    | none => none
  | none => none

/-- The frame of a function behind its body, with one deferred call that recovers. -/
theorem leave_sim {low : Lw} {f : FuncId} {fn : Func} {g : FuncId} {ga : List Value} {pv : Value} {v0 : Value} {fr1 : Fr} {h1 h2 : AH} {vs : List Value} (hpf : P.funcs[f]? = some fn) (hd1 : fr1.defers = [.call g ga])
    (hg : dcallW L fns r low pv g ga h1 = some (v0, h2)) (hv : resultsV L fr1.env h2 fn.results.toList = some vs) (hlow : low.le h1.next) :
    AKept low h1 h2 ∧ ∀ (F : Fence) (n : Nat) μ w (a' : Act) (fr : Frame) (bs : List Frame) (pc : Value) (u u' : FrameMode), Wd F → St μ fr1 h1 a' w → VRel μ pv pc → fr.mode = u → u ≠ .run → settle u' = .returning →
      (∀ (c0 : Frame) (rest : List Frame), c0.mode = u → (recoverD (c0 :: rest) = some (pc, { c0 with mode := u' } :: rest)) ∨ (recoverD (c0 :: rest) = none ∧ pc = .nilIface ∧ u' = u)) →
      fr.defers = a'.defers → fr.tmps = a'.tmps → fr.fn = f →
      ∃ cv w' fr' μ', Step low μ μ' w w' ∧ Rel μ' h2 w' ∧ VRel μ' (oneOrTuple vs) cv ∧ StepsIn (Machine.fenced P F) P (lone fr bs w) (lone fr' bs w') ∧ fr'.mode = .returning ∧ fr'.defers = [] ∧ fr'.kind = fr.kind ∧ fr'.fn = f ∧ (results fn fr'.tmps).run P w' = .ok cv w' := by
  obtain ⟨k1, k2, k3⟩ := dcallW_sim hL hsim hfn hg hlow
  refine ⟨k2, fun F n μ w a' fr bs pc u u' hF hst hpv hm hu hset hrec hfd hft hff => ?_⟩
  have hds := hst.defs
  rw [hd1] at hds
  generalize hX : a'.defers = X at hds
  cases hds with | cons hx hxs =>
  rename_i dd dds
  cases hxs
  cases hx with | call ht ha =>
  rename_i cap
  have hdf : fr.defers = [dd] := by rw [hfd, hX]
  have e : dd.args ++ cap = ⟨dd.args.toList ++ cap.toList⟩ := by apply Array.ext'; simp
  have hinv : (invoke dd.target dd.args).run P w = .ok (.enter g ⟨dd.args.toList ++ cap.toList⟩) w := by
    rw [ht]; simp [invoke, e, callFunc_run k1]
  have s1 := step_defer (P := P) (cs := bs) (w := w) (fr := fr) (by rw [hm]; exact hu) hdf ht hinv
  have i1 : (lone fr bs w).fenced P F := fenced_out (n := n) (hF.fn _) (hF.room _) (by rw [hm]; exact hu) hdf (fun g _ => hF.fn g)
  obtain ⟨e', u1, w', frX, ⟨rfl, cv0, μ1, rfl, q1, q2⟩, hsteps, hkX, hfX, hgo⟩ := (k3 F n μ w _ pc u u' hF hst.rel ha hpv hrec).2 { fr with defers := [] } bs hm (hF.room _)
  have i2 : (lone frX ({ { fr with defers := [] } with mode := u1 } :: bs) w').fenced P F := fenced_going (n := n) (hF.fn _) (hF.room _) hgo
  have s2 := step_going_returned (c := { { fr with defers := [] } with mode := u1 }) (cs := bs) hkX hgo
  obtain ⟨cv, m1, m2⟩ := oneOrTuple_run hL q2 (hst.env.mono q1.sub) hv
  refine ⟨cv, w', { { { fr with defers := [] } with mode := u1 } with mode := settle u1 }, μ1, q1, q2, m2, .head i1 s1 (StepsIn.trans hsteps (.one i2 s2)), hset, rfl, rfl, hff, ?_⟩
  show (results fn fr.tmps).run P w' = _
  rw [hft]; exact m1

theorem natR_sim {n0 : Nat} {low : Lw} {f : FuncId} {args : List Value} {h h' : AH} {v : Value} (he : natR L fns n0 r low f args h = some (v, h')) (hlow : low.le h.next) :
    Callable P f ∧ AKept low h h' ∧
    ∀ F n μ w cs, Wd F → Rel μ h w → VsRel μ args cs → CallsIn F n P f ⟨cs⟩ w (KPost low μ w v h') ∧ CallsDIn F n P f ⟨cs⟩ .returning w (fun e u w' => u = .returning ∧ KPost low μ w v h' e w') := by
  unfold natR at he
  split at he
  case h_2 => cases he
  rename_i fn hf
  split at he
  case h_2 => cases he
  rename_i c hb
  obtain ⟨p1, p2, p3⟩ := hfn f fn hf
  -- both ways: the frame behind the body
  have key : ∃ (fr1 : Fr) (h1 h2 : AH) (g : FuncId) (ga : List Value) (pv v0 : Value) (vs : List Value), AKept low h h1 ∧ fr1.defers = [.call g ga] ∧ dcallW L fns r low pv g ga h1 = some (v0, h2) ∧ resultsV L fr1.env h2 fn.results.toList = some vs ∧
      v = oneOrTuple vs ∧ h' = h2 ∧ ∀ (F : Fence) (n : Nat) μ w cs, Wd F → Rel μ h w → VsRel μ args cs → ∀ (kind : CallKind) (bs : List Frame), ∃ pc u u' w' fr' a' μ', Step low μ μ' w w' ∧ St μ' fr1 h1 a' w' ∧ VRel μ' pv pc ∧
      StepsIn (Machine.fenced P F) P (lone (Frame.enter P f ⟨cs⟩ kind) bs w) (lone fr' bs w') ∧ fr'.mode = u ∧ u ≠ .run ∧ settle u' = .returning ∧
      (∀ (c0 : Frame) (rest : List Frame), c0.mode = u → (recoverD (c0 :: rest) = some (pc, { c0 with mode := u' } :: rest)) ∨ (recoverD (c0 :: rest) = none ∧ pc = .nilIface ∧ u' = u)) ∧
      fr'.defers = a'.defers ∧ fr'.tmps = a'.tmps ∧ fr'.kind = kind ∧ fr'.fn = f := by
    split at he
    · rename_i ex fr1 h1 hc
      obtain ⟨a1, a2, a3⟩ := hsim.code _ _ _ _ _ hc hlow
      obtain ⟨hex, g, ga, hd, v0, h2, hg, vs, hv, hvv, hh⟩ : (ex = .normal ∨ ex = .ret) ∧ ∃ g ga, fr1.defers = [.call g ga] ∧ ∃ v0 h2, dcallW L fns r low .nilIface g ga h1 = some (v0, h2) ∧ ∃ vs, resultsV L fr1.env h2 fn.results.toList = some vs ∧ v = oneOrTuple vs ∧ h' = h2 := by
        split at he
        · rename_i g ga hd
          split at he
          case h_2 => cases he
          rename_i v0 h2 hg
          simp only [Option.map_eq_some_iff, Prod.mk.injEq] at he
          obtain ⟨vs, hv, rfl, rfl⟩ := he
          exact ⟨.inr rfl, g, ga, hd, v0, h2, hg, vs, hv, rfl, rfl⟩
        · rename_i g ga hd
          split at he
          case h_2 => cases he
          rename_i v0 h2 hg
          simp only [Option.map_eq_some_iff, Prod.mk.injEq] at he
          obtain ⟨vs, hv, rfl, rfl⟩ := he
          exact ⟨.inl rfl, g, ga, hd, v0, h2, hg, vs, hv, rfl, rfl⟩
        · cases he
      refine ⟨fr1, h1, h2, g, ga, .nilIface, v0, vs, a1, hd, hg, hv, hvv, hh, fun F n μ w cs hF hr hcs kind bs => ?_⟩
      let b : Frame := { (default : Frame) with fn := f, kind := kind, roundOf := none }
      have henter : Frame.enter P f ⟨cs⟩ kind = b.atR { tmps := ⟨cs⟩ ++ Array.replicate (fn.ntmps - (⟨cs⟩ : Array Value).size) undef, defers := [] } [.code c] := by
        simp [Frame.enter, Frame.atR, p1, hb, b]
      have hst : St μ ⟨Env.ofArgs 0 args Env.empty, [], none⟩ h { tmps := ⟨cs⟩ ++ Array.replicate (fn.ntmps - (⟨cs⟩ : Array Value).size) undef, defers := [] } w :=
        ⟨hr, args_env hcs _, .nil⟩
      obtain ⟨e, a', w1, ⟨he', μ1, q1, q2, q5⟩, harr⟩ := a3 fn.ntmps F.plain n μ w _ (p3 c hb) hF.plain .none hst (by simp; omega) b [] bs rfl (hF.fn _) (hF.room _)
      rw [← henter] at harr
      rw [fenced_plain] at harr
      obtain ⟨todo, hs⟩ : ∃ todo, StepsIn (Machine.fenced P F) P (lone (Frame.enter P f ⟨cs⟩ kind) bs w) (lone { b.atR a' todo with mode := .returning } bs w1) := by
        rcases hex with rfl | rfl
        · cases he'
          exact ⟨[], StepsIn.trans harr (.one (fenced_calm (n := n) (fr := b.atR a' []) (hF.fn _) (hF.room _) rfl) (stepR_end rfl))⟩
        · cases he'
          exact harr.1 rfl
      refine ⟨.nilIface, .returning, .returning, w1, _, a', μ1, q1, q2, .nilIface, hs, rfl, by simp, rfl, fun c0 rest h0 => .inr ⟨?_, rfl, rfl⟩, rfl, rfl, rfl, rfl⟩
      simp [recoverD, h0]
    · rename_i hc
      split at he
      case h_2 => cases he
      rename_i pv fr1 h1 hc'
      split at he
      case h_2 => cases he
      rename_i g ga hd
      split at he
      case h_2 => cases he
      rename_i v0 h2 hg
      simp only [Option.map_eq_some_iff, Prod.mk.injEq] at he
      obtain ⟨vs, hv, rfl, rfl⟩ := he
      obtain ⟨k1, k2, k3⟩ := penter_sim hL hsim hfn (pRecN_sim hL hsim hfn n0) hf hb hc' hlow
      refine ⟨fr1, h1, h2, g, ga, pv, v0, vs, k2, hd, hg, hv, rfl, rfl, fun F n μ w cs hF hr hcs kind bs => ?_⟩
      obtain ⟨cv, w', fr', a', μ', s1, s2, s3, s4, s5, s6, s7, s8, s9, _⟩ := k3 F n μ w cs hF hr hcs kind bs
      refine ⟨cv, .panicking [{ v := cv, recovered := false }], .panicking [{ v := cv, recovered := true }], w', fr', a', μ', s1, s2, s3, s4, s5, by simp, by simp [settle], fun c0 rest h0 => .inl ?_, s6, s7, s8, s9⟩
      simp [recoverD, h0]
  obtain ⟨fr1, h1, h2, g, ga, pv, v0, vs, kk, hd, hg, hv, rfl, rfl, hrun⟩ := key
  obtain ⟨l1, l2⟩ := leave_sim hL hsim hfn (f := f) p1 hd hg hv (Lw.le.mono hlow kk.next)
  have all : ∀ (F : Fence) (n : Nat) μ w cs, Wd F → Rel μ h w → VsRel μ args cs → ∀ (kind : CallKind) (bs : List Frame), ∃ cv w' fr' μ', Step low μ μ' w w' ∧ Rel μ' h' w' ∧ VRel μ' (oneOrTuple vs) cv ∧
      StepsIn (Machine.fenced P F) P (lone (Frame.enter P f ⟨cs⟩ kind) bs w) (lone fr' bs w') ∧ fr'.mode = .returning ∧ fr'.defers = [] ∧ fr'.kind = kind ∧ fr'.fn = f ∧ (results fn fr'.tmps).run P w' = .ok cv w' := fun F n μ w cs hF hr hcs kind bs => by
    obtain ⟨pc, u, u', w1, fr', a', μ1, s1, s2, s3, s4, s5, s6, s7, s8, s9, s10, s11, s12⟩ := hrun F n μ w cs hF hr hcs kind bs
    obtain ⟨cv, w2, fr2, μ2, t1, t2, t3, t4, t5, t6, t7, t8, t9⟩ := l2 F n μ1 w1 a' fr' bs pc u u' hF s2 s3 s5 s6 s7 s8 s9 s10 s12
    exact ⟨cv, w2, fr2, μ2, s1.trans t1, t2, t3, StepsIn.trans s4 t4, t5, t6, t7.trans s11, t8, t9⟩
  refine ⟨⟨fn, p1, p2, by rw [hb]; rfl⟩, kk.trans l1, fun F n μ w cs hF hr hcs => ⟨⟨hF.fn _, fun bs _ => ?_⟩, ⟨hF.fn _, fun c0 bs hu _ => ?_⟩⟩⟩
  · obtain ⟨cv, w', fr', μ', s1, s2, s3, s4, s5, s6, s7, s8, s10⟩ := all F n μ w cs hF hr hcs .normal bs
    exact ⟨.returned cv, w', fr', ⟨cv, μ', rfl, s1, s2, s3⟩, s4, s8, s5, s6, s7, fn, s8 ▸ p1, s10⟩
  · obtain ⟨cv, w', fr', μ', s1, s2, s3, s4, s5, s6, s7, s8, s10⟩ := all F n μ w cs hF hr hcs .deferred (c0 :: bs)
    have hc0 : ({ c0 with mode := .returning } : Frame) = c0 := by cases c0; simp_all
    exact ⟨.returned cv, .returning, w', fr', ⟨rfl, cv, μ', rfl, s1, s2, s3⟩, by rw [hc0]; exact s4, s7, s8, s5, s6, fn, s8 ▸ p1, s10⟩

end
end Go.AM
#print axioms Go.AM.natR_sim

namespace Go.AM
variable {P : Program}

noncomputable def opPF (L : Ty) (q : PRec) (low : Lw) (env : Tr Value) (ds : List ADef) (ro : Option Nat) (tr : Tr AObj) (next : Nat) (o : Oper) : Option POut :=
  Option.rec (motive := fun _ => Option POut) none (fun x => Prod.rec (motive := fun _ => Option POut) (fun v h => fV v fun v => some ⟨v, ⟨⟨env⟩, ds, ro⟩, h⟩) x) (opP L q low ⟨⟨env⟩, ds, ro⟩ ⟨next, tr⟩ o)

noncomputable def opsPF (L : Ty) (r : Rec) (q : PRec) (low : Lw) (ro : Option Nat) (l : List FOper) : Tr Value → List ADef → Tr AObj → Nat → Option POut :=
  List.rec (motive := fun _ => Tr Value → List ADef → Tr AObj → Nat → Option POut) (fun _ _ _ _ => none)
    (fun o _ ih env ds tr next => FOper.rec (motive := fun _ => Option POut) (fun dst g op src _ =>
      guardK env g (exK L r low ds ro env tr next src (fun v tr next ds' => dstK env dst v fun env => dsK ds' ds fun ds => ih env ds tr next) (opPF L q low env ds ro tr next src) op)
        (dstK env dst undef fun env => ih env ds tr next)) o) l

theorem opsPF_eq (L : Ty) (r : Rec) (q : PRec) (low : Lw) (ro : Option Nat) (ops : Array Oper) : ∀ (l : List Oper) (env : Tr Value) (ds : List ADef) (tr : Tr AObj) (next : Nat),
    opsPF L r q low ro (l.map (compOper L ops)) env ds tr next = opsP L r q low ops l ⟨⟨env⟩, ds, ro⟩ ⟨next, tr⟩
  | [], env, ds, tr, next => rfl
  | o :: l, env, ds, tr, next => by
    show guardK env (guOf ops o) (exK L r low ds ro env tr next o _ (opPF L q low env ds ro tr next o) (compO L o.op)) (dstK env (o.dst.map pth) undef fun env => opsPF L r q low ro (l.map (compOper L ops)) env ds tr next) = _
    rw [guardK_eq, exK_eq, dstK_eq, opsPF_eq L r q low ro ops l]
    conv => rhs; unfold opsP
    dsimp only
    cases guardV ops ⟨env⟩ o with
    | false => rfl
    | true =>
      simp only [cond_true]
      unfold resK
      cases opV L r low ⟨⟨env⟩, ds, ro⟩ ⟨next, tr⟩ o with
      | none =>
        dsimp only
        unfold opPF
        cases opP L q low ⟨⟨env⟩, ds, ro⟩ ⟨next, tr⟩ o with
        | none => rfl
        | some x => exact fV_eq _ _
      | some x =>
        obtain ⟨v, h, ds'⟩ := x
        dsimp only
        rw [dstK_eq, dsK_eq]
        exact opsPF_eq L r q low ro ops l _ _ _ _

noncomputable def pcodeF (L : Ty) (r : Rec) (q : PRec) (low : Lw) (c : Code) (fr : Fr) (h : AH) : Option POut := match c with
  | .region _ ops false => frK fr h fun env ds ro next tr => opsPF L r q low ro (compL L ops) env ds tr next
  | c => pcodeV L r q low c fr h
theorem pcodeF_eq (L : Ty) (r : Rec) (q : PRec) (low : Lw) (c : Code) (fr : Fr) (h : AH) : pcodeF L r q low c fr h = pcodeV L r q low c fr h := by
  unfold pcodeF
  split
  · exact opsPF_eq L r q low _ _ _ _ _ _ _
  · rfl

noncomputable def pcallF (fns : FuncId → Option Func) (q : PRec) (low : Lw) (f : FuncId) (args : List Value) (h : AH) : Option (Value × AH) := match fns f with
  | some fn => match fn.body with
    | some c => argsK args 0 .leaf fun env => match q.code low c ⟨⟨env⟩, [], none⟩ h with
      | some ⟨v, fr, h⟩ => match fr.defers with
        | [] => some (v, h)
        | _ => none
      | none => none
    | none => none
  | none => none
theorem pcallF_eq (fns : FuncId → Option Func) (q : PRec) (low : Lw) (f : FuncId) (args : List Value) (h : AH) : pcallF fns q low f args h = pcallV fns q low f args h := by
  unfold pcallF pcallV
  cases fns f with
  | none => rfl
  | some fn =>
    dsimp only
    cases fn.body with
    | none => rfl
    | some c => dsimp only; rw [argsK_eq]; rfl

noncomputable def pRecF (L : Ty) (fns : FuncId → Option Func) (r : Rec) (n : Nat) : PRec :=
  Nat.rec (motive := fun _ => PRec) ⟨fun _ _ _ _ => none, fun _ _ _ _ _ => none, fun _ _ _ _ => none⟩ (fun _ q => ⟨pcodeF L r q, pwithinV r q, pcallF fns q⟩) n
theorem pRecF_eq (L : Ty) (fns : FuncId → Option Func) (r : Rec) : ∀ n, pRecF L fns r n = pRecN L fns r n
  | 0 => rfl
  | n + 1 => by
    show (⟨pcodeF L r (pRecF L fns r n), pwithinV r (pRecF L fns r n), pcallF fns (pRecF L fns r n)⟩ : PRec) = ⟨pcodeV L r (pRecN L fns r n), pwithinV r (pRecN L fns r n), pcallV fns (pRecN L fns r n)⟩
    rw [pRecF_eq L fns r n]
    congr 1
    · funext low c fr h; exact pcodeF_eq _ _ _ _ _ _ _
    · funext low f args h; exact pcallF_eq _ _ _ _ _ _

theorem yieldV_none (low : Lw) (l : Nat) (args : List Value) (h : AH) : yieldV Rec.none low l args h = none := by
  unfold yieldV
  cases h.get l with
  | none => rfl
  | some o =>
    cases o with
    | cells cs m ro => rfl
    | oth x => rfl
    | loop y =>
      dsimp only
      cases y.state with
      | ready => dsimp only; cases (low.ok l && Nat.beq args.length y.params.size) <;> rfl
      | _ => rfl

noncomputable def opsSF (L : Ty) (low : Lw) (l : List FOper) : Tr Value → Tr AObj → Nat → (Tr Value → Tr AObj → Nat → Option (Value × AH)) → Option (Value × AH) :=
  List.rec (motive := fun _ => Tr Value → Tr AObj → Nat → (Tr Value → Tr AObj → Nat → Option (Value × AH)) → Option (Value × AH)) (fun env tr next k => k env tr next)
    (fun o _ ih env tr next k => FOper.rec (motive := fun _ => Option (Value × AH)) (fun dst g op src _ =>
      guardK env g (exK L Rec.none low [] none env tr next src (fun v tr next ds' => nilDs ds' (dstK env dst v fun env => ih env tr next k) none) none op)
        (dstK env dst undef fun env => ih env tr next k)) o) l
theorem opsSF_eq (L : Ty) (low : Lw) (ops : Array Oper) : ∀ (l : List Oper) (env : Tr Value) (tr : Tr AObj) (next : Nat) (k : Tr Value → Tr AObj → Nat → Option (Value × AH)),
    opsSF L low (l.map (compOper L ops)) env tr next k = match opsS L low ops l ⟨env⟩ ⟨next, tr⟩ with
      | some (e, h) => k e.tr h.tr h.next
      | none => none
  | [], env, tr, next, k => rfl
  | o :: l, env, tr, next, k => by
    show guardK env (guOf ops o) (exK L Rec.none low [] none env tr next o _ none (compO L o.op)) (dstK env (o.dst.map pth) undef fun env => opsSF L low (l.map (compOper L ops)) env tr next k) = _
    rw [guardK_eq, exK_eq, dstK_eq, opsSF_eq L low ops l]
    conv => rhs; unfold opsS
    dsimp only
    cases guardV ops ⟨env⟩ o with
    | false => rfl
    | true =>
      simp only [cond_true]
      unfold resK opV
      dsimp only
      cases aop L low (Env.mk env).eval ⟨next, tr⟩ o.op with
      | none => rfl
      | some x =>
        cases x with
        | val v h =>
          show dstK env (o.dst.map pth) v (fun env => opsSF L low (l.map (compOper L ops)) env h.tr h.next k) = _
          rw [dstK_eq]
          exact opsSF_eq L low ops l _ _ _ _
        | skip h =>
          show dstK env (o.dst.map pth) undef (fun env => opsSF L low (l.map (compOper L ops)) env h.tr h.next k) = _
          rw [dstK_eq]
          exact opsSF_eq L low ops l _ _ _ _
        | call f args => rfl
        | yield ll args => dsimp only; rw [yieldV_none]
        | defer f args => rfl

noncomputable def doneF (L : Ty) (rs : List ResultVar) (o : Option Out) : Option (Value × AH) :=
  Option.rec (motive := fun _ => Option (Value × AH)) none (fun o => Out.rec (motive := fun _ => Option (Value × AH)) (fun e fr h =>
    AExit.rec (motive := fun _ => Option (Value × AH)) (nilDs fr.defers (resultsK L fr.env.tr h none rs fun vs => some (oneOrTuple vs, h)) none) (fun _ => none) (fun _ => none) (nilDs fr.defers (resultsK L fr.env.tr h none rs fun vs => some (oneOrTuple vs, h)) none) e) o) o
theorem res_map (L : Ty) (env : Env) (h : AH) (rs : List ResultVar) : (resultsK L env.tr h none rs fun vs => some (oneOrTuple vs, h)) = (resultsV L env h rs).map fun vs => (oneOrTuple vs, h) := by
  rw [resultsK_eq]
  show (resultsV L env h rs).elim none _ = _
  cases resultsV L env h rs <;> rfl
theorem doneF_eq (L : Ty) (rs : List ResultVar) (o : Option Out) : doneF L rs o = doneV L rs o := by
  unfold doneF doneV
  cases o with
  | none => rfl
  | some o =>
    obtain ⟨e, fr, h⟩ := o
    cases e with
    | normal => dsimp only; rw [res_map]; cases fr.defers <;> rfl
    | ret => dsimp only; rw [res_map]; cases fr.defers <;> rfl
    | exit i => rfl
    | goto i => rfl

noncomputable def dcallF (L : Ty) (fns : FuncId → Option Func) (r : Rec) (low : Lw) (pv : Value) (f : FuncId) (args : List Value) (h : AH) : Option (Value × AH) := match fns f with
  | some fn => match fn.body with
    | some (.seq (.region _ ops false) rest) => match ops.toList with
      | o :: tl => bif isRec o then match o.dst with
        | some t => argsK args 0 .leaf fun env => sP (pth t) env pv fun env => AH.rec (motive := fun _ => Option (Value × AH)) (fun next tr => opsSF L low (tl.map (compOper L ops)) env tr next fun env tr next => doneF L fn.results.toList (r.code low rest ⟨⟨env⟩, [], none⟩ ⟨next, tr⟩)) h
        | none => none
        else none
      | [] => none
    | _ => none
  | none => none
theorem dcallF_eq (L : Ty) (fns : FuncId → Option Func) (r : Rec) (low : Lw) (pv : Value) (f : FuncId) (args : List Value) (h : AH) : dcallF L fns r low pv f args h = dcallW L fns r low pv f args h := by
  unfold dcallF dcallW
  cases fns f with
  | none => rfl
  | some fn =>
    dsimp only
    cases fn.body with
    | none => rfl
    | some c =>
      cases c <;> try rfl
      rename_i a rest
      cases a <;> try rfl
      rename_i id ops d
      cases d <;> try rfl
      dsimp only
      cases ops.toList with
      | nil => rfl
      | cons o tl =>
        dsimp only
        cases isRec o with
        | false => rfl
        | true =>
          simp only [cond_true]
          cases o.dst with
          | none => rfl
          | some t =>
            dsimp only
            obtain ⟨next, tr⟩ := h
            rw [argsK_eq, show pth t = pthF t t from rfl, sP_eq _ t t _ _ (Nat.le_refl _)]
            show opsSF L low (tl.map (compOper L ops)) (((Env.ofArgs 0 args Env.empty).tr).set t pv) tr next _ = _
            rw [opsSF_eq]
            show (match opsS L low ops tl ((Env.ofArgs 0 args Env.empty).set t pv) ⟨next, tr⟩ with | some (e, h) => doneF L fn.results.toList (r.code low rest ⟨⟨e.tr⟩, [], none⟩ ⟨h.next, h.tr⟩) | none => none) = _
            cases opsS L low ops tl ((Env.ofArgs 0 args Env.empty).set t pv) ⟨next, tr⟩ with
            | none => rfl
            | some x => exact doneF_eq _ _ _

noncomputable def lastF (L : Ty) (fns : FuncId → Option Func) (r : Rec) (low : Lw) (rs : List ResultVar) (pv : Value) (fr : Fr) (h1 : AH) : Option (Value × AH) := match fr.defers with
  | [.call g ga] => Option.rec (motive := fun _ => Option (Value × AH)) none (fun x => Prod.rec (motive := fun _ => Option (Value × AH)) (fun _ h2 => resultsK L fr.env.tr h2 none rs fun vs => some (oneOrTuple vs, h2)) x) (dcallF L fns r low pv g ga h1)
  | _ => none

noncomputable def natRF (L : Ty) (fns : FuncId → Option Func) (n : Nat) (r : Rec) (low : Lw) (f : FuncId) (args : List Value) (h : AH) : Option (Value × AH) := match fns f with
  | some fn => match fn.body with
    | some c => argsK args 0 .leaf fun env => match r.code low c ⟨⟨env⟩, [], none⟩ h with
      | some ⟨ex, fr, h1⟩ => match ex with
        | .ret => lastF L fns r low fn.results.toList .nilIface fr h1
        | .normal => lastF L fns r low fn.results.toList .nilIface fr h1
        | _ => none
      | none => match (pRecF L fns r n).code low c ⟨⟨env⟩, [], none⟩ h with
        | some ⟨v, fr, h1⟩ => lastF L fns r low fn.results.toList v fr h1
        | none => none
    | none => none
  | none => none

theorem lastF_eq (L : Ty) (fns : FuncId → Option Func) (r : Rec) (low : Lw) (rs : List ResultVar) (pv : Value) (fr : Fr) (h1 : AH) : lastF L fns r low rs pv fr h1 = match fr.defers with
    | [.call g ga] => match dcallW L fns r low pv g ga h1 with
      | some (_, h2) => (resultsV L fr.env h2 rs).map fun vs => (oneOrTuple vs, h2)
      | none => none
    | _ => none := by
  unfold lastF
  split
  · rw [dcallF_eq]
    rename_i g ga hd
    cases dcallW L fns r low pv g ga h1 with
    | none => rfl
    | some x => exact res_map _ _ _ _
  · rfl

theorem natRF_eq (L : Ty) (fns : FuncId → Option Func) (n : Nat) (r : Rec) (low : Lw) (f : FuncId) (args : List Value) (h : AH) : natRF L fns n r low f args h = natR L fns n r low f args h := by
  unfold natRF natR
  cases fns f with
  | none => rfl
  | some fn =>
    dsimp only
    cases fn.body with
    | none => rfl
    | some c =>
      dsimp only
      rw [argsK_eq]
      show (match r.code low c ⟨Env.ofArgs 0 args Env.empty, [], none⟩ h with
        | some ⟨ex, fr, h1⟩ => (match ex with
          | .ret => lastF L fns r low fn.results.toList .nilIface fr h1
          | .normal => lastF L fns r low fn.results.toList .nilIface fr h1
          | _ => none)
        | none => match (pRecF L fns r n).code low c ⟨Env.ofArgs 0 args Env.empty, [], none⟩ h with
          | some ⟨v, fr, h1⟩ => lastF L fns r low fn.results.toList v fr h1
          | none => none) = _
      cases r.code low c ⟨Env.ofArgs 0 args Env.empty, [], none⟩ h with
      | some o =>
        obtain ⟨ex, fr, h1⟩ := o
        dsimp only
        cases ex with
        | normal => dsimp only; rw [lastF_eq]; split <;> first | (simp_all; done) | (simp_all; rfl)
        | ret => dsimp only; rw [lastF_eq]; split <;> first | (simp_all; done) | (simp_all; rfl)
        | exit i => rfl
        | goto i => rfl
      | none =>
        dsimp only
        rw [pRecF_eq]
        cases (pRecN L fns r n).code low c ⟨Env.ofArgs 0 args Env.empty, [], none⟩ h with
        | none => rfl
        | some o => dsimp only; rw [lastF_eq] <;> rfl

/-! ### the machine of a given program, with functions that recover -/
noncomputable def natOf (P : Program) (ok : TypeId → Bool) (fns : FuncId → Option Func) (l : FuncId → Bool) (f : FuncId) : Option (Rec → (low : Lw) → List Value → AH → Option (Value × AH)) :=
  bif l f then some fun r low args h => natRF (tyOf (typesTr P) (plainOf (typesTr P) ok)) fns 200 r low f args h else none

/-- 'okf': the functions whose code has been looked at. -/
noncomputable def prR (P : Program) (ok : TypeId → Bool) (okf : FuncId → Bool) (l : FuncId → Bool) : Pr :=
  ⟨tyOf (typesTr P) (plainOf (typesTr P) ok), fun f => bif okf f then (funcsTr P).get f else none, natOf P ok (fun f => bif okf f then (funcsTr P).get f else none) l⟩

theorem prR_ok {ok : TypeId → Bool} {okf l : FuncId → Bool} (hok : ∀ t, ok t = true → P.stoodInHeld t = false) (hm : P.follows .mixedOrders = true)
    (hf : ∀ f fn, okf f = true → P.funcs[f]? = some fn → okFn fn = true) : (prR P ok okf l).Ok P := by
  have hty := tyOf_ok (P := P) (plain := plainOf (typesTr P) ok) fun h => plainOf_ok hok h
  have hfn : ∀ f fn, (bif okf f then (funcsTr P).get f else none) = some fn → P.funcs[f]? = some fn ∧ (fn.name == "runtime.NumGoroutine") = false ∧ ∀ c, fn.body = some c → codeOk fn.ntmps c = true := fun f fn h => by
    cases ho : okf f with
    | false => rw [ho] at h; simp at h
    | true =>
      rw [ho] at h; simp only [cond_true] at h
      have h1 := funcsTr_get h
      have h2 := hf f fn ho h1
      simp only [okFn, Bool.and_eq_true, Bool.not_eq_true'] at h2
      refine ⟨h1, h2.1, fun c hc => ?_⟩
      have := h2.2
      rw [hc] at this; exact this
  refine ⟨hty, hfn, hm, fun f g hg r hr low args h v h' he hlow => ?_⟩
  simp only [prR, natOf] at hg
  cases hl : l f with
  | false => rw [hl] at hg; simp at hg
  | true =>
    rw [hl] at hg
    simp only [cond_true, Option.some.injEq] at hg
    subst hg
    dsimp only at he
    rw [natRF_eq] at he
    exact natR_sim hty hr hfn he hlow

end Go.AM

namespace Go.AM

section op
variable {R : Type}

noncomputable def evC_t (p : Pth) (env : Tr Value) (k : Value → R) : R := gP (k undef) p env k
noncomputable def evC_c (v : Value) (_ : Tr Value) (k : Value → R) : R := k v
noncomputable def evC (x : FO) (env : Tr Value) (k : Value → R) : R := FO.rec (motive := fun _ => Tr Value → (Value → R) → R) evC_t evC_c x env k
theorem evC_eq (x : FO) (env : Tr Value) (k : Value → R) : evC x env k = ev env x k := by cases x <;> rfl

noncomputable def boolC_f (_ b _ : R) : R := b
noncomputable def boolC_t (a _ _ : R) : R := a
noncomputable def boolC_y (b : Bool) (x y d : R) : R := Bool.rec (motive := fun _ => R → R → R → R) boolC_f boolC_t b x y d
noncomputable def boolC_d (_ _ d : R) : R := d
noncomputable def boolC (v : Value) (a b d : R) : R := Value.casesOn (motive_1 := fun _ => R → R → R → R) v boolC_y (fun _ _ => boolC_d) (fun _ _ => boolC_d) (fun _ _ _ => boolC_d) (fun _ => boolC_d) (fun _ => boolC_d) (fun _ _ _ => boolC_d) (fun _ => boolC_d) (fun _ => boolC_d) (fun _ _ _ => boolC_d) boolC_d (fun _ _ => boolC_d) boolC_d (fun _ => boolC_d) (fun _ => boolC_d) a b d
theorem boolC_eq (v : Value) (a b d : R) : boolC v a b d = boolK v a b d := by
  cases v <;> try rfl
  rename_i b'
  cases b' <;> rfl

abbrev TX (R : Type) := Ty → Rec → Lw → List ADef → Option Nat → Tr Value → Tr AObj → Nat → Oper → KO R → R → R
noncomputable def k0 (tr : Tr AObj) (next : Nat) (k : KO R) (v : Value) : R := k v tr next []
noncomputable def kp (tr : Tr AObj) (next : Nat) (k : KO R) (a : Addr) : R := k (.pointer (some a)) tr next []
noncomputable def ka (tr : Tr AObj) (next : Nat) (k : KO R) (l : List Value) : R := k (.agg ⟨l⟩) tr next []

noncomputable def c_move (x : FO) (_ : Ty) (_ : Rec) (_ : Lw) (_ : List ADef) (_ : Option Nat) (env : Tr Value) (tr : Tr AObj) (next : Nat) (_ : Oper) (k : KO R) (_ : R) : R := evC x env (k0 tr next k)
noncomputable def c_pick1 (env : Tr Value) (tr : Tr AObj) (next : Nat) (k : KO R) (d : R) (a b : FO) (v : Value) : R := boolC v (evC a env (k0 tr next k)) (evC b env (k0 tr next k)) d
noncomputable def c_pick (c a b : FO) (_ : Ty) (_ : Rec) (_ : Lw) (_ : List ADef) (_ : Option Nat) (env : Tr Value) (tr : Tr AObj) (next : Nat) (_ : Oper) (k : KO R) (d : R) : R := evC c env (c_pick1 env tr next k d a b)
noncomputable def c_l1b (tr : Tr AObj) (next : Nat) (k : KO R) (d : R) (a : Addr) : R := load1K tr next a (k0 tr next k) d
noncomputable def c_l1a (tr : Tr AObj) (next : Nat) (k : KO R) (d : R) (p : Value) : R := ptrK p (c_l1b tr next k d) d
noncomputable def c_load1 (x : FO) (_ : Ty) (_ : Rec) (_ : Lw) (_ : List ADef) (_ : Option Nat) (env : Tr Value) (tr : Tr AObj) (next : Nat) (_ : Oper) (k : KO R) (d : R) : R := evC x env (c_l1a tr next k d)
noncomputable def c_lnb (n : Nat) (tr : Tr AObj) (next : Nat) (k : KO R) (d : R) (a : Addr) : R := loadNK tr next a n (ka tr next k) d
noncomputable def c_lna (n : Nat) (tr : Tr AObj) (next : Nat) (k : KO R) (d : R) (p : Value) : R := ptrK p (c_lnb n tr next k d) d
noncomputable def c_loadN (n : Nat) (x : FO) (_ : Ty) (_ : Rec) (_ : Lw) (_ : List ADef) (_ : Option Nat) (env : Tr Value) (tr : Tr AObj) (next : Nat) (_ : Oper) (k : KO R) (d : R) : R := evC x env (c_lna n tr next k d)

/-! store -/
abbrev TSt (R : Type) := Lw → Tr AObj → Nat → Nat → Addr → Value → (Tr AObj → R) → R → R
noncomputable def sC_o (low : Lw) (tr : Tr AObj) (next : Nat) (n : Nat) (a : Addr) (v : Value) (k : Tr AObj → R) (d : R) : R := iteN (Nat.beq 1 n) (wr1K low tr next a v k d) d
noncomputable def sC_a (_ : Array Value) (low : Lw) (tr : Tr AObj) (next : Nat) (n : Nat) (a : Addr) (v : Value) (k : Tr AObj → R) (d : R) : R := storeK low tr next n a v k d
noncomputable def sC_t (_ : Array Value) (_ : Lw) (_ : Tr AObj) (_ : Nat) (_ : Nat) (_ : Addr) (_ : Value) (_ : Tr AObj → R) (d : R) : R := d
noncomputable def storeC (low : Lw) (tr : Tr AObj) (next : Nat) (n : Nat) (a : Addr) (v : Value) (k : Tr AObj → R) (d : R) : R :=
  Value.casesOn (motive_1 := fun _ => TSt R) v (fun _ => sC_o) (fun _ _ => sC_o) (fun _ _ => sC_o) (fun _ _ _ => sC_o) (fun _ => sC_o) (fun _ => sC_o) (fun _ _ _ => sC_o) (fun _ => sC_o) (fun _ => sC_o) (fun _ _ _ => sC_o) sC_o (fun _ _ => sC_o) sC_o sC_a sC_t low tr next n a v k d
theorem storeC_eq (low : Lw) (tr : Tr AObj) (next : Nat) (n : Nat) (a : Addr) (v : Value) (k : Tr AObj → R) (d : R) : storeC low tr next n a v k d = storeK low tr next n a v k d := by cases v <;> rfl
noncomputable def c_stc (next : Nat) (k : KO R) (tr : Tr AObj) : R := k undef tr next []
noncomputable def c_stb (low : Lw) (tr : Tr AObj) (next : Nat) (k : KO R) (d : R) (n : Nat) (a : Addr) (v : Value) : R := storeC low tr next n a v (c_stc next k) d
noncomputable def c_sta (low : Lw) (env : Tr Value) (tr : Tr AObj) (next : Nat) (k : KO R) (d : R) (n : Nat) (v : FO) (a : Addr) : R := evC v env (c_stb low tr next k d n a)
noncomputable def c_st0 (low : Lw) (env : Tr Value) (tr : Tr AObj) (next : Nat) (k : KO R) (d : R) (n : Nat) (v : FO) (p : Value) : R := ptrK p (c_sta low env tr next k d n v) d
noncomputable def c_store (n : Nat) (x v : FO) (_ : Ty) (_ : Rec) (low : Lw) (_ : List ADef) (_ : Option Nat) (env : Tr Value) (tr : Tr AObj) (next : Nat) (_ : Oper) (k : KO R) (d : R) : R := evC x env (c_st0 low env tr next k d n v)

noncomputable def c_bb (L : Ty) (tr : Tr AObj) (next : Nat) (k : KO R) (d : R) (op : BinOp) (t : TypeId) (c : Bool) (x y : Value) : R := binK L op t c x y (k0 tr next k) d
noncomputable def c_ba (L : Ty) (env : Tr Value) (tr : Tr AObj) (next : Nat) (k : KO R) (d : R) (op : BinOp) (t : TypeId) (c : Bool) (y : FO) (x : Value) : R := evC y env (c_bb L tr next k d op t c x)
noncomputable def c_bin (op : BinOp) (t : TypeId) (c : Bool) (x y : FO) (L : Ty) (_ : Rec) (_ : Lw) (_ : List ADef) (_ : Option Nat) (env : Tr Value) (tr : Tr AObj) (next : Nat) (_ : Oper) (k : KO R) (d : R) : R := evC x env (c_ba L env tr next k d op t c y)

noncomputable def c_isn (_ : Tr AObj) (_ : Nat) (_ : KO R) (d : R) (_ _ _ : Nat) : R := d
noncomputable def c_iss (a : Addr) (tr : Tr AObj) (next : Nat) (k : KO R) (d : R) (e i n : Nat) : R := iteN (Nat.ble (Nat.succ i) n) (addK a (Nat.mul i e) (kp tr next k)) d
noncomputable def c_isd (tr : Tr AObj) (next : Nat) (k : KO R) (d : R) (e i : Nat) (a : Option Addr) (n _ : Nat) : R := Option.rec (motive := fun _ => Tr AObj → Nat → KO R → R → Nat → Nat → Nat → R) c_isn c_iss a tr next k d e i n
noncomputable def c_isc (tr : Tr AObj) (next : Nat) (k : KO R) (d : R) (e i : Nat) (x : Value) : R := slcK x (c_isd tr next k d e i) d
noncomputable def c_isb (env : Tr Value) (tr : Tr AObj) (next : Nat) (k : KO R) (d : R) (e : Nat) (x : FO) (i : Nat) : R := evC x env (c_isc tr next k d e i)
noncomputable def c_isa (env : Tr Value) (tr : Tr AObj) (next : Nat) (k : KO R) (d : R) (e : Nat) (x : FO) (i : Value) : R := natK i (c_isb env tr next k d e x) d
noncomputable def c_idxS (e : Nat) (x i : FO) (_ : Ty) (_ : Rec) (_ : Lw) (_ : List ADef) (_ : Option Nat) (env : Tr Value) (tr : Tr AObj) (next : Nat) (_ : Oper) (k : KO R) (d : R) : R := evC i env (c_isa env tr next k d e x)

noncomputable def c_idxA (e n : Nat) (x i : FO) (_ : Ty) (_ : Rec) (_ : Lw) (_ : List ADef) (_ : Option Nat) (env : Tr Value) (tr : Tr AObj) (next : Nat) (_ : Oper) (k : KO R) (d : R) : R := x_idxA env tr next k d e n x i
noncomputable def c_fa2 (tr : Tr AObj) (next : Nat) (k : KO R) (off : Nat) (a : Addr) : R := addK a off (kp tr next k)
noncomputable def c_fa1 (tr : Tr AObj) (next : Nat) (k : KO R) (d : R) (off : Nat) (x : Value) : R := ptrK x (c_fa2 tr next k off) d
noncomputable def c_fAddr (off : Nat) (x : FO) (_ : Ty) (_ : Rec) (_ : Lw) (_ : List ADef) (_ : Option Nat) (env : Tr Value) (tr : Tr AObj) (next : Nat) (_ : Oper) (k : KO R) (d : R) : R := evC x env (c_fa1 tr next k d off)
noncomputable def c_f2 (tr : Tr AObj) (next : Nat) (k : KO R) (d : R) (off : Nat) (l : List Value) : R := nthK d l off (k0 tr next k)
noncomputable def c_f1 (tr : Tr AObj) (next : Nat) (k : KO R) (d : R) (off : Nat) (x : Value) : R := aggK x (c_f2 tr next k d off) d
noncomputable def c_field1 (off : Nat) (x : FO) (_ : Ty) (_ : Rec) (_ : Lw) (_ : List ADef) (_ : Option Nat) (env : Tr Value) (tr : Tr AObj) (next : Nat) (_ : Oper) (k : KO R) (d : R) : R := evC x env (c_f1 tr next k d off)
noncomputable def c_fieldN (off n : Nat) (x : FO) (_ : Ty) (_ : Rec) (_ : Lw) (_ : List ADef) (_ : Option Nat) (env : Tr Value) (tr : Tr AObj) (next : Nat) (_ : Oper) (k : KO R) (d : R) : R := x_fieldN env tr next k d off n x
noncomputable def c_e2 (tr : Tr AObj) (next : Nat) (k : KO R) (d : R) (i : Nat) (l : List Value) : R := nthK d l i (k0 tr next k)
noncomputable def c_e1 (tr : Tr AObj) (next : Nat) (k : KO R) (d : R) (i : Nat) (x : Value) : R := tupK x (c_e2 tr next k d i) d
noncomputable def c_extract (x : FO) (i : Nat) (_ : Ty) (_ : Rec) (_ : Lw) (_ : List ADef) (_ : Option Nat) (env : Tr Value) (tr : Tr AObj) (next : Nat) (_ : Oper) (k : KO R) (d : R) : R := evC x env (c_e1 tr next k d i)
noncomputable def c_lenS (x : FO) (_ : Ty) (_ : Rec) (_ : Lw) (_ : List ADef) (_ : Option Nat) (env : Tr Value) (tr : Tr AObj) (next : Nat) (_ : Oper) (k : KO R) (d : R) : R := x_lenS env tr next k d x
noncomputable def c_cv (kd : IntKind) (tr : Tr AObj) (next : Nat) (k : KO R) (d : R) (x : Value) : R := convK kd x (k0 tr next k) d
noncomputable def c_conv (kd : IntKind) (x : FO) (_ : Ty) (_ : Rec) (_ : Lw) (_ : List ADef) (_ : Option Nat) (env : Tr Value) (tr : Tr AObj) (next : Nat) (_ : Oper) (k : KO R) (d : R) : R := evC x env (c_cv kd tr next k d)
noncomputable def c_call (f : FO) (args : List FO) (_ : Ty) (r : Rec) (low : Lw) (_ : List ADef) (_ : Option Nat) (env : Tr Value) (tr : Tr AObj) (next : Nat) (_ : Oper) (k : KO R) (d : R) : R := x_call r low env tr next k d f args
noncomputable def c_inv (x : FO) (m : String) (args : List FO) (L : Ty) (r : Rec) (low : Lw) (_ : List ADef) (_ : Option Nat) (env : Tr Value) (tr : Tr AObj) (next : Nat) (_ : Oper) (k : KO R) (d : R) : R := x_inv L r low env tr next k d x m args
noncomputable def c_slow (hint : Option FO) (L : Ty) (r : Rec) (low : Lw) (ds : List ADef) (ro : Option Nat) (env : Tr Value) (tr : Tr AObj) (next : Nat) (o : Oper) (k : KO R) (d : R) : R := x_slow L r low ds ro env tr next k d o hint

noncomputable def c_gen (a : Ty → Lw → (Operand → Value) → AH → Option ARes) (hint : Option FO) (L : Ty) (r : Rec) (low : Lw) (ds : List ADef) (ro : Option Nat) (env : Tr Value) (tr : Tr AObj) (next : Nat) (o : Oper) (k : KO R) (d : R) : R := x_gen L r low ds ro env tr next k d o a hint
noncomputable def exC (f : FOp) (L : Ty) (r : Rec) (low : Lw) (ds : List ADef) (ro : Option Nat) (env : Tr Value) (tr : Tr AObj) (next : Nat) (o : Oper) (k : KO R) (d : R) : R :=
  FOp.rec (motive := fun _ => TX R) c_move c_pick c_load1 c_loadN c_store c_bin c_idxS c_idxA c_fAddr c_field1 c_fieldN c_extract c_lenS c_conv c_call c_inv c_slow c_gen f L r low ds ro env tr next o k d

theorem evC_fun : @evC R = fun x env k => ev env x k := by funext x env k; exact evC_eq _ _ _
theorem boolC_fun : @boolC R = boolK := by funext v a b d; exact boolC_eq _ _ _ _
theorem storeC_fun : @storeC R = storeK := by funext low tr next n a v k d; exact storeC_eq _ _ _ _ _ _ _ _

theorem exC_eq (f : FOp) (L : Ty) (r : Rec) (low : Lw) (ds : List ADef) (ro : Option Nat) (env : Tr Value) (tr : Tr AObj) (next : Nat) (o : Oper) (k : KO R) (d : R) :
    exC f L r low ds ro env tr next o k d = exK L r low ds ro env tr next o k d f := by
  cases f
  case move x => exact evC_eq _ _ _
  case pick c a b => refine (evC_eq _ _ _).trans ?_; show _ = x_pick env tr next k d c a b; unfold x_pick; congr 1; funext v; show boolC v _ _ d = boolK v _ _ d; rw [boolC_eq, evC_eq, evC_eq]; rfl
  case load1 x => exact evC_eq _ _ _
  case loadN n x => exact evC_eq _ _ _
  case store n x v =>
    refine (evC_eq _ _ _).trans ?_
    show _ = x_store low env tr next k d n x v
    unfold x_store
    congr 1; funext p
    show ptrK p (c_sta low env tr next k d n v) d = _
    congr 1; funext a
    refine (evC_eq _ _ _).trans ?_
    congr 1; funext u
    exact storeC_eq _ _ _ _ _ _ _ _
  case bin op t c x y =>
    refine (evC_eq _ _ _).trans ?_
    show _ = x_bin L env tr next k d op t c x y
    unfold x_bin
    congr 1; funext p
    exact evC_eq _ _ _
  case idxS e x i =>
    refine (evC_eq _ _ _).trans ?_
    show _ = x_idxS env tr next k d e x i
    unfold x_idxS
    congr 1; funext p
    show natK p (c_isb env tr next k d e x) d = _
    congr 1; funext j
    refine (evC_eq _ _ _).trans ?_
    congr 1; funext u
    show slcK u (c_isd tr next k d e j) d = _
    congr 1; funext a n c
    cases a <;> rfl
  case idxA e n x i => rfl
  case fAddr off x => exact evC_eq _ _ _
  case field1 off x => exact evC_eq _ _ _
  case fieldN off n x => rfl
  case extract x i => exact evC_eq _ _ _
  case lenS x => rfl
  case conv kd x => exact evC_eq _ _ _
  case call f args => rfl
  case inv x m args => rfl
  case slow hint => rfl
  case gen a hint => rfl

noncomputable def gC_no (_ : Tr Value) (a _ : R) : R := a
noncomputable def gC_never (_ : Tr Value) (_ b : R) : R := b
noncomputable def gC_f (a b : R) : R := b
noncomputable def gC_k (want : Bool) (a b : R) (v : Value) : R := boolC v (Bool.rec (motive := fun _ => R) b a want) (Bool.rec (motive := fun _ => R) a b want) b
noncomputable def gC_on (p : Pth) (want : Bool) (env : Tr Value) (a b : R) : R := gP b p env (gC_k want a b)
noncomputable def guardC (g : FG) (env : Tr Value) (a b : R) : R := FG.rec (motive := fun _ => Tr Value → R → R → R) gC_no gC_never gC_on g env a b
theorem guardC_eq (g : FG) (env : Tr Value) (a b : R) : guardC g env a b = guardK env g a b := by
  cases g with
  | no => rfl
  | never => rfl
  | on p want =>
    show gP b p env (gC_k want a b) = gP b p env _
    congr 1; funext v
    exact boolC_eq _ _ _ _

noncomputable def dC_n (env : Tr Value) (_ : Value) (k : Tr Value → R) : R := k env
noncomputable def dC_s (p : Pth) (env : Tr Value) (v : Value) (k : Tr Value → R) : R := sP p env v k
noncomputable def dstC (dst : Option Pth) (env : Tr Value) (v : Value) (k : Tr Value → R) : R := Option.rec (motive := fun _ => Tr Value → Value → (Tr Value → R) → R) dC_n dC_s dst env v k
theorem dstC_eq (dst : Option Pth) (env : Tr Value) (v : Value) (k : Tr Value → R) : dstC dst env v k = dstK env dst v k := by cases dst <;> rfl
noncomputable def dsC_n (b : List ADef) (k : List ADef → R) : R := k b
noncomputable def dsC_c (x : ADef) (t : List ADef) (_ : List ADef → (List ADef → R) → R) (b : List ADef) (k : List ADef → R) : R := k ((x :: t) ++ b)
noncomputable def dsC (a b : List ADef) (k : List ADef → R) : R := List.rec (motive := fun _ => List ADef → (List ADef → R) → R) dsC_n dsC_c a b k
theorem dsC_eq (a b : List ADef) (k : List ADef → R) : dsC a b k = dsK a b k := by cases a <;> rfl

abbrev TC (R : Type) := Tr Value → List ADef → Tr AObj → Nat → R
abbrev TL (R : Type) := Ty → Rec → Lw → Option Nat → R → Tr Value → List ADef → Tr AObj → Nat → TC R → R
noncomputable def oc_nil (_ : Ty) (_ : Rec) (_ : Lw) (_ : Option Nat) (_ : R) (env : Tr Value) (ds : List ADef) (tr : Tr AObj) (next : Nat) (k : TC R) : R := k env ds tr next
noncomputable def oc_k3 (ih : TL R) (L : Ty) (r : Rec) (low : Lw) (ro : Option Nat) (d : R) (tr : Tr AObj) (next : Nat) (k : TC R) (env : Tr Value) (ds : List ADef) : R := ih L r low ro d env ds tr next k
noncomputable def oc_k2 (ih : TL R) (L : Ty) (r : Rec) (low : Lw) (ro : Option Nat) (d : R) (ds : List ADef) (tr : Tr AObj) (next : Nat) (k : TC R) (ds' : List ADef) (env : Tr Value) : R := dsC ds' ds (oc_k3 ih L r low ro d tr next k env)
noncomputable def oc_k1 (ih : TL R) (L : Ty) (r : Rec) (low : Lw) (ro : Option Nat) (d : R) (env : Tr Value) (dst : Option Pth) (ds : List ADef) (k : TC R) (v : Value) (tr : Tr AObj) (next : Nat) (ds' : List ADef) : R := dstC dst env v (oc_k2 ih L r low ro d ds tr next k ds')
noncomputable def oc_sk (ih : TL R) (L : Ty) (r : Rec) (low : Lw) (ro : Option Nat) (d : R) (ds : List ADef) (tr : Tr AObj) (next : Nat) (k : TC R) (env : Tr Value) : R := ih L r low ro d env ds tr next k
noncomputable def oc_op (dst : Option Pth) (g : FG) (op : FOp) (src : Oper) (_ : Bool) (ih : TL R) (L : Ty) (r : Rec) (low : Lw) (ro : Option Nat) (d : R) (env : Tr Value) (ds : List ADef) (tr : Tr AObj) (next : Nat) (k : TC R) : R :=
  guardC g env (exC op L r low ds ro env tr next src (oc_k1 ih L r low ro d env dst ds k) d) (dstC dst env undef (oc_sk ih L r low ro d ds tr next k))
noncomputable def oc_cons (o : FOper) (_ : List FOper) (ih : TL R) (L : Ty) (r : Rec) (low : Lw) (ro : Option Nat) (d : R) (env : Tr Value) (ds : List ADef) (tr : Tr AObj) (next : Nat) (k : TC R) : R :=
  FOper.rec (motive := fun _ => TL R → TL R) oc_op o ih L r low ro d env ds tr next k
noncomputable def opsC (l : List FOper) : TL R := List.rec (motive := fun _ => TL R) oc_nil oc_cons l

theorem opsC_eq (L : Ty) (r : Rec) (low : Lw) (ro : Option Nat) (d : R) : ∀ (l : List FOper) (env : Tr Value) (ds : List ADef) (tr : Tr AObj) (next : Nat) (k : TC R), opsC l L r low ro d env ds tr next k = opsFF L r low ro d l env ds tr next k
  | [], env, ds, tr, next, k => rfl
  | o :: l, env, ds, tr, next, k => by
    obtain ⟨dst, g, op, src, pu⟩ := o
    show guardC g env (exC op L r low ds ro env tr next src (oc_k1 (opsC l) L r low ro d env dst ds k) d) (dstC dst env undef (oc_sk (opsC l) L r low ro d ds tr next k)) =
      guardK env g (exK L r low ds ro env tr next src (fun v tr next ds' => dstK env dst v fun env => dsK ds' ds fun ds => opsFF L r low ro d l env ds tr next k) d op) (dstK env dst undef fun env => opsFF L r low ro d l env ds tr next k)
    rw [guardC_eq, exC_eq, dstC_eq]
    have e1 : (oc_k1 (opsC l) L r low ro d env dst ds k : KO R) = fun v tr next ds' => dstK env dst v fun env => dsK ds' ds fun ds => opsFF L r low ro d l env ds tr next k := by
      funext v tr next ds'
      show dstC dst env v (oc_k2 (opsC l) L r low ro d ds tr next k ds') = _
      rw [dstC_eq]
      congr 1; funext env
      show dsC ds' ds (oc_k3 (opsC l) L r low ro d tr next k env) = _
      rw [dsC_eq]
      congr 1; funext ds
      exact opsC_eq L r low ro d l env ds tr next k
    have e2 : (oc_sk (opsC l) L r low ro d ds tr next k : Tr Value → R) = fun env => opsFF L r low ro d l env ds tr next k := by
      funext env
      exact opsC_eq L r low ro d l env ds tr next k
    rw [e1, e2]

end op

/-! compiled code, wholly computed: its value is kept by the kernel -/
section force
variable {R : Type}
noncomputable def fPth (p : Pth) : (Pth → R) → R := Pth.rec (motive := fun _ => (Pth → R) → R) (fun k => k .z) (fun _ ih k => ih fun p => k (.l p)) (fun _ ih k => ih fun p => k (.r p)) p
theorem fPth_eq : ∀ (p : Pth) (k : Pth → R), fPth p k = k p
  | .z, k => rfl
  | .l p, k => fPth_eq p _
  | .r p, k => fPth_eq p _
noncomputable def fFO (x : FO) (k : FO → R) : R := FO.rec (motive := fun _ => R) (fun p => fPth p fun p => k (.t p)) (fun v => fV v fun v => k (.c v)) x
theorem fFO_eq (x : FO) (k : FO → R) : fFO x k = k x := by
  cases x with
  | t p => exact fPth_eq p _
  | c v => exact fV_eq v _
noncomputable def fBin (o : BinOp) (k : BinOp → R) : R := BinOp.rec (motive := fun _ => R) (k .add) (k .sub) (k .mul) (k .quo) (k .rem) (k .and) (k .or) (k .xor) (k .shl) (k .shr) (k .andNot) (k .eql) (k .neq) (k .lss) (k .leq) (k .gtr) (k .geq) o
theorem fBin_eq (o : BinOp) (k : BinOp → R) : fBin o k = k o := by cases o <;> rfl
noncomputable def fFOp (f : FOp) (k : FOp → R) : R := FOp.rec (motive := fun _ => R)
  (fun x => fFO x fun x => k (.move x)) (fun a b c => fFO a fun a => fFO b fun b => fFO c fun c => k (.pick a b c)) (fun x => fFO x fun x => k (.load1 x)) (fun n x => fN n fun n => fFO x fun x => k (.loadN n x))
  (fun n x v => fN n fun n => fFO x fun x => fFO v fun v => k (.store n x v)) (fun o t c x y => fBin o fun o => fN t fun t => fB c fun c => fFO x fun x => fFO y fun y => k (.bin o t c x y))
  (fun e x i => fN e fun e => fFO x fun x => fFO i fun i => k (.idxS e x i)) (fun e n x i => fN e fun e => fN n fun n => fFO x fun x => fFO i fun i => k (.idxA e n x i)) (fun o x => fN o fun o => fFO x fun x => k (.fAddr o x))
  (fun o x => fN o fun o => fFO x fun x => k (.field1 o x)) (fun o n x => fN o fun o => fN n fun n => fFO x fun x => k (.fieldN o n x)) (fun x i => fFO x fun x => fN i fun i => k (.extract x i)) (fun x => fFO x fun x => k (.lenS x))
  (fun kd x => fK kd fun kd => fFO x fun x => k (.conv kd x)) (fun f l => fFO f fun f => fL fFO l fun l => k (.call f l)) (fun x m l => fFO x fun x => fL fFO l fun l => k (.inv x m l)) (fun h => fOpt fFO h fun h => k (.slow h)) (fun a h => fOpt fFO h fun h => k (.gen a h)) f
theorem fFOp_eq (f : FOp) (k : FOp → R) : fFOp f k = k f := by
  unfold fFOp
  cases f <;> simp only [fFO_eq, fN_eq, fB_eq, fK_eq, fBin_eq, fL_eq fFO_eq, fOpt_eq fFO_eq]
noncomputable def fFG (g : FG) (k : FG → R) : R := FG.rec (motive := fun _ => R) (k .no) (k .never) (fun p w => fPth p fun p => fB w fun w => k (.on p w)) g
theorem fFG_eq (g : FG) (k : FG → R) : fFG g k = k g := by
  unfold fFG
  cases g <;> simp only [fPth_eq, fB_eq]
noncomputable def fFOper (o : FOper) (k : FOper → R) : R := FOper.rec (motive := fun _ => R) (fun d g op src pu => fOpt fPth d fun d => fFG g fun g => fFOp op fun op => fB pu fun pu => k ⟨d, g, op, src, pu⟩) o
theorem fFOper_eq (o : FOper) (k : FOper → R) : fFOper o k = k o := by
  obtain ⟨d, g, op, src, pu⟩ := o
  unfold fFOper
  simp only [fOpt_eq fPth_eq, fFG_eq, fFOp_eq, fB_eq]
end force
noncomputable def compId (l : List FOper) : List FOper := l
noncomputable def compF (L : Ty) (ops : Array Oper) : List FOper := fL fFOper (compL L ops) compId
theorem compF_eq (L : Ty) (ops : Array Oper) : compF L ops = compL L ops := by
  unfold compF
  rw [fL_eq fFOper_eq]; rfl

/-! code -/
noncomputable def sq_n (fr : Fr) (h : AH) (k : Fr → AH → Option Out) : Option Out := k fr h
noncomputable def sq_e (i : Nat) (fr : Fr) (h : AH) (_ : Fr → AH → Option Out) : Option Out := some ⟨.exit i, fr, h⟩
noncomputable def sq_g (i : Nat) (fr : Fr) (h : AH) (_ : Fr → AH → Option Out) : Option Out := some ⟨.goto i, fr, h⟩
noncomputable def sq_r (fr : Fr) (h : AH) (_ : Fr → AH → Option Out) : Option Out := some ⟨.ret, fr, h⟩
noncomputable def sq_out (e : AExit) (fr : Fr) (h : AH) (k : Fr → AH → Option Out) : Option Out := AExit.rec (motive := fun _ => Fr → AH → (Fr → AH → Option Out) → Option Out) sq_n sq_e sq_g sq_r e fr h k
noncomputable def sq_none (_ : Fr → AH → Option Out) : Option Out := none
noncomputable def sq_some (o : Out) (k : Fr → AH → Option Out) : Option Out := Out.rec (motive := fun _ => (Fr → AH → Option Out) → Option Out) sq_out o k
noncomputable def seqC (x : Option Out) (k : Fr → AH → Option Out) : Option Out := Option.rec (motive := fun _ => (Fr → AH → Option Out) → Option Out) sq_none sq_some x k
theorem seqC_eq (x : Option Out) (k : Fr → AH → Option Out) : seqC x k = seqK x k := by
  cases x with
  | none => rfl
  | some o => obtain ⟨e, fr, h⟩ := o; cases e <;> rfl

abbrev TCo := Pr → Rec → Lw → Fr → AH → Option Out
noncomputable def cc_skip (p : Pr) (r : Rec) (low : Lw) (fr : Fr) (h : AH) : Option Out := some ⟨.normal, fr, h⟩
noncomputable def cc_fin (ro : Option Nat) (env : Tr Value) (ds : List ADef) (tr : Tr AObj) (next : Nat) : Option Out := some ⟨.normal, ⟨⟨env⟩, ds, ro⟩, ⟨next, tr⟩⟩
noncomputable def cc_ops (id : Nat) (ops : Array Oper) (p : Pr) (r : Rec) (low : Lw) (fr : Fr) (h : AH) : Option Out :=
  opsC (compF p.ty ops) p.ty r low fr.round none fr.env.tr fr.defers h.tr h.next (cc_fin fr.round)
noncomputable def cc_draw (id : Nat) (ops : Array Oper) (p : Pr) (r : Rec) (low : Lw) (fr : Fr) (h : AH) : Option Out :=
  drawFF p.ty r low fr.defers fr.round none (compF p.ty ops) fr.env.tr h.tr h.next fun ks env tr next => iteN (drawDynF ops ks) (some ⟨.normal, ⟨⟨env⟩, fr.defers, fr.round⟩, ⟨next, tr⟩⟩) none
noncomputable def cc_region (id : Nat) (ops : Array Oper) (d : Bool) (p : Pr) (r : Rec) (low : Lw) (fr : Fr) (h : AH) : Option Out := Bool.rec (motive := fun _ => Nat → Array Oper → TCo) cc_ops cc_draw d id ops p r low fr h
noncomputable def cc_seq (a b : Code) (_ _ : TCo) (p : Pr) (r : Rec) (low : Lw) (fr : Fr) (h : AH) : Option Out := seqC (r.code low a fr h) (r.code low b)
noncomputable def cc_ck (a b : Code) (r : Rec) (low : Lw) (fr : Fr) (h : AH) (v : Value) : Option Out := boolC v (r.code low a fr h) (r.code low b fr h) none
noncomputable def cc_cond (c : Operand) (a b : Code) (_ _ : TCo) (p : Pr) (r : Rec) (low : Lw) (fr : Fr) (h : AH) : Option Out := evC (foOf c) fr.env.tr (cc_ck a b r low fr h)
noncomputable def cc_block (id : Nat) (b : Code) (_ : TCo) (p : Pr) (r : Rec) (low : Lw) (fr : Fr) (h : AH) : Option Out := blockK id (r.code low b fr h)
noncomputable def cc_loop (b : Code) (_ : TCo) (p : Pr) (r : Rec) (low : Lw) (fr : Fr) (h : AH) : Option Out := seqC (r.code low b fr h) (r.code low (.loop b))
noncomputable def cc_range (f : Operand) (ps : Array Tmp) (a b : Code) (_ _ : TCo) (p : Pr) (r : Rec) (low : Lw) (fr : Fr) (h : AH) : Option Out := codeFF p r low (.rangeFunc f ps a b) fr h
noncomputable def cc_exit (i : Nat) (p : Pr) (r : Rec) (low : Lw) (fr : Fr) (h : AH) : Option Out := some ⟨.exit i, fr, h⟩
noncomputable def cc_scope (b : Code) (_ : TCo) (p : Pr) (r : Rec) (low : Lw) (fr : Fr) (h : AH) : Option Out := r.within low b b fr h
noncomputable def cc_label (i : Nat) (p : Pr) (r : Rec) (low : Lw) (fr : Fr) (h : AH) : Option Out := some ⟨.normal, fr, h⟩
noncomputable def cc_goto (i : Nat) (p : Pr) (r : Rec) (low : Lw) (fr : Fr) (h : AH) : Option Out := some ⟨.goto i, fr, h⟩
noncomputable def cc_ret (p : Pr) (r : Rec) (low : Lw) (fr : Fr) (h : AH) : Option Out := some ⟨.ret, fr, h⟩
noncomputable def cc_refuse (s : String) (p : Pr) (r : Rec) (low : Lw) (fr : Fr) (h : AH) : Option Out := none
noncomputable def codeC (p : Pr) (r : Rec) (low : Lw) (c : Code) (fr : Fr) (h : AH) : Option Out :=
  Code.rec (motive := fun _ => TCo) cc_skip cc_region cc_seq cc_cond cc_block cc_loop cc_range cc_exit cc_scope cc_label cc_goto cc_ret cc_refuse c p r low fr h

theorem codeC_eq (p : Pr) (r : Rec) (low : Lw) (c : Code) (fr : Fr) (h : AH) : codeC p r low c fr h = codeFF p r low c fr h := by
  cases c
  case region id ops d =>
    cases d with
    | true =>
      show drawFF p.ty r low fr.defers fr.round none (compF p.ty ops) fr.env.tr h.tr h.next _ = _
      rw [compF_eq]; rfl
    | false =>
      show opsC (compF p.ty ops) p.ty r low fr.round none fr.env.tr fr.defers h.tr h.next (cc_fin fr.round) = _
      rw [compF_eq]
      exact opsC_eq _ _ _ _ _ _ _ _ _ _ _
  case seq a b => exact seqC_eq _ _
  case cond c a b =>
    refine (evC_eq _ _ _).trans ?_
    show _ = frK fr h fun env _ _ _ _ => ev env (foOf c) fun v => boolK v (r.code low a fr h) (r.code low b fr h) none
    rw [frK_eq]
    congr 1; funext v
    exact boolC_eq _ _ _ _
  case loop b => exact seqC_eq _ _
  all_goals rfl

noncomputable def recC (p : Pr) (n : Nat) : Rec := Nat.rec Rec.none (fun _ r => ⟨codeC p r, withinV r, callFF p r⟩) n
theorem recC_eq (p : Pr) : ∀ n, recC p n = recN p n
  | 0 => rfl
  | n + 1 => by
    show (⟨codeC p (recC p n), withinV (recC p n), callFF p (recC p n)⟩ : Rec) = stepRec p (recN p n)
    rw [recC_eq p n]
    unfold stepRec
    congr 1
    · funext low c fr h
      rw [codeC_eq, codeFF_eq]
    · funext low f args h
      exact callFF_eq p _ low f args h

end Go.AM

namespace Go.AM.Mo
open Go.AM
abbrev RR := Option Out
noncomputable def gC_never (_ : Tr Value) (_ b : RR) : RR := b
noncomputable def boolC_d (_ _ d : RR) : RR := d
noncomputable def boolC_t (a _ _ : RR) : RR := a
noncomputable def boolC_f (_ b _ : RR) : RR := b
noncomputable def boolC_y (b : Bool) (x y d : RR) : RR := Bool.rec (motive := fun _ => RR → RR → RR → RR) boolC_f boolC_t b x y d
noncomputable def boolC (v : Value) (a b d : RR) : RR := Value.casesOn (motive_1 := fun _ => RR → RR → RR → RR) v boolC_y (fun _ _ => boolC_d) (fun _ _ => boolC_d) (fun _ _ _ => boolC_d) (fun _ => boolC_d) (fun _ => boolC_d) (fun _ _ _ => boolC_d) (fun _ => boolC_d) (fun _ => boolC_d) (fun _ _ _ => boolC_d) boolC_d (fun _ _ => boolC_d) boolC_d (fun _ => boolC_d) (fun _ => boolC_d) a b d
noncomputable def gC_k (want : Bool) (a b : RR) (v : Value) : RR := boolC v (Bool.rec (motive := fun _ => RR) b a want) (Bool.rec (motive := fun _ => RR) a b want) b
noncomputable def gP_llv (_ : RR → Tr Value → (Value → RR) → RR) (d : RR) (_ : Value → RR) : RR := d
noncomputable def gP_lnv (l : Tr Value) (_ : Option Value) (_ : Tr Value) (_ _ : (RR → Tr Value → (Value → RR) → RR) → RR → (Value → RR) → RR) (ih : RR → Tr Value → (Value → RR) → RR) (d : RR) (k : Value → RR) : RR := ih d l k
noncomputable def gP_lv (_ : Pth) (ih : RR → Tr Value → (Value → RR) → RR) (d : RR) (t : Tr Value) (k : Value → RR) : RR := Tr.rec (motive := fun _ => (RR → Tr Value → (Value → RR) → RR) → RR → (Value → RR) → RR) gP_llv gP_lnv t ih d k
noncomputable def gP_rnv (_ : Tr Value) (_ : Option Value) (r : Tr Value) (_ _ : (RR → Tr Value → (Value → RR) → RR) → RR → (Value → RR) → RR) (ih : RR → Tr Value → (Value → RR) → RR) (d : RR) (k : Value → RR) : RR := ih d r k
noncomputable def gP_rv (_ : Pth) (ih : RR → Tr Value → (Value → RR) → RR) (d : RR) (t : Tr Value) (k : Value → RR) : RR := Tr.rec (motive := fun _ => (RR → Tr Value → (Value → RR) → RR) → RR → (Value → RR) → RR) gP_llv gP_rnv t ih d k
noncomputable def gP_vv (v : Option Value) (d : RR) (k : Value → RR) : RR := Option.rec (motive := fun _ => RR) d k v
noncomputable def gP_znv (_ : Tr Value) (v : Option Value) (_ : Tr Value) (_ _ : RR → (Value → RR) → RR) (d : RR) (k : Value → RR) : RR := gP_vv v d k
noncomputable def gP_zlv (d : RR) (_ : Value → RR) : RR := d
noncomputable def gP_zv (d : RR) (t : Tr Value) (k : Value → RR) : RR := Tr.rec (motive := fun _ => RR → (Value → RR) → RR) gP_zlv gP_znv t d k
noncomputable def gPv (d : RR) (p : Pth) (t : Tr Value) (k : Value → RR) : RR :=
  Pth.rec (motive := fun _ => RR → Tr Value → (Value → RR) → RR) gP_zv gP_lv gP_rv p d t k
noncomputable def gC_on (p : Pth) (want : Bool) (env : Tr Value) (a b : RR) : RR := gPv b p env (gC_k want a b)
noncomputable def gC_no (_ : Tr Value) (a _ : RR) : RR := a
noncomputable def guardC (g : FG) (env : Tr Value) (a b : RR) : RR := FG.rec (motive := fun _ => Tr Value → RR → RR → RR) gC_no gC_never gC_on g env a b
abbrev TC := Tr Value → List ADef → Tr AObj → Nat → RR
abbrev TL := Ty → Rec → Lw → Option Nat → RR → Tr Value → List ADef → Tr AObj → Nat → TC → RR
noncomputable def oc_k3 (ih : TL) (L : Ty) (r : Rec) (low : Lw) (ro : Option Nat) (d : RR) (tr : Tr AObj) (next : Nat) (k : TC) (env : Tr Value) (ds : List ADef) : RR := ih L r low ro d env ds tr next k
noncomputable def dsC_c (x : ADef) (t : List ADef) (_ : List ADef → (List ADef → RR) → RR) (b : List ADef) (k : List ADef → RR) : RR := k ((x :: t) ++ b)
noncomputable def dsC_n (b : List ADef) (k : List ADef → RR) : RR := k b
noncomputable def dsC (a b : List ADef) (k : List ADef → RR) : RR := List.rec (motive := fun _ => List ADef → (List ADef → RR) → RR) dsC_n dsC_c a b k
noncomputable def oc_k2 (ih : TL) (L : Ty) (r : Rec) (low : Lw) (ro : Option Nat) (d : RR) (ds : List ADef) (tr : Tr AObj) (next : Nat) (k : TC) (ds' : List ADef) (env : Tr Value) : RR := dsC ds' ds (oc_k3 ih L r low ro d tr next k env)
noncomputable def dC_n (env : Tr Value) (_ : Value) (k : Tr Value → RR) : RR := k env
noncomputable def sP_krv (l : Tr Value) (x : Option Value) (k : Tr Value → RR) (r : Tr Value) : RR := k (.node l x r)
noncomputable def sP_rlv (ih : Tr Value → Value → (Tr Value → RR) → RR) (v : Value) (k : Tr Value → RR) : RR := ih .leaf v (sP_krv .leaf none k)
noncomputable def sP_rnv (l : Tr Value) (x : Option Value) (r : Tr Value) (_ _ : (Tr Value → Value → (Tr Value → RR) → RR) → Value → (Tr Value → RR) → RR) (ih : Tr Value → Value → (Tr Value → RR) → RR) (v : Value) (k : Tr Value → RR) : RR := ih r v (sP_krv l x k)
noncomputable def sP_rv (_ : Pth) (ih : Tr Value → Value → (Tr Value → RR) → RR) (t : Tr Value) (v : Value) (k : Tr Value → RR) : RR := Tr.rec (motive := fun _ => (Tr Value → Value → (Tr Value → RR) → RR) → Value → (Tr Value → RR) → RR) sP_rlv sP_rnv t ih v k
noncomputable def sP_klv (x : Option Value) (r : Tr Value) (k : Tr Value → RR) (l : Tr Value) : RR := k (.node l x r)
noncomputable def sP_llv (ih : Tr Value → Value → (Tr Value → RR) → RR) (v : Value) (k : Tr Value → RR) : RR := ih .leaf v (sP_klv none .leaf k)
noncomputable def sP_lnv (l : Tr Value) (x : Option Value) (r : Tr Value) (_ _ : (Tr Value → Value → (Tr Value → RR) → RR) → Value → (Tr Value → RR) → RR) (ih : Tr Value → Value → (Tr Value → RR) → RR) (v : Value) (k : Tr Value → RR) : RR := ih l v (sP_klv x r k)
noncomputable def sP_lv (_ : Pth) (ih : Tr Value → Value → (Tr Value → RR) → RR) (t : Tr Value) (v : Value) (k : Tr Value → RR) : RR := Tr.rec (motive := fun _ => (Tr Value → Value → (Tr Value → RR) → RR) → Value → (Tr Value → RR) → RR) sP_llv sP_lnv t ih v k
noncomputable def sP_zlv (v : Value) (k : Tr Value → RR) : RR := k (.node .leaf (some v) .leaf)
noncomputable def sP_znv (l : Tr Value) (_ : Option Value) (r : Tr Value) (_ _ : Value → (Tr Value → RR) → RR) (v : Value) (k : Tr Value → RR) : RR := k (.node l (some v) r)
noncomputable def sP_zv (t : Tr Value) (v : Value) (k : Tr Value → RR) : RR := Tr.rec (motive := fun _ => Value → (Tr Value → RR) → RR) sP_zlv sP_znv t v k
noncomputable def sPv (p : Pth) (t : Tr Value) (v : Value) (k : Tr Value → RR) : RR :=
  Pth.rec (motive := fun _ => Tr Value → Value → (Tr Value → RR) → RR) sP_zv sP_lv sP_rv p t v k
noncomputable def dC_s (p : Pth) (env : Tr Value) (v : Value) (k : Tr Value → RR) : RR := sPv p env v k
noncomputable def dstC (dst : Option Pth) (env : Tr Value) (v : Value) (k : Tr Value → RR) : RR := Option.rec (motive := fun _ => Tr Value → Value → (Tr Value → RR) → RR) dC_n dC_s dst env v k
noncomputable def oc_k1 (ih : TL) (L : Ty) (r : Rec) (low : Lw) (ro : Option Nat) (d : RR) (env : Tr Value) (dst : Option Pth) (ds : List ADef) (k : TC) (v : Value) (tr : Tr AObj) (next : Nat) (ds' : List ADef) : RR := dstC dst env v (oc_k2 ih L r low ro d ds tr next k ds')
noncomputable def oc_sk (ih : TL) (L : Ty) (r : Rec) (low : Lw) (ro : Option Nat) (d : RR) (ds : List ADef) (tr : Tr AObj) (next : Nat) (k : TC) (env : Tr Value) : RR := ih L r low ro d env ds tr next k
noncomputable def tupK_d (_ : List Value → RR) (d : RR) : RR := d
noncomputable def tupK_y (cs : Array Value) (k : List Value → RR) (_ : RR) : RR := k cs.toList
noncomputable def tupK (v : Value) (k : List Value → RR) (d : RR) : RR := Value.casesOn (motive_1 := fun _ => (List Value → RR) → RR → RR) v (fun _ => tupK_d) (fun _ _ => tupK_d) (fun _ _ => tupK_d) (fun _ _ _ => tupK_d) (fun _ => tupK_d) (fun _ => tupK_d) (fun _ _ _ => tupK_d) (fun _ => tupK_d) (fun _ => tupK_d) (fun _ _ _ => tupK_d) tupK_d (fun _ _ => tupK_d) tupK_d (fun _ => tupK_d) tupK_y k d
noncomputable def nthKv (d : RR) (l : List Value) (i : Nat) (k : Value → RR) : RR := List.rec (motive := fun _ => RR) d (fun a _ _ => k a) (dropC l i)
abbrev KO := Value → Tr AObj → Nat → List ADef → RR
noncomputable def k0 (tr : Tr AObj) (next : Nat) (k : KO) (v : Value) : RR := k v tr next []
noncomputable def c_e2 (tr : Tr AObj) (next : Nat) (k : KO) (d : RR) (i : Nat) (l : List Value) : RR := nthKv d l i (k0 tr next k)
noncomputable def c_e1 (tr : Tr AObj) (next : Nat) (k : KO) (d : RR) (i : Nat) (x : Value) : RR := tupK x (c_e2 tr next k d i) d
noncomputable def evC_t (p : Pth) (env : Tr Value) (k : Value → RR) : RR := gPv (k undef) p env k
noncomputable def evC_c (v : Value) (_ : Tr Value) (k : Value → RR) : RR := k v
noncomputable def evC (x : FO) (env : Tr Value) (k : Value → RR) : RR := FO.rec (motive := fun _ => Tr Value → (Value → RR) → RR) evC_t evC_c x env k
noncomputable def c_extract (x : FO) (i : Nat) (_ : Ty) (_ : Rec) (_ : Lw) (_ : List ADef) (_ : Option Nat) (env : Tr Value) (tr : Tr AObj) (next : Nat) (_ : Oper) (k : KO) (d : RR) : RR := evC x env (c_e1 tr next k d i)
noncomputable def dropKv (l : List Value) (i : Nat) (k : List Value → RR) : RR := List.rec (motive := fun _ => RR) (k []) (fun a t _ => k (a :: t)) (dropC l i)
noncomputable def takeKv (l : List Value) : Nat → (List Value → RR) → RR :=
  List.rec (motive := fun _ => Nat → (List Value → RR) → RR) (fun _ k => k []) (fun a _ ih i k => Nat.rec (motive := fun _ => RR) (k []) (fun j _ => ih j fun l => k (a :: l)) i) l
noncomputable def aggK_d (_ : List Value → RR) (d : RR) : RR := d
noncomputable def aggK_y (cs : Array Value) (k : List Value → RR) (_ : RR) : RR := k cs.toList
noncomputable def aggK (v : Value) (k : List Value → RR) (d : RR) : RR := Value.casesOn (motive_1 := fun _ => (List Value → RR) → RR → RR) v (fun _ => aggK_d) (fun _ _ => aggK_d) (fun _ _ => aggK_d) (fun _ _ _ => aggK_d) (fun _ => aggK_d) (fun _ => aggK_d) (fun _ _ _ => aggK_d) (fun _ => aggK_d) (fun _ => aggK_d) (fun _ _ _ => aggK_d) aggK_d (fun _ _ => aggK_d) aggK_d aggK_y (fun _ => aggK_d) k d
noncomputable def ev (env : Tr Value) (x : FO) (k : Value → RR) : RR := FO.rec (motive := fun _ => RR) (fun p => gPv (k undef) p env k) k x
noncomputable def x_fieldN (env : Tr Value) (tr : Tr AObj) (next : Nat) (k : KO) (d : RR) (off n : Nat) (x : FO) : RR :=
  ev env x fun x => aggK x (fun l => dropKv l off fun l => takeKv l n fun l => k (.agg ⟨l⟩) tr next []) d
noncomputable def c_fieldN (off n : Nat) (x : FO) (_ : Ty) (_ : Rec) (_ : Lw) (_ : List ADef) (_ : Option Nat) (env : Tr Value) (tr : Tr AObj) (next : Nat) (_ : Oper) (k : KO) (d : RR) : RR := x_fieldN env tr next k d off n x
noncomputable def c_f2 (tr : Tr AObj) (next : Nat) (k : KO) (d : RR) (off : Nat) (l : List Value) : RR := nthKv d l off (k0 tr next k)
noncomputable def c_f1 (tr : Tr AObj) (next : Nat) (k : KO) (d : RR) (off : Nat) (x : Value) : RR := aggK x (c_f2 tr next k d off) d
noncomputable def c_field1 (off : Nat) (x : FO) (_ : Ty) (_ : Rec) (_ : Lw) (_ : List ADef) (_ : Option Nat) (env : Tr Value) (tr : Tr AObj) (next : Nat) (_ : Oper) (k : KO) (d : RR) : RR := evC x env (c_f1 tr next k d off)
noncomputable def cK_x (_ : Nat) (_ : Option Nat) (_ : Nat) (_ : List Value → Nat → RR) (d : RR) : RR := d
noncomputable def cK_n (_ : List Value) (_ off n : Nat) (_ : List Value → Nat → RR) (d : RR) : RR := d
noncomputable def cK_s (e : Nat) (cs : List Value) (m off n : Nat) (k : List Value → Nat → RR) (d : RR) : RR :=
  Bool.rec (motive := fun _ => RR) d (Bool.rec (motive := fun _ => RR) d (k cs off) (Nat.ble (Nat.add off n) e)) (Nat.ble m e)
noncomputable def cK_c (cs : List Value) (m : Nat) (_ : Bool) (off : Nat) (s : Option Nat) (n : Nat) (k : List Value → Nat → RR) (d : RR) : RR :=
  Option.rec (motive := fun _ => List Value → Nat → Nat → Nat → (List Value → Nat → RR) → RR → RR) cK_n cK_s s cs m off n k d
noncomputable def cK_o (off : Nat) (s : Option Nat) (n : Nat) (k : List Value → Nat → RR) (d : RR) (o : AObj) : RR :=
  AObj.rec (motive := fun _ => Nat → Option Nat → Nat → (List Value → Nat → RR) → RR → RR) cK_c (fun _ => cK_x) (fun _ => cK_x) o off s n k d
noncomputable def gP_llo (_ : RR → Tr AObj → (AObj → RR) → RR) (d : RR) (_ : AObj → RR) : RR := d
noncomputable def gP_lno (l : Tr AObj) (_ : Option AObj) (_ : Tr AObj) (_ _ : (RR → Tr AObj → (AObj → RR) → RR) → RR → (AObj → RR) → RR) (ih : RR → Tr AObj → (AObj → RR) → RR) (d : RR) (k : AObj → RR) : RR := ih d l k
noncomputable def gP_lo (_ : Pth) (ih : RR → Tr AObj → (AObj → RR) → RR) (d : RR) (t : Tr AObj) (k : AObj → RR) : RR := Tr.rec (motive := fun _ => (RR → Tr AObj → (AObj → RR) → RR) → RR → (AObj → RR) → RR) gP_llo gP_lno t ih d k
noncomputable def gP_rno (_ : Tr AObj) (_ : Option AObj) (r : Tr AObj) (_ _ : (RR → Tr AObj → (AObj → RR) → RR) → RR → (AObj → RR) → RR) (ih : RR → Tr AObj → (AObj → RR) → RR) (d : RR) (k : AObj → RR) : RR := ih d r k
noncomputable def gP_ro (_ : Pth) (ih : RR → Tr AObj → (AObj → RR) → RR) (d : RR) (t : Tr AObj) (k : AObj → RR) : RR := Tr.rec (motive := fun _ => (RR → Tr AObj → (AObj → RR) → RR) → RR → (AObj → RR) → RR) gP_llo gP_rno t ih d k
noncomputable def gP_vo (v : Option AObj) (d : RR) (k : AObj → RR) : RR := Option.rec (motive := fun _ => RR) d k v
noncomputable def gP_zno (_ : Tr AObj) (v : Option AObj) (_ : Tr AObj) (_ _ : RR → (AObj → RR) → RR) (d : RR) (k : AObj → RR) : RR := gP_vo v d k
noncomputable def gP_zlo (d : RR) (_ : AObj → RR) : RR := d
noncomputable def gP_zo (d : RR) (t : Tr AObj) (k : AObj → RR) : RR := Tr.rec (motive := fun _ => RR → (AObj → RR) → RR) gP_zlo gP_zno t d k
noncomputable def gPo (d : RR) (p : Pth) (t : Tr AObj) (k : AObj → RR) : RR :=
  Pth.rec (motive := fun _ => RR → Tr AObj → (AObj → RR) → RR) gP_zo gP_lo gP_ro p d t k
noncomputable def cK_a (b off : Nat) (s : Option Nat) (tr : Tr AObj) (next n : Nat) (k : List Value → Nat → RR) (d : RR) : RR :=
  Bool.rec (motive := fun _ => RR) (gPo d (pth b) tr (cK_o off s n k d)) d (Nat.ble next b)
noncomputable def cellsK (tr : Tr AObj) (next : Nat) (a : Addr) (n : Nat) (k : List Value → Nat → RR) (d : RR) : RR :=
  Addr.rec (motive := fun _ => Tr AObj → Nat → Nat → (List Value → Nat → RR) → RR → RR) cK_a a tr next n k d
noncomputable def loadNK (tr : Tr AObj) (next : Nat) (a : Addr) (n : Nat) (k : List Value → RR) (d : RR) : RR := cellsK tr next a n (fun cs off => dropKv cs off fun cs => takeKv cs n k) d
noncomputable def ka (tr : Tr AObj) (next : Nat) (k : KO) (l : List Value) : RR := k (.agg ⟨l⟩) tr next []
noncomputable def c_lnb (n : Nat) (tr : Tr AObj) (next : Nat) (k : KO) (d : RR) (a : Addr) : RR := loadNK tr next a n (ka tr next k) d
noncomputable def ptrK_d (_ : Addr → RR) (d : RR) : RR := d
noncomputable def ptrK_s (a : Addr) (k : Addr → RR) (_ : RR) : RR := k a
noncomputable def ptrK_n (_ : Addr → RR) (d : RR) : RR := d
noncomputable def ptrK_y (a : Option Addr) (k : Addr → RR) (d : RR) : RR := Option.rec (motive := fun _ => (Addr → RR) → RR → RR) ptrK_n ptrK_s a k d
noncomputable def ptrK (v : Value) (k : Addr → RR) (d : RR) : RR := Value.casesOn (motive_1 := fun _ => (Addr → RR) → RR → RR) v (fun _ => ptrK_d) (fun _ _ => ptrK_d) (fun _ _ => ptrK_d) (fun _ _ _ => ptrK_d) (fun _ => ptrK_d) ptrK_y (fun _ _ _ => ptrK_d) (fun _ => ptrK_d) (fun _ => ptrK_d) (fun _ _ _ => ptrK_d) ptrK_d (fun _ _ => ptrK_d) ptrK_d (fun _ => ptrK_d) (fun _ => ptrK_d) k d
noncomputable def c_lna (n : Nat) (tr : Tr AObj) (next : Nat) (k : KO) (d : RR) (p : Value) : RR := ptrK p (c_lnb n tr next k d) d
noncomputable def c_loadN (n : Nat) (x : FO) (_ : Ty) (_ : Rec) (_ : Lw) (_ : List ADef) (_ : Option Nat) (env : Tr Value) (tr : Tr AObj) (next : Nat) (_ : Oper) (k : KO) (d : RR) : RR := evC x env (c_lna n tr next k d)
noncomputable def sC_t (_ : Array Value) (_ : Lw) (_ : Tr AObj) (_ : Nat) (_ : Nat) (_ : Addr) (_ : Value) (_ : Tr AObj → RR) (d : RR) : RR := d
noncomputable def iteN (b : Bool) (x y : RR) : RR := Bool.rec (motive := fun _ => RR) y x b
noncomputable def wK_x (_ _ : Nat) (_ : Option Nat) (_ : Lw) (_ : Tr AObj) (_ : Value) (_ : Tr AObj → RR) (d : RR) : RR := d
noncomputable def wK_n (_ : Nat) (_ : Lw) (_ : List Value) (_ _ : Nat) (_ : Tr AObj) (_ : Value) (_ : Tr AObj → RR) (d : RR) : RR := d
noncomputable def sP_kro (l : Tr AObj) (x : Option AObj) (k : Tr AObj → RR) (r : Tr AObj) : RR := k (.node l x r)
noncomputable def sP_rlo (ih : Tr AObj → AObj → (Tr AObj → RR) → RR) (v : AObj) (k : Tr AObj → RR) : RR := ih .leaf v (sP_kro .leaf none k)
noncomputable def sP_rno (l : Tr AObj) (x : Option AObj) (r : Tr AObj) (_ _ : (Tr AObj → AObj → (Tr AObj → RR) → RR) → AObj → (Tr AObj → RR) → RR) (ih : Tr AObj → AObj → (Tr AObj → RR) → RR) (v : AObj) (k : Tr AObj → RR) : RR := ih r v (sP_kro l x k)
noncomputable def sP_ro (_ : Pth) (ih : Tr AObj → AObj → (Tr AObj → RR) → RR) (t : Tr AObj) (v : AObj) (k : Tr AObj → RR) : RR := Tr.rec (motive := fun _ => (Tr AObj → AObj → (Tr AObj → RR) → RR) → AObj → (Tr AObj → RR) → RR) sP_rlo sP_rno t ih v k
noncomputable def sP_klo (x : Option AObj) (r : Tr AObj) (k : Tr AObj → RR) (l : Tr AObj) : RR := k (.node l x r)
noncomputable def sP_llo (ih : Tr AObj → AObj → (Tr AObj → RR) → RR) (v : AObj) (k : Tr AObj → RR) : RR := ih .leaf v (sP_klo none .leaf k)
noncomputable def sP_lno (l : Tr AObj) (x : Option AObj) (r : Tr AObj) (_ _ : (Tr AObj → AObj → (Tr AObj → RR) → RR) → AObj → (Tr AObj → RR) → RR) (ih : Tr AObj → AObj → (Tr AObj → RR) → RR) (v : AObj) (k : Tr AObj → RR) : RR := ih l v (sP_klo x r k)
noncomputable def sP_lo (_ : Pth) (ih : Tr AObj → AObj → (Tr AObj → RR) → RR) (t : Tr AObj) (v : AObj) (k : Tr AObj → RR) : RR := Tr.rec (motive := fun _ => (Tr AObj → AObj → (Tr AObj → RR) → RR) → AObj → (Tr AObj → RR) → RR) sP_llo sP_lno t ih v k
noncomputable def sP_zlo (v : AObj) (k : Tr AObj → RR) : RR := k (.node .leaf (some v) .leaf)
noncomputable def sP_zno (l : Tr AObj) (_ : Option AObj) (r : Tr AObj) (_ _ : AObj → (Tr AObj → RR) → RR) (v : AObj) (k : Tr AObj → RR) : RR := k (.node l (some v) r)
noncomputable def sP_zo (t : Tr AObj) (v : AObj) (k : Tr AObj → RR) : RR := Tr.rec (motive := fun _ => AObj → (Tr AObj → RR) → RR) sP_zlo sP_zno t v k
noncomputable def sPo (p : Pth) (t : Tr AObj) (v : AObj) (k : Tr AObj → RR) : RR :=
  Pth.rec (motive := fun _ => Tr AObj → AObj → (Tr AObj → RR) → RR) sP_zo sP_lo sP_ro p t v k
noncomputable def wK_k (b e : Nat) (tr : Tr AObj) (k : Tr AObj → RR) (cs : List Value) : RR := sPo (pth b) tr (.cells cs e false) k
noncomputable def setKv (l : List Value) : Nat → Value → (List Value → RR) → RR :=
  List.rec (motive := fun _ => Nat → Value → (List Value → RR) → RR) (fun _ _ k => k []) (fun a t ih i x k => Nat.rec (motive := fun _ => RR) (k (x :: t)) (fun j _ => ih j x fun l => k (a :: l)) i) l
noncomputable def wK_s (e : Nat) (b : Nat) (low : Lw) (cs : List Value) (m off : Nat) (tr : Tr AObj) (v : Value) (k : Tr AObj → RR) (d : RR) : RR :=
  iteN (low.ok b) (iteN (Nat.beq e cs.length) (iteN (Nat.ble m e) (iteN (Nat.ble (Nat.succ off) e) (setKv cs off v (wK_k b e tr k)) d) d) d) d
noncomputable def wK_c (cs : List Value) (m : Nat) (ro : Bool) (b off : Nat) (s : Option Nat) (low : Lw) (tr : Tr AObj) (v : Value) (k : Tr AObj → RR) (d : RR) : RR :=
  iteN ro d (Option.rec (motive := fun _ => Nat → Lw → List Value → Nat → Nat → Tr AObj → Value → (Tr AObj → RR) → RR → RR) wK_n wK_s s b low cs m off tr v k d)
noncomputable def wK_o (b off : Nat) (s : Option Nat) (low : Lw) (tr : Tr AObj) (v : Value) (k : Tr AObj → RR) (d : RR) (o : AObj) : RR :=
  AObj.rec (motive := fun _ => Nat → Nat → Option Nat → Lw → Tr AObj → Value → (Tr AObj → RR) → RR → RR) wK_c (fun _ => wK_x) (fun _ => wK_x) o b off s low tr v k d
noncomputable def wK_a (b off : Nat) (s : Option Nat) (low : Lw) (tr : Tr AObj) (next : Nat) (v : Value) (k : Tr AObj → RR) (d : RR) : RR :=
  iteN (Nat.ble next b) d (gPo d (pth b) tr (wK_o b off s low tr v k d))
noncomputable def wr1K (low : Lw) (tr : Tr AObj) (next : Nat) (a : Addr) (v : Value) (k : Tr AObj → RR) (d : RR) : RR :=
  Addr.rec (motive := fun _ => Lw → Tr AObj → Nat → Value → (Tr AObj → RR) → RR → RR) wK_a a low tr next v k d
noncomputable def sC_o (low : Lw) (tr : Tr AObj) (next : Nat) (n : Nat) (a : Addr) (v : Value) (k : Tr AObj → RR) (d : RR) : RR := iteN (Nat.beq 1 n) (wr1K low tr next a v k d) d
noncomputable def fB (b : Bool) (k : Bool → RR) : RR := Bool.rec (motive := fun _ => RR) (k false) (k true) b
noncomputable def fN_z (k : Nat → RR) : RR := k 0
noncomputable def fN_s (m : Nat) (_ : (Nat → RR) → RR) (k : Nat → RR) : RR := k (Nat.succ m)
noncomputable def fN (n : Nat) (k : Nat → RR) : RR := Nat.rec (motive := fun _ => (Nat → RR) → RR) fN_z fN_s n k
noncomputable def fV1_nilIface (k : Value → RR) : RR := k .nilIface
noncomputable def fOpta (f : Addr → (Addr → RR) → RR) (o : Option Addr) (k : Option Addr → RR) : RR := Option.rec (motive := fun _ => RR) (k none) (fun a => f a fun a => k (some a)) o
noncomputable def fOptn (f : Nat → (Nat → RR) → RR) (o : Option Nat) (k : Option Nat → RR) : RR := Option.rec (motive := fun _ => RR) (k none) (fun a => f a fun a => k (some a)) o
noncomputable def fA (a : Addr) (k : Addr → RR) : RR := Addr.rec (motive := fun _ => RR) (fun b o s => fN b fun b => fN o fun o => fOptn fN s fun s => k ⟨b, o, s⟩) a
noncomputable def fV1_pointer (a : Option Addr) (k : Value → RR) : RR := fOpta fA a fun a => k (.pointer a)
noncomputable def fV1_complex (a : FloatKind) (b c : Nat) (k : Value → RR) : RR := k (.complex a b c)
noncomputable def fV1_nilFunc (k : Value → RR) : RR := k .nilFunc
noncomputable def fStr (s : ByteArray) (k : ByteArray → RR) : RR := ByteArray.rec (motive := fun _ => RR) (fun d => Array.rec (motive := fun _ => RR) (fun l => k ⟨⟨l⟩⟩) d) s
noncomputable def fV1_string (s : ByteArray) (k : Value → RR) : RR := fStr s fun s => k (.string s)
noncomputable def fLv (f : Value → (Value → RR) → RR) (l : List Value) : (List Value → RR) → RR :=
  List.rec (motive := fun _ => (List Value → RR) → RR) (fun k => k []) (fun a _ ih k => f a fun a => ih fun l => k (a :: l)) l
noncomputable def fArrv (f : Value → (Value → RR) → RR) (l : Array Value) (k : Array Value → RR) : RR := Array.rec (motive := fun _ => RR) (fun l => fLv f l fun l => k ⟨l⟩) l
noncomputable def fV0_nilIface (k : Value → RR) : RR := k .nilIface
noncomputable def fV0_nilFunc (k : Value → RR) : RR := k .nilFunc
noncomputable def fV0_complex (a : FloatKind) (b c : Nat) (k : Value → RR) : RR := k (.complex a b c)
noncomputable def fV0_pointer (a : Option Addr) (k : Value → RR) : RR := fOpta fA a fun a => k (.pointer a)
noncomputable def fV0_string (s : ByteArray) (k : Value → RR) : RR := fStr s fun s => k (.string s)
noncomputable def fV0_iface (t : TypeId) (v : Value) (k : Value → RR) : RR := k (.iface t v)
noncomputable def fV0_float (a : FloatKind) (b : Nat) (k : Value → RR) : RR := k (.float a b)
noncomputable def fV0_tuple (cs : Array Value) (k : Value → RR) : RR := k (.tuple cs)
noncomputable def fV0_slice (a : Option Addr) (l c : Nat) (k : Value → RR) : RR := fOpta fA a fun a => fN l fun l => fN c fun c => k (.slice a l c)
noncomputable def fV0_chan (r : Option Nat) (k : Value → RR) : RR := k (.chan r)
noncomputable def fV0_bool (b : Bool) (k : Value → RR) : RR := fB b fun b => k (.bool b)
noncomputable def fV0_func (f : Fn) (a b : Array Value) (k : Value → RR) : RR := k (.func f a b)
noncomputable def fV0_map (r : Option Nat) (k : Value → RR) : RR := k (.map r)
noncomputable def fK (i : IntKind) (k : IntKind → RR) : RR := IntKind.rec (motive := fun _ => RR) (k .i8) (k .i16) (k .i32) (k .i64) (k .u8) (k .u16) (k .u32) (k .u64) i
noncomputable def fI (z : Int) (k : Int → RR) : RR := Int.rec (motive := fun _ => RR) (fun n => fN n fun n => k (.ofNat n)) (fun n => fN n fun n => k (.negSucc n)) z
noncomputable def fV0_int (i : IntKind) (n : Int) (k : Value → RR) : RR := fK i fun i => fI n fun n => k (.int i n)
noncomputable def fV0_agg (cs : Array Value) (k : Value → RR) : RR := k (.agg cs)
noncomputable def fV0 (v : Value) (k : Value → RR) : RR :=
  Value.casesOn (motive_1 := fun _ => (Value → RR) → RR) v fV0_bool fV0_int fV0_float fV0_complex fV0_string fV0_pointer fV0_slice fV0_map fV0_chan fV0_func fV0_nilFunc fV0_iface fV0_nilIface fV0_agg fV0_tuple k
noncomputable def fV1_tuple (cs : Array Value) (k : Value → RR) : RR := fArrv fV0 cs fun cs => k (.tuple cs)
noncomputable def fV1_iface (t : TypeId) (v : Value) (k : Value → RR) : RR := fN t fun t => fV0 v fun v => k (.iface t v)
noncomputable def fV1_float (a : FloatKind) (b : Nat) (k : Value → RR) : RR := k (.float a b)
noncomputable def fV1_slice (a : Option Addr) (l c : Nat) (k : Value → RR) : RR := fOpta fA a fun a => fN l fun l => fN c fun c => k (.slice a l c)
noncomputable def fV1_chan (r : Option Nat) (k : Value → RR) : RR := k (.chan r)
noncomputable def fV1_bool (b : Bool) (k : Value → RR) : RR := fB b fun b => k (.bool b)
noncomputable def fV1_func (f : Fn) (a b : Array Value) (k : Value → RR) : RR := fArrv fV0 a fun a => fArrv fV0 b fun b => k (.func f a b)
noncomputable def fV1_int (i : IntKind) (n : Int) (k : Value → RR) : RR := fK i fun i => fI n fun n => k (.int i n)
noncomputable def fV1_agg (cs : Array Value) (k : Value → RR) : RR := fArrv fV0 cs fun cs => k (.agg cs)
noncomputable def fV1_map (r : Option Nat) (k : Value → RR) : RR := k (.map r)
noncomputable def fV1 (v : Value) (k : Value → RR) : RR :=
  Value.casesOn (motive_1 := fun _ => (Value → RR) → RR) v fV1_bool fV1_int fV1_float fV1_complex fV1_string fV1_pointer fV1_slice fV1_map fV1_chan fV1_func fV1_nilFunc fV1_iface fV1_nilIface fV1_agg fV1_tuple k
noncomputable def fE (e : Value × Value × Nat) (k : Value × Value × Nat → RR) : RR :=
  Prod.rec (motive := fun _ => RR) (fun a b => Prod.rec (motive := fun _ => RR) (fun b c => fV1 a fun a => fV1 b fun b => fN c fun c => k (a, b, c)) b) e
noncomputable def fOth (x : AOth) (k : AOth → RR) : RR :=
  AOth.rec (motive := fun _ => RR) (fun b => fB b fun b => k (.dfr b)) (fun e c => fOpt fE e fun e => fN c fun c => k (.map e c))
    (fun m s l o => fN m fun m => fN s fun s => fN l fun l => fOpt fN o fun o => k (.iter m s l o)) x
noncomputable def fObj (o : AObj) (k : AObj → RR) : RR :=
  AObj.rec (motive := fun _ => RR) (fun cs m ro => fLv fV0 cs fun cs => fN m fun m => fB ro fun ro => k (.cells cs m ro)) (fun y => k (.loop y)) (fun b => fOth b fun b => k (.oth b)) o
noncomputable def fOpto (f : AObj → (AObj → RR) → RR) (o : Option AObj) (k : Option AObj → RR) : RR := Option.rec (motive := fun _ => RR) (k none) (fun a => f a fun a => k (some a)) o
noncomputable def fPo (f : AObj → (AObj → RR) → RR) (p : Pth) : Tr AObj → (Tr AObj → RR) → RR :=
  Pth.rec (motive := fun _ => Tr AObj → (Tr AObj → RR) → RR)
    (fun t k => Tr.rec (motive := fun _ => RR) (k .leaf) (fun l v r _ _ => fOpto f v fun v => k (.node l v r)) t)
    (fun _ ih t k => Tr.rec (motive := fun _ => RR) (k .leaf) (fun l v r _ _ => ih l fun l => k (.node l v r)) t)
    (fun _ ih t k => Tr.rec (motive := fun _ => RR) (k .leaf) (fun l v r _ _ => ih r fun r => k (.node l v r)) t) p
noncomputable def outK (next : Nat) (hint : Option Nat) (h : AH) (k : Tr AObj → Nat → RR) : RR :=
  AH.rec (motive := fun _ => RR) (fun nx tr => fN nx fun nx =>
    iteN (Nat.beq nx next)
      (Option.rec (motive := fun _ => RR) (k tr nx) (fun b => fPo fObj (pth b) tr fun tr => k tr nx) hint)
      (fPo fObj (pth next) tr fun tr => Option.rec (motive := fun _ => RR) (k tr nx) (fun b => fPo fObj (pth b) tr fun tr => k tr nx) hint)) h
noncomputable def storeK (low : Lw) (tr : Tr AObj) (next : Nat) (n : Nat) (a : Addr) (v : Value) (k : Tr AObj → RR) (d : RR) : RR :=
  match v with
  | .agg cs => iteN (Nat.beq cs.toList.length n) (Option.rec (motive := fun _ => RR) d (fun h => outK next (some a.block) h fun tr _ => k tr) (wr low ⟨next, tr⟩ a cs.toList)) d
  | .tuple _ => d
  | v => iteN (Nat.beq 1 n) (wr1K low tr next a v k d) d
noncomputable def sC_a (_ : Array Value) (low : Lw) (tr : Tr AObj) (next : Nat) (n : Nat) (a : Addr) (v : Value) (k : Tr AObj → RR) (d : RR) : RR := storeK low tr next n a v k d
abbrev TSt := Lw → Tr AObj → Nat → Nat → Addr → Value → (Tr AObj → RR) → RR → RR
noncomputable def storeC (low : Lw) (tr : Tr AObj) (next : Nat) (n : Nat) (a : Addr) (v : Value) (k : Tr AObj → RR) (d : RR) : RR :=
  Value.casesOn (motive_1 := fun _ => TSt) v (fun _ => sC_o) (fun _ _ => sC_o) (fun _ _ => sC_o) (fun _ _ _ => sC_o) (fun _ => sC_o) (fun _ => sC_o) (fun _ _ _ => sC_o) (fun _ => sC_o) (fun _ => sC_o) (fun _ _ _ => sC_o) sC_o (fun _ _ => sC_o) sC_o sC_a sC_t low tr next n a v k d
noncomputable def c_stc (next : Nat) (k : KO) (tr : Tr AObj) : RR := k undef tr next []
noncomputable def c_stb (low : Lw) (tr : Tr AObj) (next : Nat) (k : KO) (d : RR) (n : Nat) (a : Addr) (v : Value) : RR := storeC low tr next n a v (c_stc next k) d
noncomputable def c_sta (low : Lw) (env : Tr Value) (tr : Tr AObj) (next : Nat) (k : KO) (d : RR) (n : Nat) (v : FO) (a : Addr) : RR := evC v env (c_stb low tr next k d n a)
noncomputable def c_st0 (low : Lw) (env : Tr Value) (tr : Tr AObj) (next : Nat) (k : KO) (d : RR) (n : Nat) (v : FO) (p : Value) : RR := ptrK p (c_sta low env tr next k d n v) d
noncomputable def c_store (n : Nat) (x v : FO) (_ : Ty) (_ : Rec) (low : Lw) (_ : List ADef) (_ : Option Nat) (env : Tr Value) (tr : Tr AObj) (next : Nat) (_ : Oper) (k : KO) (d : RR) : RR := evC x env (c_st0 low env tr next k d n v)
noncomputable def load1_k (d : RR) (k : Value → RR) (cs : List Value) (off : Nat) : RR := nthKv d cs off k
noncomputable def load1K (tr : Tr AObj) (next : Nat) (a : Addr) (k : Value → RR) (d : RR) : RR := cellsK tr next a 1 (load1_k d k) d
noncomputable def c_l1b (tr : Tr AObj) (next : Nat) (k : KO) (d : RR) (a : Addr) : RR := load1K tr next a (k0 tr next k) d
noncomputable def c_l1a (tr : Tr AObj) (next : Nat) (k : KO) (d : RR) (p : Value) : RR := ptrK p (c_l1b tr next k d) d
noncomputable def c_load1 (x : FO) (_ : Ty) (_ : Rec) (_ : Lw) (_ : List ADef) (_ : Option Nat) (env : Tr Value) (tr : Tr AObj) (next : Nat) (_ : Oper) (k : KO) (d : RR) : RR := evC x env (c_l1a tr next k d)
noncomputable def addK (a : Addr) (n : Nat) (k : Addr → RR) : RR := Addr.rec (motive := fun _ => RR) (fun b o s => fN (Nat.add o n) fun o => k ⟨b, o, s⟩) a
noncomputable def kp (tr : Tr AObj) (next : Nat) (k : KO) (a : Addr) : RR := k (.pointer (some a)) tr next []
noncomputable def c_fa2 (tr : Tr AObj) (next : Nat) (k : KO) (off : Nat) (a : Addr) : RR := addK a off (kp tr next k)
noncomputable def c_fa1 (tr : Tr AObj) (next : Nat) (k : KO) (d : RR) (off : Nat) (x : Value) : RR := ptrK x (c_fa2 tr next k off) d
noncomputable def c_fAddr (off : Nat) (x : FO) (_ : Ty) (_ : Rec) (_ : Lw) (_ : List ADef) (_ : Option Nat) (env : Tr Value) (tr : Tr AObj) (next : Nat) (_ : Oper) (k : KO) (d : RR) : RR := evC x env (c_fa1 tr next k d off)
noncomputable def natK_d (_ : Nat → RR) (d : RR) : RR := d
noncomputable def natK_n (_ : Nat) (_ : Nat → RR) (d : RR) : RR := d
noncomputable def natK_o (n : Nat) (k : Nat → RR) (_ : RR) : RR := k n
noncomputable def natK_y (_ : IntKind) (n : Int) (k : Nat → RR) (d : RR) : RR := Int.rec (motive := fun _ => (Nat → RR) → RR → RR) natK_o natK_n n k d
noncomputable def natK (v : Value) (k : Nat → RR) (d : RR) : RR := Value.casesOn (motive_1 := fun _ => (Nat → RR) → RR → RR) v (fun _ => natK_d) natK_y (fun _ _ => natK_d) (fun _ _ _ => natK_d) (fun _ => natK_d) (fun _ => natK_d) (fun _ _ _ => natK_d) (fun _ => natK_d) (fun _ => natK_d) (fun _ _ _ => natK_d) natK_d (fun _ _ => natK_d) natK_d (fun _ => natK_d) (fun _ => natK_d) k d
noncomputable def x_idxA (env : Tr Value) (tr : Tr AObj) (next : Nat) (k : KO) (d : RR) (e n : Nat) (x i : FO) : RR :=
  ev env i fun i => natK i (fun i => ev env x fun x => ptrK x (fun a => iteN (Nat.ble (Nat.succ i) n) (addK a (Nat.mul i e) fun a => k (.pointer (some a)) tr next []) d) d) d
noncomputable def c_idxA (e n : Nat) (x i : FO) (_ : Ty) (_ : Rec) (_ : Lw) (_ : List ADef) (_ : Option Nat) (env : Tr Value) (tr : Tr AObj) (next : Nat) (_ : Oper) (k : KO) (d : RR) : RR := x_idxA env tr next k d e n x i
noncomputable def slcK_y (a : Option Addr) (n c : Nat) (k : Option Addr → Nat → Nat → RR) (_ : RR) : RR := k a n c
noncomputable def slcK_d (_ : Option Addr → Nat → Nat → RR) (d : RR) : RR := d
noncomputable def slcK (v : Value) (k : Option Addr → Nat → Nat → RR) (d : RR) : RR := Value.casesOn (motive_1 := fun _ => (Option Addr → Nat → Nat → RR) → RR → RR) v (fun _ => slcK_d) (fun _ _ => slcK_d) (fun _ _ => slcK_d) (fun _ _ _ => slcK_d) (fun _ => slcK_d) (fun _ => slcK_d) slcK_y (fun _ => slcK_d) (fun _ => slcK_d) (fun _ _ _ => slcK_d) slcK_d (fun _ _ => slcK_d) slcK_d (fun _ => slcK_d) (fun _ => slcK_d) k d
noncomputable def x_lenS (env : Tr Value) (tr : Tr AObj) (next : Nat) (k : KO) (d : RR) (x : FO) : RR :=
  ev env x fun x => slcK x (fun _ n _ => k (.int .i64 (.ofNat n)) tr next []) d
noncomputable def c_lenS (x : FO) (_ : Ty) (_ : Rec) (_ : Lw) (_ : List ADef) (_ : Option Nat) (env : Tr Value) (tr : Tr AObj) (next : Nat) (_ : Oper) (k : KO) (d : RR) : RR := x_lenS env tr next k d x
noncomputable def smallK (kd : IntKind) (s : Nat) (slow : RR) (k : Value → RR) : RR := iteN (Nat.ble (Nat.succ s) (lim kd)) (fN s fun s => k (.int kd (.ofNat s))) slow
noncomputable def convK (kd : IntKind) (x : Value) (k : Value → RR) (d : RR) : RR := match x with
  | .int _ (.ofNat m) => smallK kd m (fI (wrapK kd (.ofNat m)) fun n => k (.int kd n)) k
  | .int _ (.negSucc m) => fI (wrapK kd (.negSucc m)) fun n => k (.int kd n)
  | _ => d
noncomputable def c_cv (kd : IntKind) (tr : Tr AObj) (next : Nat) (k : KO) (d : RR) (x : Value) : RR := convK kd x (k0 tr next k) d
noncomputable def c_conv (kd : IntKind) (x : FO) (_ : Ty) (_ : Rec) (_ : Lw) (_ : List ADef) (_ : Option Nat) (env : Tr Value) (tr : Tr AObj) (next : Nat) (_ : Oper) (k : KO) (d : RR) : RR := evC x env (c_cv kd tr next k d)
noncomputable def c_pick1 (env : Tr Value) (tr : Tr AObj) (next : Nat) (k : KO) (d : RR) (a b : FO) (v : Value) : RR := boolC v (evC a env (k0 tr next k)) (evC b env (k0 tr next k)) d
noncomputable def c_pick (c a b : FO) (_ : Ty) (_ : Rec) (_ : Lw) (_ : List ADef) (_ : Option Nat) (env : Tr Value) (tr : Tr AObj) (next : Nat) (_ : Oper) (k : KO) (d : RR) : RR := evC c env (c_pick1 env tr next k d a b)
noncomputable def c_move (x : FO) (_ : Ty) (_ : Rec) (_ : Lw) (_ : List ADef) (_ : Option Nat) (env : Tr Value) (tr : Tr AObj) (next : Nat) (_ : Oper) (k : KO) (_ : RR) : RR := evC x env (k0 tr next k)
noncomputable def fV_nilIface (k : Value → RR) : RR := k .nilIface
noncomputable def fV_nilFunc (k : Value → RR) : RR := k .nilFunc
noncomputable def fV_pointer (a : Option Addr) (k : Value → RR) : RR := fOpta fA a fun a => k (.pointer a)
noncomputable def fV_complex (a : FloatKind) (b c : Nat) (k : Value → RR) : RR := k (.complex a b c)
noncomputable def fV_string (s : ByteArray) (k : Value → RR) : RR := fStr s fun s => k (.string s)
noncomputable def fV_tuple (cs : Array Value) (k : Value → RR) : RR := fArrv fV1 cs fun cs => k (.tuple cs)
noncomputable def fV_float (a : FloatKind) (b : Nat) (k : Value → RR) : RR := k (.float a b)
noncomputable def fV_slice (a : Option Addr) (l c : Nat) (k : Value → RR) : RR := fOpta fA a fun a => fN l fun l => fN c fun c => k (.slice a l c)
noncomputable def fV_iface (t : TypeId) (v : Value) (k : Value → RR) : RR := fN t fun t => fV1 v fun v => k (.iface t v)
noncomputable def fV_chan (r : Option Nat) (k : Value → RR) : RR := k (.chan r)
noncomputable def fV_bool (b : Bool) (k : Value → RR) : RR := fB b fun b => k (.bool b)
noncomputable def fV_func (f : Fn) (a b : Array Value) (k : Value → RR) : RR := fArrv fV1 a fun a => fArrv fV1 b fun b => k (.func f a b)
noncomputable def fV_map (r : Option Nat) (k : Value → RR) : RR := k (.map r)
noncomputable def fV_agg (cs : Array Value) (k : Value → RR) : RR := fArrv fV0 cs fun cs => k (.agg cs)
noncomputable def fV_int (i : IntKind) (n : Int) (k : Value → RR) : RR := fK i fun i => fI n fun n => k (.int i n)
noncomputable def fV (v : Value) (k : Value → RR) : RR :=
  Value.casesOn (motive_1 := fun _ => (Value → RR) → RR) v fV_bool fV_int fV_float fV_complex fV_string fV_pointer fV_slice fV_map fV_chan fV_func fV_nilFunc fV_iface fV_nilIface fV_agg fV_tuple k
noncomputable def x_slow (L : Ty) (r : Rec) (low : Lw) (ds : List ADef) (ro : Option Nat) (env : Tr Value) (tr : Tr AObj) (next : Nat) (k : KO) (d : RR) (o : Oper) (hint : Option FO) : RR :=
  Option.rec (motive := fun _ => RR) d (fun x => Prod.rec (motive := fun _ => RR) (fun v x => Prod.rec (motive := fun _ => RR) (fun h ds => fV v fun v =>
    Option.rec (motive := fun _ => RR) (outK next none h fun tr next => k v tr next ds) (fun x => ev env x fun x => outK next (hintOf x) h fun tr next => k v tr next ds) hint) x) x) (opV L r low ⟨⟨env⟩, ds, ro⟩ ⟨next, tr⟩ o)
noncomputable def c_slow (hint : Option FO) (L : Ty) (r : Rec) (low : Lw) (ds : List ADef) (ro : Option Nat) (env : Tr Value) (tr : Tr AObj) (next : Nat) (o : Oper) (k : KO) (d : RR) : RR := x_slow L r low ds ro env tr next k d o hint
noncomputable def gotK (x : Option (Value × AH)) (k : KO) (d : RR) : RR :=
  Option.rec (motive := fun _ => RR) d (fun x => Prod.rec (motive := fun _ => RR) (fun v h => AH.rec (motive := fun _ => RR) (fun next tr => k v tr next []) h) x) x
noncomputable def appKv (l : List Value) : List Value → (List Value → RR) → RR :=
  List.rec (motive := fun _ => List Value → (List Value → RR) → RR) (fun m k => k m) (fun a _ ih m k => ih m fun l => k (a :: l)) l
noncomputable def callK (r : Rec) (low : Lw) (tr : Tr AObj) (next : Nat) (k : KO) (d : RR) (fv : Value) (args : List Value) : RR :=
  match fv with
  | .func (.func g) first cap => appKv args cap.toList fun l => appKv first.toList l fun l => gotK (r.call low g l ⟨next, tr⟩) k d
  | .func (.yield l) first cap => iteN (first.toList.isEmpty && cap.toList.isEmpty) (gotK (yieldFF r low l args next tr) k d) d
  | _ => d
noncomputable def evs (env : Tr Value) (l : List FO) : (List Value → RR) → RR :=
  List.rec (motive := fun _ => (List Value → RR) → RR) (fun k => k []) (fun x _ ih k => ev env x fun v => ih fun vs => k (v :: vs)) l
noncomputable def x_call (r : Rec) (low : Lw) (env : Tr Value) (tr : Tr AObj) (next : Nat) (k : KO) (d : RR) (f : FO) (args : List FO) : RR :=
  ev env f fun f => evs env args fun args => callK r low tr next k d f args
noncomputable def c_call (f : FO) (args : List FO) (_ : Ty) (r : Rec) (low : Lw) (_ : List ADef) (_ : Option Nat) (env : Tr Value) (tr : Tr AObj) (next : Nat) (_ : Oper) (k : KO) (d : RR) : RR := x_call r low env tr next k d f args
noncomputable def c_iss (a : Addr) (tr : Tr AObj) (next : Nat) (k : KO) (d : RR) (e i n : Nat) : RR := iteN (Nat.ble (Nat.succ i) n) (addK a (Nat.mul i e) (kp tr next k)) d
noncomputable def c_isn (_ : Tr AObj) (_ : Nat) (_ : KO) (d : RR) (_ _ _ : Nat) : RR := d
noncomputable def c_isd (tr : Tr AObj) (next : Nat) (k : KO) (d : RR) (e i : Nat) (a : Option Addr) (n _ : Nat) : RR := Option.rec (motive := fun _ => Tr AObj → Nat → KO → RR → Nat → Nat → Nat → RR) c_isn c_iss a tr next k d e i n
noncomputable def c_isc (tr : Tr AObj) (next : Nat) (k : KO) (d : RR) (e i : Nat) (x : Value) : RR := slcK x (c_isd tr next k d e i) d
noncomputable def c_isb (env : Tr Value) (tr : Tr AObj) (next : Nat) (k : KO) (d : RR) (e : Nat) (x : FO) (i : Nat) : RR := evC x env (c_isc tr next k d e i)
noncomputable def c_isa (env : Tr Value) (tr : Tr AObj) (next : Nat) (k : KO) (d : RR) (e : Nat) (x : FO) (i : Value) : RR := natK i (c_isb env tr next k d e x) d
noncomputable def c_idxS (e : Nat) (x i : FO) (_ : Ty) (_ : Rec) (_ : Lw) (_ : List ADef) (_ : Option Nat) (env : Tr Value) (tr : Tr AObj) (next : Nat) (_ : Oper) (k : KO) (d : RR) : RR := evC i env (c_isa env tr next k d e x)
noncomputable def slowBin (L : Ty) (op : BinOp) (t : TypeId) (x y : Value) (k : Value → RR) (d : RR) : RR :=
  Option.rec (motive := fun _ => RR) d (fun v => fV v k) (binV L op t x y)
noncomputable def fb_andNot (k1 : IntKind) (m n : Nat) (same : Bool) (slow : RR) (k : Value → RR) : RR := slow
noncomputable def fb_geq (k1 : IntKind) (m n : Nat) (same : Bool) (slow : RR) (k : Value → RR) : RR := iteN same (fB (Nat.ble n m) fun b => k (.bool b)) slow
noncomputable def fb_add (k1 : IntKind) (m n : Nat) (same : Bool) (slow : RR) (k : Value → RR) : RR := iteN same (smallK k1 (Nat.add m n) slow k) slow
noncomputable def fb_and (k1 : IntKind) (m n : Nat) (same : Bool) (slow : RR) (k : Value → RR) : RR := iteN same (iteN (Nat.ble (Nat.succ m) (lim k1)) (iteN (Nat.ble (Nat.succ n) (lim k1)) (fN (Nat.land m n) fun s => k (.int k1 (.ofNat s))) slow) slow) slow
noncomputable def fb_shl (k1 : IntKind) (m n : Nat) (same : Bool) (slow : RR) (k : Value → RR) : RR := iteN (Nat.ble n k1.bits) (smallK k1 (Nat.mul m (Nat.pow 2 n)) slow k) slow
noncomputable def fb_shr (k1 : IntKind) (m n : Nat) (same : Bool) (slow : RR) (k : Value → RR) : RR := iteN (Nat.ble n k1.bits) (fN (Nat.div m (Nat.pow 2 n)) fun s => k (.int k1 (.ofNat s))) slow
noncomputable def fb_rem (k1 : IntKind) (m n : Nat) (same : Bool) (slow : RR) (k : Value → RR) : RR := iteN same (iteN (Nat.beq n 0) slow (fN (Nat.mod m n) fun s => k (.int k1 (.ofNat s)))) slow
noncomputable def fb_leq (k1 : IntKind) (m n : Nat) (same : Bool) (slow : RR) (k : Value → RR) : RR := iteN same (fB (Nat.ble m n) fun b => k (.bool b)) slow
noncomputable def fb_lss (k1 : IntKind) (m n : Nat) (same : Bool) (slow : RR) (k : Value → RR) : RR := iteN same (fB (Nat.ble (Nat.succ m) n) fun b => k (.bool b)) slow
noncomputable def fb_mul (k1 : IntKind) (m n : Nat) (same : Bool) (slow : RR) (k : Value → RR) : RR := iteN same (smallK k1 (Nat.mul m n) slow k) slow
noncomputable def fb_quo (k1 : IntKind) (m n : Nat) (same : Bool) (slow : RR) (k : Value → RR) : RR := iteN same (iteN (Nat.beq n 0) slow (smallK k1 (Nat.div m n) slow k)) slow
noncomputable def fb_xor (k1 : IntKind) (m n : Nat) (same : Bool) (slow : RR) (k : Value → RR) : RR := iteN same (iteN (Nat.ble (Nat.succ m) (lim k1)) (iteN (Nat.ble (Nat.succ n) (lim k1)) (fN (Nat.xor m n) fun s => k (.int k1 (.ofNat s))) slow) slow) slow
noncomputable def fb_gtr (k1 : IntKind) (m n : Nat) (same : Bool) (slow : RR) (k : Value → RR) : RR := iteN same (fB (Nat.ble (Nat.succ n) m) fun b => k (.bool b)) slow
noncomputable def fb_neq (k1 : IntKind) (m n : Nat) (same : Bool) (slow : RR) (k : Value → RR) : RR := iteN same (fB (Nat.beq m n) fun b => k (.bool (Bool.rec (motive := fun _ => Bool) true false b))) slow
noncomputable def fb_sub (k1 : IntKind) (m n : Nat) (same : Bool) (slow : RR) (k : Value → RR) : RR := iteN same (iteN (Nat.ble n m) (smallK k1 (Nat.sub m n) slow k) slow) slow
noncomputable def fb_eql (k1 : IntKind) (m n : Nat) (same : Bool) (slow : RR) (k : Value → RR) : RR := iteN same (fB (Nat.beq m n) fun b => k (.bool b)) slow
noncomputable def fb_or (k1 : IntKind) (m n : Nat) (same : Bool) (slow : RR) (k : Value → RR) : RR := iteN same (iteN (Nat.ble (Nat.succ m) (lim k1)) (iteN (Nat.ble (Nat.succ n) (lim k1)) (fN (Nat.lor m n) fun s => k (.int k1 (.ofNat s))) slow) slow) slow
noncomputable def fastBin (op : BinOp) (k1 : IntKind) (m n : Nat) (same : Bool) (slow : RR) (k : Value → RR) : RR :=
  BinOp.rec (motive := fun _ => IntKind → Nat → Nat → Bool → RR → (Value → RR) → RR) fb_add fb_sub fb_mul fb_quo fb_rem fb_and fb_or fb_xor fb_shl fb_shr fb_andNot fb_eql fb_neq fb_lss fb_leq fb_gtr fb_geq op k1 m n same slow k
noncomputable def bk_2 (L : Ty) (op : BinOp) (t : TypeId) (k1 : IntKind) (m : Nat) (k : Value → RR) (d : RR) (k2 : IntKind) (n : Nat) : RR :=
  fastBin op k1 m n (Nat.beq (kix k1) (kix k2)) (slowBin L op t (.int k1 (.ofNat m)) (.int k2 (.ofNat n)) k d) k
noncomputable def ib_o (n : Nat) (i : IntKind) (k : IntKind → Nat → RR) (_ : RR) : RR := k i n
noncomputable def ib_n (_ : Nat) (_ : IntKind) (_ : IntKind → Nat → RR) (d : RR) : RR := d
noncomputable def ib_y (i : IntKind) (n : Int) (k : IntKind → Nat → RR) (d : RR) : RR := Int.rec (motive := fun _ => IntKind → (IntKind → Nat → RR) → RR → RR) ib_o ib_n n i k d
noncomputable def ib_d (_ : IntKind → Nat → RR) (d : RR) : RR := d
noncomputable def ib (v : Value) (k : IntKind → Nat → RR) (d : RR) : RR := Value.casesOn (motive_1 := fun _ => (IntKind → Nat → RR) → RR → RR) v (fun _ => ib_d) ib_y (fun _ _ => ib_d) (fun _ _ _ => ib_d) (fun _ => ib_d) (fun _ => ib_d) (fun _ _ _ => ib_d) (fun _ => ib_d) (fun _ => ib_d) (fun _ _ _ => ib_d) ib_d (fun _ _ => ib_d) ib_d (fun _ => ib_d) (fun _ => ib_d) k d
noncomputable def bk_1 (L : Ty) (op : BinOp) (t : TypeId) (c : Bool) (x y : Value) (k : Value → RR) (d : RR) (k1 : IntKind) (m : Nat) : RR :=
  ib y (bk_2 L op t k1 m k d) (iteN (nilP c x y) (slowBin L op t x y k d) d)
noncomputable def binK (L : Ty) (op : BinOp) (t : TypeId) (c : Bool) (x y : Value) (k : Value → RR) (d : RR) : RR :=
  ib x (bk_1 L op t c x y k d) (iteN (nilP c x y) (slowBin L op t x y k d) d)
noncomputable def c_bb (L : Ty) (tr : Tr AObj) (next : Nat) (k : KO) (d : RR) (op : BinOp) (t : TypeId) (c : Bool) (x y : Value) : RR := binK L op t c x y (k0 tr next k) d
noncomputable def c_ba (L : Ty) (env : Tr Value) (tr : Tr AObj) (next : Nat) (k : KO) (d : RR) (op : BinOp) (t : TypeId) (c : Bool) (y : FO) (x : Value) : RR := evC y env (c_bb L tr next k d op t c x)
noncomputable def c_bin (op : BinOp) (t : TypeId) (c : Bool) (x y : FO) (L : Ty) (_ : Rec) (_ : Lw) (_ : List ADef) (_ : Option Nat) (env : Tr Value) (tr : Tr AObj) (next : Nat) (_ : Oper) (k : KO) (d : RR) : RR := evC x env (c_ba L env tr next k d op t c y)
noncomputable def gen_out (next : Nat) (hint : Option FO) (env : Tr Value) (h : AH) (k : Tr AObj → Nat → RR) : RR :=
  Option.rec (motive := fun _ => RR) (outK next none h k) (fun x => ev env x fun x => outK next (hintOf x) h k) hint
noncomputable def gen_v (next : Nat) (hint : Option FO) (env : Tr Value) (h : AH) (k : KO) (v : Value) : RR := gen_out next hint env h fun tr next => k v tr next []
noncomputable def gen_r (L : Ty) (r : Rec) (low : Lw) (ds : List ADef) (ro : Option Nat) (env : Tr Value) (tr : Tr AObj) (next : Nat) (k : KO) (d : RR) (o : Oper) (hint : Option FO) (x : ARes) : RR :=
  ARes.rec (motive := fun _ => RR) (fun v h => fV v (gen_v next hint env h k)) (fun h => gen_out next hint env h fun tr next => k undef tr next [])
    (fun _ _ => x_slow L r low ds ro env tr next k d o hint) (fun _ _ => x_slow L r low ds ro env tr next k d o hint) (fun _ _ => x_slow L r low ds ro env tr next k d o hint) x
noncomputable def x_gen (L : Ty) (r : Rec) (low : Lw) (ds : List ADef) (ro : Option Nat) (env : Tr Value) (tr : Tr AObj) (next : Nat) (k : KO) (d : RR) (o : Oper) (a : Ty → Lw → (Operand → Value) → AH → Option ARes) (hint : Option FO) : RR :=
  Option.rec (motive := fun _ => RR) d (gen_r L r low ds ro env tr next k d o hint) (a L low (rhoC env) ⟨next, tr⟩)
noncomputable def c_gen (a : Ty → Lw → (Operand → Value) → AH → Option ARes) (hint : Option FO) (L : Ty) (r : Rec) (low : Lw) (ds : List ADef) (ro : Option Nat) (env : Tr Value) (tr : Tr AObj) (next : Nat) (o : Oper) (k : KO) (d : RR) : RR := x_gen L r low ds ro env tr next k d o a hint
noncomputable def x_inv (L : Ty) (r : Rec) (low : Lw) (env : Tr Value) (tr : Tr AObj) (next : Nat) (k : KO) (d : RR) (x : FO) (m : String) (args : List FO) : RR :=
  ev env x fun x => evs env args fun args => match x with
    | .iface t v => Option.rec (motive := fun _ => RR) d (fun f => gotK (r.call low f (v :: args) ⟨next, tr⟩) k d) (L.meth t m)
    | _ => d
noncomputable def c_inv (x : FO) (m : String) (args : List FO) (L : Ty) (r : Rec) (low : Lw) (_ : List ADef) (_ : Option Nat) (env : Tr Value) (tr : Tr AObj) (next : Nat) (_ : Oper) (k : KO) (d : RR) : RR := x_inv L r low env tr next k d x m args
abbrev TX := Ty → Rec → Lw → List ADef → Option Nat → Tr Value → Tr AObj → Nat → Oper → KO → RR → RR
noncomputable def exC (f : FOp) (L : Ty) (r : Rec) (low : Lw) (ds : List ADef) (ro : Option Nat) (env : Tr Value) (tr : Tr AObj) (next : Nat) (o : Oper) (k : KO) (d : RR) : RR :=
  FOp.rec (motive := fun _ => TX) c_move c_pick c_load1 c_loadN c_store c_bin c_idxS c_idxA c_fAddr c_field1 c_fieldN c_extract c_lenS c_conv c_call c_inv c_slow c_gen f L r low ds ro env tr next o k d
noncomputable def oc_op (dst : Option Pth) (g : FG) (op : FOp) (src : Oper) (_ : Bool) (ih : TL) (L : Ty) (r : Rec) (low : Lw) (ro : Option Nat) (d : RR) (env : Tr Value) (ds : List ADef) (tr : Tr AObj) (next : Nat) (k : TC) : RR :=
  guardC g env (exC op L r low ds ro env tr next src (oc_k1 ih L r low ro d env dst ds k) d) (dstC dst env undef (oc_sk ih L r low ro d ds tr next k))
noncomputable def oc_cons (o : FOper) (_ : List FOper) (ih : TL) (L : Ty) (r : Rec) (low : Lw) (ro : Option Nat) (d : RR) (env : Tr Value) (ds : List ADef) (tr : Tr AObj) (next : Nat) (k : TC) : RR :=
  FOper.rec (motive := fun _ => TL → TL) oc_op o ih L r low ro d env ds tr next k
noncomputable def oc_nil (_ : Ty) (_ : Rec) (_ : Lw) (_ : Option Nat) (_ : RR) (env : Tr Value) (ds : List ADef) (tr : Tr AObj) (next : Nat) (k : TC) : RR := k env ds tr next
noncomputable def opsC (l : List FOper) : TL := List.rec (motive := fun _ => TL) oc_nil oc_cons l
noncomputable def nilDs (ds : List ADef) (a b : RR) : RR := List.rec (motive := fun _ => RR) a (fun _ _ _ => b) ds
noncomputable def x_extract (env : Tr Value) (tr : Tr AObj) (next : Nat) (k : KO) (d : RR) (x : FO) (i : Nat) : RR :=
  ev env x fun x => tupK x (fun l => nthKv d l i fun v => k v tr next []) d
noncomputable def x_field1 (env : Tr Value) (tr : Tr AObj) (next : Nat) (k : KO) (d : RR) (off : Nat) (x : FO) : RR :=
  ev env x fun x => aggK x (fun l => nthKv d l off fun v => k v tr next []) d
noncomputable def x_store (low : Lw) (env : Tr Value) (tr : Tr AObj) (next : Nat) (k : KO) (d : RR) (n : Nat) (x v : FO) : RR :=
  ev env x fun p => ptrK p (fun a => ev env v fun v => storeK low tr next n a v (fun tr => k undef tr next []) d) d
noncomputable def x_loadN (env : Tr Value) (tr : Tr AObj) (next : Nat) (k : KO) (d : RR) (n : Nat) (x : FO) : RR :=
  ev env x fun p => ptrK p (fun a => loadNK tr next a n (fun l => k (.agg ⟨l⟩) tr next []) d) d
noncomputable def x_load1 (env : Tr Value) (tr : Tr AObj) (next : Nat) (k : KO) (d : RR) (x : FO) : RR :=
  ev env x fun p => ptrK p (fun a => load1K tr next a (fun v => k v tr next []) d) d
noncomputable def x_fAddr (env : Tr Value) (tr : Tr AObj) (next : Nat) (k : KO) (d : RR) (off : Nat) (x : FO) : RR :=
  ev env x fun x => ptrK x (fun a => addK a off fun a => k (.pointer (some a)) tr next []) d
noncomputable def x_conv (env : Tr Value) (tr : Tr AObj) (next : Nat) (k : KO) (d : RR) (kd : IntKind) (x : FO) : RR :=
  ev env x fun x => convK kd x (fun v => k v tr next []) d
noncomputable def x_idxS (env : Tr Value) (tr : Tr AObj) (next : Nat) (k : KO) (d : RR) (e : Nat) (x i : FO) : RR :=
  ev env i fun i => natK i (fun i => ev env x fun x => slcK x (fun a n _ => Option.rec (motive := fun _ => RR) d (fun a => iteN (Nat.ble (Nat.succ i) n) (addK a (Nat.mul i e) fun a => k (.pointer (some a)) tr next []) d) a) d) d
noncomputable def boolK (v : Value) (a b d : RR) : RR := match v with
  | .bool b' => Bool.rec (motive := fun _ => RR) b a b'
  | _ => d
noncomputable def x_pick (env : Tr Value) (tr : Tr AObj) (next : Nat) (k : KO) (d : RR) (c a b : FO) : RR :=
  ev env c fun c => boolK c (ev env a fun v => k v tr next []) (ev env b fun v => k v tr next []) d
noncomputable def x_move (env : Tr Value) (tr : Tr AObj) (next : Nat) (k : KO) (x : FO) : RR := ev env x fun v => k v tr next []
noncomputable def x_bin (L : Ty) (env : Tr Value) (tr : Tr AObj) (next : Nat) (k : KO) (d : RR) (op : BinOp) (t : TypeId) (c : Bool) (x y : FO) : RR :=
  ev env x fun x => ev env y fun y => binK L op t c x y (fun v => k v tr next []) d
noncomputable def exK (L : Ty) (r : Rec) (low : Lw) (ds : List ADef) (ro : Option Nat) (env : Tr Value) (tr : Tr AObj) (next : Nat) (o : Oper) (k : KO) (d : RR) (f : FOp) : RR :=
  FOp.rec (motive := fun _ => RR)
    (x_move env tr next k) (x_pick env tr next k d) (x_load1 env tr next k d) (x_loadN env tr next k d) (x_store low env tr next k d)
    (x_bin L env tr next k d) (x_idxS env tr next k d) (x_idxA env tr next k d) (x_fAddr env tr next k d) (x_field1 env tr next k d) (x_fieldN env tr next k d)
    (x_extract env tr next k d) (x_lenS env tr next k d) (x_conv env tr next k d) (x_call r low env tr next k d) (x_inv L r low env tr next k d) (x_slow L r low ds ro env tr next k d o) (x_gen L r low ds ro env tr next k d o) f
noncomputable def drawOneK (L : Ty) (r : Rec) (low : Lw) (ds : List ADef) (ro : Option Nat) (env : Tr Value) (tr : Tr AObj) (next : Nat) (fo : FOp) (src : Oper) (pu : Bool) (k : Kind → Value → Tr AObj → Nat → RR) (d : RR) : RR :=
  iteN pu (exK L r low ds ro env tr next src (fun v tr next ds => nilDs ds (k .pure v tr next) d) d fo)
    (Option.rec (motive := fun _ => RR)
      (exK L r (.up next) ds ro env tr next src (fun v tr next ds => nilDs ds (k .reads v tr next) d)
        (exK L r low ds ro env tr next src (fun v tr next ds => nilDs ds (k .writes v tr next) d) d fo) fo)
      (fun p => Prod.rec (motive := fun _ => RR) (fun Rs W => exK L r (.up next) ds ro env tr next src (fun v tr next ds => nilDs ds (k (.loc Rs none) v tr next) d)
        (Option.rec (motive := fun _ => RR) d (fun f => iteN (low.ok f) (iteN (nonRo ⟨next, tr⟩ f)
          (exK L r (.one f next) ds ro env tr next src (fun v tr next ds => nilDs ds (iteN (nonRo ⟨next, tr⟩ f) (k (.loc Rs (some f)) v tr next) d) d) d fo) d) d) W) fo) p)
      (localFp (Env.mk env).eval src.op))
noncomputable def guardK (env : Tr Value) (g : FG) (a b : RR) : RR :=
  FG.rec (motive := fun _ => RR) a b (fun p want => gPv b p env fun v => boolK v (Bool.rec (motive := fun _ => RR) b a want) (Bool.rec (motive := fun _ => RR) a b want) b) g
noncomputable def dstK (env : Tr Value) (dst : Option Pth) (v : Value) (k : Tr Value → RR) : RR := Option.rec (motive := fun _ => RR) (k env) (fun p => sPv p env v k) dst
noncomputable def drawFF (L : Ty) (r : Rec) (low : Lw) (ds : List ADef) (ro : Option Nat) (d : RR) (l : List FOper) :
    Tr Value → Tr AObj → Nat → (List Kind → Tr Value → Tr AObj → Nat → RR) → RR :=
  List.rec (motive := fun _ => Tr Value → Tr AObj → Nat → (List Kind → Tr Value → Tr AObj → Nat → RR) → RR) (fun env tr next k => k [] env tr next)
    (fun o _ ih env tr next k => FOper.rec (motive := fun _ => RR) (fun dst g op src pu =>
      guardK env g (drawOneK L r low ds ro env tr next op src pu (fun kd v tr next => dstK env dst v fun env => ih env tr next fun ks => k (kd :: ks)) d)
        (dstK env dst undef fun env => ih env tr next fun ks => k (.pure :: ks))) o) l

noncomputable def cc_ops (id : Nat) (ops : Array Oper) (p : Pr) (r : Rec) (low : Lw) (fr : Fr) (h : AH) : Option Out :=
  opsC (compF p.ty ops) p.ty r low fr.round none fr.env.tr fr.defers h.tr h.next (cc_fin fr.round)
noncomputable def cc_dk (ops : Array Oper) (fr : Fr) (ks : List Kind) (env : Tr Value) (tr : Tr AObj) (next : Nat) : Option Out := iteN (drawDynF ops ks) (some ⟨.normal, ⟨⟨env⟩, fr.defers, fr.round⟩, ⟨next, tr⟩⟩) none
noncomputable def cc_draw (id : Nat) (ops : Array Oper) (p : Pr) (r : Rec) (low : Lw) (fr : Fr) (h : AH) : Option Out :=
  drawFF p.ty r low fr.defers fr.round none (compF p.ty ops) fr.env.tr h.tr h.next (cc_dk ops fr)
noncomputable def cc_region (id : Nat) (ops : Array Oper) (d : Bool) (p : Pr) (r : Rec) (low : Lw) (fr : Fr) (h : AH) : Option Out := Bool.rec (motive := fun _ => Nat → Array Oper → TCo) cc_ops cc_draw d id ops p r low fr h
noncomputable def cc_ck (a b : Code) (r : Rec) (low : Lw) (fr : Fr) (h : AH) (v : Value) : Option Out := boolC v (r.code low a fr h) (r.code low b fr h) none
noncomputable def cc_cond (c : Operand) (a b : Code) (_ _ : TCo) (p : Pr) (r : Rec) (low : Lw) (fr : Fr) (h : AH) : Option Out := evC (foOf c) fr.env.tr (cc_ck a b r low fr h)
noncomputable def codeM (p : Pr) (r : Rec) (low : Lw) (c : Code) (fr : Fr) (h : AH) : Option Out :=
  Code.rec (motive := fun _ => TCo) cc_skip cc_region cc_seq cc_cond cc_block cc_loop cc_range cc_exit cc_scope cc_label cc_goto cc_ret cc_refuse c p r low fr h

theorem opsC_mo : @opsC = @Go.AM.opsC RR := by kernel_rfl
theorem drawFF_mo : @drawFF = @Go.AM.drawFF RR := by kernel_rfl
theorem codeM_eq (p : Pr) (r : Rec) (low : Lw) (c : Code) (fr : Fr) (h : AH) : codeM p r low c fr h = codeC p r low c fr h := by
  cases c
  case region id ops d =>
    cases d with
    | true =>
      show drawFF p.ty r low fr.defers fr.round none (compF p.ty ops) fr.env.tr h.tr h.next (cc_dk ops fr) = _
      rw [drawFF_mo]; rfl
    | false =>
      show opsC (compF p.ty ops) p.ty r low fr.round none fr.env.tr fr.defers h.tr h.next (cc_fin fr.round) = _
      rw [opsC_mo]; rfl
  case cond c a b => kernel_rfl
  all_goals kernel_rfl
noncomputable def recM (p : Pr) (n : Nat) : Rec := Nat.rec Rec.none (fun _ r => ⟨codeM p r, withinV r, callFF p r⟩) n
theorem recM_eq (p : Pr) : ∀ n, recM p n = recN p n
  | 0 => rfl
  | n + 1 => by
    show (⟨codeM p (recM p n), withinV (recM p n), callFF p (recM p n)⟩ : Rec) = stepRec p (recN p n)
    rw [recM_eq p n]
    unfold stepRec
    congr 1
    · funext low c fr h
      rw [codeM_eq, codeC_eq, codeFF_eq]
    · funext low f args h
      exact callFF_eq p _ low f args h
end Go.AM.Mo

