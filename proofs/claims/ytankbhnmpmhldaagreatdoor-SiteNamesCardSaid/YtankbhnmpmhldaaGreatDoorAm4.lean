/- An abstract machine for programs of this language, part 4: what it computes is what a call of the program does. Holds: AmW: code.; AmX: a range over a function; calls; the machine whole.; AmY: a range over a function; calls; the machine whole.; AmZ: the tables of a given program.; AmZ2: flat structs are equal field by field; the machine of a given program.; AmQuick: strict building blocks for runs within the kernel: forcing, paths, lists.. -/
import Derived.Test.YtankbhnmpmhldaaGreatDoorAm3
import Derived.RangeFuncIn
import Derived.RangeFuncLeaves
import Derived.DefersIn
import Derived.Laws.StructEq

set_option linter.unusedSectionVars false
set_option linter.unusedSimpArgs false
set_option linter.unusedVariables false

namespace Go.AM
variable {P : Program} {L : Ty}

structure Pr.Ok (p : Pr) (P : Program) : Prop where
  ty : p.ty.Ok P
  fn : ∀ f fn, p.fn f = some fn → P.funcs[f]? = some fn ∧ (fn.name == "runtime.NumGoroutine") = false ∧ ∀ c, fn.body = some c → codeOk fn.ntmps c = true
  mixed : P.follows .mixedOrders = true
  nat : ∀ f g, p.nat f = some g → ∀ r, SimRec P r → ∀ low args h v h', g r low args h = some (v, h') → low.le h.next → Callable P f ∧ AKept low h h' ∧
    ∀ F n μ w cs, Wd F → Rel μ h w → VsRel μ args cs → CallsIn F n P f ⟨cs⟩ w (KPost low μ w v h') ∧ CallsDIn F n P f ⟨cs⟩ .returning w (fun e u w' => u = .returning ∧ KPost low μ w v h' e w')

theorem findLabel_ok {N : Nat} : ∀ {c rest : Code} {l : Nat}, codeOk N c = true → findLabel c l = some rest → codeOk N rest = true
  | .seq a b, rest, l, h, hf => by
    simp only [codeOk, Bool.and_eq_true] at h
    unfold findLabel at hf
    cases ha : findLabel a l with
    | none => rw [ha] at hf; exact findLabel_ok h.2 hf
    | some ra =>
      rw [ha] at hf; cases hf
      simp only [codeOk, Bool.and_eq_true]
      exact ⟨findLabel_ok h.1 ha, h.2⟩
  | .label l', rest, l, h, hf => by
    unfold findLabel at hf; split at hf
    · cases hf; rfl
    · cases hf
  | .skip, _, _, _, hf => by simp [findLabel] at hf
  | .region .., _, _, _, hf => by simp [findLabel] at hf
  | .cond .., _, _, _, hf => by simp [findLabel] at hf
  | .block .., _, _, _, hf => by simp [findLabel] at hf
  | .loop .., _, _, _, hf => by simp [findLabel] at hf
  | .rangeFunc .., _, _, _, hf => by simp [findLabel] at hf
  | .exit .., _, _, _, hf => by simp [findLabel] at hf
  | .goto .., _, _, _, hf => by simp [findLabel] at hf
  | .ret, _, _, _, hf => by simp [findLabel] at hf
  | .scope .., _, _, _, hf => by simp [findLabel] at hf
  | .refuse .., _, _, _, hf => by simp [findLabel] at hf

theorem opV_kept {r : Rec} (hsim : SimRec P r) {low : Lw} {fr : Fr} {h h' : AH} {o : Oper} {v : Value} {ds : List ADef} (ho : opV L r low fr h o = some (v, h', ds)) (hlow : low.le h.next) : AKept low h h' := by
  unfold opV at ho
  cases ha : aop L low fr.env.eval h o.op with
  | none => rw [ha] at ho; simp at ho
  | some res =>
  rw [ha] at ho
  have hk := aop_kept ha
  cases res with
  | val v0 h0 => simp only [Option.some.injEq, Prod.mk.injEq] at ho; obtain ⟨rfl, rfl, rfl⟩ := ho; exact hk
  | skip h0 => simp only [Option.some.injEq, Prod.mk.injEq] at ho; obtain ⟨rfl, rfl, rfl⟩ := ho; exact hk
  | call f args =>
    dsimp only at ho
    cases hc : r.call low f args h with
    | none => rw [hc] at ho; simp at ho
    | some x =>
      rw [hc] at ho
      simp only [Option.some.injEq, Prod.mk.injEq] at ho
      obtain ⟨rfl, rfl, rfl⟩ := ho
      exact (hsim.call _ _ _ _ _ _ hc hlow).2.1
  | yield l args =>
    dsimp only at ho
    cases hc : yieldV r low l args h with
    | none => rw [hc] at ho; simp at ho
    | some x =>
      rw [hc] at ho
      simp only [Option.some.injEq, Prod.mk.injEq] at ho
      obtain ⟨rfl, rfl, rfl⟩ := ho
      exact (yield_sim hsim hc hlow).1
  | defer f args =>
    dsimp only at ho
    cases hro0 : fr.round with
    | some l => rw [hro0] at ho; simp at ho
    | none => rw [hro0] at ho; simp only [Option.some.injEq, Prod.mk.injEq] at ho; obtain ⟨rfl, rfl, rfl⟩ := ho; exact .refl _ _

theorem opsV_kept {r : Rec} (hsim : SimRec P r) {low : Lw} {ops : Array Oper} : ∀ (rest : List Oper) (fr : Fr) (h : AH) (fr' : Fr) (h' : AH), opsV L r low ops rest fr h = some (fr', h') → low.le h.next → AKept low h h' ∧ fr'.round = fr.round
  | [], fr, h, fr', h', he, _ => by
    simp only [opsV, Option.some.injEq, Prod.mk.injEq] at he
    obtain ⟨rfl, rfl⟩ := he
    exact ⟨.refl _ _, rfl⟩
  | o :: rest, fr, h, fr', h', he, hlow => by
    unfold opsV at he
    cases hg : guardV ops fr.env o with
    | true =>
      rw [hg] at he
      simp only [cond_true] at he
      cases ho : opV L r low fr h o with
      | none => rw [ho] at he; simp at he
      | some x =>
        obtain ⟨v, h1, ds⟩ := x
        rw [ho] at he
        have k1 := opV_kept hsim ho hlow
        obtain ⟨k2, k3⟩ := opsV_kept hsim rest _ _ _ _ he (Lw.le.mono hlow k1.next)
        exact ⟨k1.trans k2, k3⟩
    | false =>
      rw [hg] at he
      simp only [cond_false] at he
      have := opsV_kept (ops := ops) hsim rest { fr with env := fr.env.put o.dst undef } h _ _ he hlow; exact this

theorem drawOp_kept {r : Rec} (hsim : SimRec P r) {low : Lw} {fr : Fr} {h h' : AH} {o : Oper} {v : Value} {kd : Kind} (ho : drawOp L r low fr h o = some (kd, v, h')) (hlow : low.le h.next) : AKept low h h' := by
  have hup : ∀ g, (Lw.up h.next).ok g = true → low.ok g = true := fun g hg => hlow g (Nat.ble_eq.mp hg)
  rcases drawOp_cases ho with ⟨_, _, w3⟩ | ⟨R, W0, W, lw, _, _, w3, ⟨_, rfl⟩ | ⟨f, _, _, rfl, y1, _⟩⟩ | ⟨_, w3⟩ | ⟨_, w3⟩
  · exact opV_kept hsim w3 hlow
  · exact (opV_kept hsim w3 (Lw.le_up _)).low hup
  · refine (opV_kept hsim w3 (Lw.le_one _ _)).low fun g hg => ?_
    simp only [Lw.ok, Bool.or_eq_true] at hg
    rcases hg with hg | hg
    · rw [Nat.eq_of_beq_eq_true hg]; exact y1
    · exact hlow g (Nat.ble_eq.mp hg)
  · exact (opV_kept hsim w3 (Lw.le_up _)).low hup
  · exact opV_kept hsim w3 hlow

theorem drawV_kept {r : Rec} (hsim : SimRec P r) {low : Lw} {ops : Array Oper} : ∀ (rest : List Oper) (fr : Fr) (h : AH) (ks : List Kind) (fr' : Fr) (h' : AH), drawV L r low ops rest fr h = some (ks, fr', h') → low.le h.next → AKept low h h' ∧ fr'.round = fr.round
  | [], fr, h, ks, fr', h', he, _ => by
    simp only [drawV, Option.some.injEq, Prod.mk.injEq] at he
    obtain ⟨rfl, rfl, rfl⟩ := he
    exact ⟨.refl _ _, rfl⟩
  | o :: rest, fr, h, ks, fr', h', he, hlow => by
    unfold drawV at he
    cases hg : guardV ops fr.env o with
    | true =>
      rw [hg] at he
      simp only [cond_true] at he
      cases ho : drawOp L r low fr h o with
      | none => rw [ho] at he; simp at he
      | some x =>
        obtain ⟨k, v, h1⟩ := x
        rw [ho] at he
        dsimp only at he
        have k1 := drawOp_kept hsim ho hlow
        cases hd : drawV L r low ops rest { fr with env := fr.env.put o.dst v } h1 with
        | none => rw [hd] at he; simp at he
        | some y =>
          obtain ⟨ks1, fr1, h2⟩ := y
          rw [hd] at he
          simp only [Option.some.injEq, Prod.mk.injEq] at he
          obtain ⟨rfl, rfl, rfl⟩ := he
          obtain ⟨k2, k3⟩ := drawV_kept hsim rest _ _ _ _ _ hd (Lw.le.mono hlow k1.next)
          exact ⟨k1.trans k2, k3⟩
    | false =>
      rw [hg] at he
      simp only [cond_false] at he
      cases hd : drawV L r low ops rest { fr with env := fr.env.put o.dst undef } h with
      | none => rw [hd] at he; simp at he
      | some y =>
        obtain ⟨ks1, fr1, h2⟩ := y
        rw [hd] at he
        simp only [Option.some.injEq, Prod.mk.injEq] at he
        obtain ⟨rfl, rfl, rfl⟩ := he
        have := drawV_kept (ops := ops) hsim rest { fr with env := fr.env.put o.dst undef } h _ _ _ hd hlow
        exact this

/-- What a construct gives. -/
abbrev Gives (low : Lw) (fr : Fr) (h : AH) (out : Out) (ok : Nat → Prop) (W : Fence → Nat → (Exit → Act → World → Prop) → Act → World → Prop) : Prop :=
  AKept low h out.h ∧ out.fr.round = fr.round ∧ ∀ N F n μ w a, ok N → Wd F → RoundRel μ fr.round F.round → St μ fr h a w → N ≤ a.tmps.size → W F n (CPost low μ w out a.tmps.size) a w

theorem CPost.step {low : Lw} {μ : Mu} {w w' : World} {a' : Act} {out : Out} {sz : Nat} {e : Exit} {μ1 : Mu} {w1 : World}
    (hs : Step low μ μ1 w w1) (h : CPost low μ1 w1 out sz e a' w') : CPost low μ w out sz e a' w' := by
  obtain ⟨he, μ2, q1, q2, q3⟩ := h
  exact ⟨he, μ2, hs.trans q1, q2, q3⟩

section
variable {p : Pr} (hp : p.Ok P) {r : Rec} (hsim : SimRec P r)
include hp hsim

theorem region_sim {low : Lw} {id : Nat} {ops : Array Oper} {d : Bool} {fr : Fr} {h : AH} {out : Out} (he : codeV p r low (.region id ops d) fr h = some out) (hlow : low.le h.next) :
    Gives low fr h out (fun N => codeOk N (.region id ops d) = true) fun F n Q a w => (Code.region id ops d).wpIn F n P Q a w := by
  cases d with
  | false =>
    simp only [codeV] at he
    cases ho : opsV p.ty r low ops ops.toList fr h with
    | none => rw [ho] at he; simp at he
    | some x =>
      obtain ⟨fr1, h1⟩ := x
      rw [ho] at he
      simp only [Option.some.injEq] at he
      subst he
      obtain ⟨k1, k2⟩ := opsV_kept hsim _ _ _ _ _ ho hlow
      refine ⟨k1, k2, fun N F n μ w a hok hF hro hst hN => wpIn_region ?_⟩
      simp only [codeOk, Bool.and_eq_true] at hok
      obtain ⟨_, _, k3⟩ := opsV_sim hp.ty hsim ops.toList 0 fr h fr1 h1 (by simp) hok.1 ho hlow
      have := k3 F n μ w a (CPost low μ w ⟨.normal, fr1, h1⟩ a.tmps.size) hF hro hst hN fun μ' a' w' q1 q2 q3 => ⟨.normal, μ', q1, q2, q3⟩
      rw [List.range_eq_range']
      simpa using this
  | true =>
    simp only [codeV] at he
    cases ho : drawV p.ty r low ops ops.toList fr h with
    | none => rw [ho] at he; simp at he
    | some x =>
      obtain ⟨ks, fr1, h1⟩ := x
      rw [ho] at he
      dsimp only at he
      cases hd : drawDyn ops ks with
      | false => rw [hd] at he; simp at he
      | true =>
      rw [hd] at he
      simp only [cond_true, Option.some.injEq] at he
      subst he
      obtain ⟨k1, k2⟩ := drawV_kept hsim _ _ _ _ _ _ ho hlow
      refine ⟨k1, k2, fun N F n μ w a hok hF hro hst hN => wpIn_region_any hp.mixed ?_⟩
      simp only [codeOk, Bool.and_eq_true] at hok
      have hst' : drawStatic ops = true := by simpa using hok.2
      obtain ⟨_, _, k3⟩ := draw_sim hp.ty hsim hok.1 hst' ho hd hlow
      refine k3 F n μ _ a _ hF hro ⟨rd_draws hst.rel _, hst.env, hst.defs⟩ hN fun μ' a' w' q1 q2 q3 => ⟨.normal, μ', ?_, q2, q3⟩
      have h0 : Step low μ μ w { w with drawn := w.drawn + 1 } := ⟨⟨rfl, rfl, rfl, Nat.le_refl _, fun _ _ _ => rfl⟩, Mu.le_refl _, fun _ _ _ h => .inl h⟩
      exact h0.trans q1

theorem seq_sim {low : Lw} {c d : Code} {fr : Fr} {h : AH} {out : Out} (he : codeV p r low (.seq c d) fr h = some out) (hlow : low.le h.next) :
    Gives low fr h out (fun N => codeOk N (.seq c d) = true) fun F n Q a w => (Code.seq c d).wpIn F n P Q a w := by
  simp only [codeV] at he
  cases h1 : r.code low c fr h with
  | none => rw [h1] at he; simp at he
  | some o =>
    obtain ⟨ex, fr1, h1'⟩ := o
    obtain ⟨a1, a2, a3⟩ := hsim.code _ _ _ _ _ h1 hlow
    rw [h1] at he
    by_cases hx : ex = .normal
    · subst hx
      dsimp only at he
      obtain ⟨b1, b2, b3⟩ := hsim.code _ _ _ _ _ he (Lw.le.mono hlow a1.next)
      refine ⟨a1.trans b1, b2.trans a2, fun N F n μ w a hok hF hro hst hN => wpIn_seq ?_⟩
      simp only [codeOk, Bool.and_eq_true] at hok
      refine wpIn_mono (a3 N F n μ w a hok.1 hF hro hst hN) fun e a' w' ⟨he', μ1, q1, q2, q3⟩ => ?_
      cases he'
      refine wpIn_mono (b3 N F n μ1 w' a' hok.2 hF (by rw [show fr1.round = fr.round from a2]; exact hro.mono q1.sub) q2 (by omega)) fun e a'' w'' hq => ?_
      rw [q3] at hq
      exact hq.step q1
    · have : out = ⟨ex, fr1, h1'⟩ := by
        cases ex <;> first | exact (hx rfl).elim | (cases he; rfl)
      subst this
      refine ⟨a1, a2, fun N F n μ w a hok hF hro hst hN => wpIn_seq ?_⟩
      simp only [codeOk, Bool.and_eq_true] at hok
      refine wpIn_mono (a3 N F n μ w a hok.1 hF hro hst hN) fun e a' w' hq => ?_
      have he' := hq.1
      cases he' <;> first | exact (hx rfl).elim | exact hq

theorem cond_sim {low : Lw} {x : Operand} {c d : Code} {fr : Fr} {h : AH} {out : Out} (he : codeV p r low (.cond x c d) fr h = some out) (hlow : low.le h.next) :
    Gives low fr h out (fun N => codeOk N (.cond x c d) = true) fun F n Q a w => (Code.cond x c d).wpIn F n P Q a w := by
  simp only [codeV] at he
  split at he
  · rename_i hb
    obtain ⟨a1, a2, a3⟩ := hsim.code _ _ _ _ _ he hlow
    refine ⟨a1, a2, fun N F n μ w a hok hF hro hst hN => ?_⟩
    simp only [codeOk, Bool.and_eq_true] at hok
    have hv := eval_rel hst.env x hok.1.1
    rw [hb] at hv
    generalize hs : a.eval x = u at hv
    cases hv
    exact wpIn_cond_true hs (a3 N F n μ w a hok.1.2 hF hro hst hN)
  · rename_i hb
    obtain ⟨a1, a2, a3⟩ := hsim.code _ _ _ _ _ he hlow
    refine ⟨a1, a2, fun N F n μ w a hok hF hro hst hN => ?_⟩
    simp only [codeOk, Bool.and_eq_true] at hok
    have hv := eval_rel hst.env x hok.1.1
    rw [hb] at hv
    generalize hs : a.eval x = u at hv
    cases hv
    exact wpIn_cond_false hs (a3 N F n μ w a hok.2 hF hro hst hN)
  · cases he

theorem block_sim {low : Lw} {id : Nat} {c : Code} {fr : Fr} {h : AH} {out : Out} (he : codeV p r low (.block id c) fr h = some out) (hlow : low.le h.next) :
    Gives low fr h out (fun N => codeOk N (.block id c) = true) fun F n Q a w => (Code.block id c).wpIn F n P Q a w := by
  simp only [codeV] at he
  cases h1 : r.code low c fr h with
  | none => rw [h1] at he; simp at he
  | some o =>
    obtain ⟨ex, fr1, h1'⟩ := o
    obtain ⟨a1, a2, a3⟩ := hsim.code _ _ _ _ _ h1 hlow
    rw [h1] at he
    have key : out.fr = fr1 ∧ out.h = h1' ∧ ∀ e, ExitRel ex e → ∀ (Q : Exit → Act → World → Prop) a w, (∀ e', ExitRel out.exit e' → Q e' a w) → Exit.inBlock id Q e a w := by
      cases ex with
      | exit i =>
        dsimp only at he
        by_cases hi : i = id
        · subst hi
          simp only [Nat.beq_refl, cond_true, Option.some.injEq] at he
          subst he
          exact ⟨rfl, rfl, fun e hr Q a w hq => by cases hr; simp only [Exit.inBlock, if_true]; exact hq _ .normal⟩
        · simp only [beqF hi, cond_false, Option.some.injEq] at he
          subst he
          exact ⟨rfl, rfl, fun e hr Q a w hq => by cases hr; simp only [Exit.inBlock, if_neg hi]; exact hq _ (.exit i)⟩
      | normal => cases he; exact ⟨rfl, rfl, fun e hr Q a w hq => by cases hr; exact hq _ .normal⟩
      | goto l => cases he; exact ⟨rfl, rfl, fun e hr Q a w hq => by cases hr; exact hq _ (.goto l)⟩
      | ret => cases he; exact ⟨rfl, rfl, fun e hr Q a w hq => by cases hr; exact hq _ .ret⟩
    obtain ⟨e1, e2, e3⟩ := key
    refine ⟨by rw [e2]; exact a1, by rw [e1]; exact a2, fun N F n μ w a hok hF hro hst hN => wpIn_block ?_⟩
    simp only [codeOk] at hok
    refine wpIn_mono (a3 N F n μ w a hok hF hro hst hN) fun e a' w' ⟨he', μ1, q1, q2, q3⟩ => ?_
    exact e3 e he' _ _ _ fun e' hr => ⟨hr, μ1, q1, by rw [e1, e2]; exact q2, q3⟩

theorem loop_round {low : Lw} {c : Code} {fr : Fr} {h : AH} {out : Out} (he : codeV p r low (.loop c) fr h = some out) (hlow : low.le h.next) :
    Gives low fr h out (fun N => codeOk N c = true) fun F n Q a w => wpLoop F n P c Q a w := by
  simp only [codeV] at he
  cases h1 : r.code low c fr h with
  | none => rw [h1] at he; simp at he
  | some o =>
    obtain ⟨ex, fr1, h1'⟩ := o
    obtain ⟨a1, a2, a3⟩ := hsim.code _ _ _ _ _ h1 hlow
    rw [h1] at he
    by_cases hx : ex = .normal
    · subst hx
      dsimp only at he
      obtain ⟨b1, b2, _⟩ := hsim.code _ _ _ _ _ he (Lw.le.mono hlow a1.next)
      have b3 := hsim.loop _ _ _ _ _ he (Lw.le.mono hlow a1.next)
      refine ⟨a1.trans b1, b2.trans a2, fun N F n μ w a hok hF hro hst hN b k cs hb0 hb hr => ?_⟩
      obtain ⟨e, a', w', ⟨he', μ1, q1, q2, q3⟩, harr⟩ := a3 N F n μ w a hok hF hro hst hN b (.inLoop c :: k) cs hb0 hb hr
      cases he'
      obtain ⟨e2, a2', w2, hq, harr2⟩ := b3 N F n μ1 w' a' hok hF (by rw [show fr1.round = fr.round from a2]; exact hro.mono q1.sub) q2 (by omega) b k cs hb0 hb hr
      rw [q3] at hq
      exact ⟨e2, a2', w2, hq.step q1, .of_steps (StepsIn.trans harr (.one (fenced_calm hb hr rfl) stepR_inLoop)) harr2⟩
    · have : out = ⟨ex, fr1, h1'⟩ := by
        cases ex <;> first | exact (hx rfl).elim | (cases he; rfl)
      subst this
      refine ⟨a1, a2, fun N F n μ w a hok hF hro hst hN b k cs hb0 hb hr => ?_⟩
      obtain ⟨e, a', w', hq, harr⟩ := a3 N F n μ w a hok hF hro hst hN b (.inLoop c :: k) cs hb0 hb hr
      refine ⟨e, a', w', hq, .pass (x := .inLoop c) rfl (fun _ _ => .inl ?_) harr⟩
      have he' := hq.1
      cases he' <;> first | exact (hx rfl).elim | simp

theorem within_sim {low : Lw} {body c : Code} {fr : Fr} {h : AH} {out : Out} (he : withinV r low body c fr h = some out) (hlow : low.le h.next) :
    Gives low fr h out (fun N => codeOk N body = true ∧ codeOk N c = true) fun F n Q a w => wpWithin F n P body c Q a w := by
  unfold withinV at he
  cases h1 : r.code low c fr h with
  | none => rw [h1] at he; simp at he
  | some o =>
    obtain ⟨ex, fr1, h1'⟩ := o
    obtain ⟨a1, a2, a3⟩ := hsim.code _ _ _ _ _ h1 hlow
    rw [h1] at he
    -- a jump that goes on within
    by_cases hg : ∃ l rest, ex = .goto l ∧ findLabel body l = some rest
    · obtain ⟨l, rest, rfl, hf⟩ := hg
      dsimp only at he
      rw [hf] at he
      dsimp only at he
      obtain ⟨b1, b2, b3⟩ := hsim.within _ _ _ _ _ _ he (Lw.le.mono hlow a1.next)
      refine ⟨a1.trans b1, b2.trans a2, fun N F n μ w a hok hF hro hst hN b k cs hb0 hb hr => ?_⟩
      obtain ⟨e, a', w', ⟨he', μ1, q1, q2, q3⟩, harr⟩ := a3 N F n μ w a hok.2 hF hro hst hN b (.inScope body :: k) cs hb0 hb hr
      cases he'
      obtain ⟨e2, a2', w2, hq, harr2⟩ := b3 N F n μ1 w' a' hok.1 (findLabel_ok hok.1 hf) hF (by rw [show fr1.round = fr.round from a2]; exact hro.mono q1.sub) q2 (by omega) b k cs hb0 hb hr
      rw [q3] at hq
      exact ⟨e2, a2', w2, hq.step q1, .of_steps (harr.1 (.code rest :: .inScope body :: k) (by simp [gotoIn, hf])) harr2⟩
    · have : out = ⟨ex, fr1, h1'⟩ := by
        cases ex with
        | goto l =>
          dsimp only at he
          cases hf : findLabel body l with
          | none => rw [hf] at he; cases he; rfl
          | some rest => exact (hg ⟨l, rest, rfl, hf⟩).elim
        | normal => cases he; rfl
        | exit i => cases he; rfl
        | ret => cases he; rfl
      subst this
      refine ⟨a1, a2, fun N F n μ w a hok hF hro hst hN b k cs hb0 hb hr => ?_⟩
      obtain ⟨e, a', w', hq, harr⟩ := a3 N F n μ w a hok.2 hF hro hst hN b (.inScope body :: k) cs hb0 hb hr
      refine ⟨e, a', w', hq, ?_⟩
      have he' := hq.1
      cases he' with
      | normal => exact StepsIn.trans harr (.one (fenced_calm hb hr rfl) (step_lone_go (by simp [stepG, stepG.exec, Frame.atR])))
      | exit i => exact ⟨fun k' hk => harr.1 k' (by simp [exitTo, hk]), fun hr' hk => harr.2 hr' (by simp [exitTo, hk])⟩
      | ret => exact harr
      | goto l =>
        have hf : findLabel body l = none := by
          cases hf : findLabel body l with
          | none => rfl
          | some rest => exact (hg ⟨l, rest, rfl, hf⟩).elim
        have hx : gotoIn l (.inScope body :: k) = gotoIn l k := by simp [gotoIn, hf]
        exact ⟨fun k' hk => harr.1 k' (by rw [hx]; exact hk), fun hr' hk => harr.2 hr' (by rw [hx]; exact hk)⟩

theorem scope_sim {low : Lw} {c : Code} {fr : Fr} {h : AH} {out : Out} (he : codeV p r low (.scope c) fr h = some out) (hlow : low.le h.next) :
    Gives low fr h out (fun N => codeOk N (.scope c) = true) fun F n Q a w => (Code.scope c).wpIn F n P Q a w := by
  simp only [codeV] at he
  obtain ⟨a1, a2, a3⟩ := hsim.within _ _ _ _ _ _ he hlow
  refine ⟨a1, a2, fun N F n μ w a hok hF hro hst hN b k cs hb0 hb hr => ?_⟩
  simp only [codeOk] at hok
  obtain ⟨e, a', w', hq, harr⟩ := a3 N F n μ w a hok hok hF hro hst hN b k cs hb0 hb hr
  exact ⟨e, a', w', hq, .of_steps (.one (fenced_calm hb hr rfl) (step_lone_go (by simp [stepG, stepG.exec, Frame.atR]))) harr⟩
end
end Go.AM

namespace Go.AM
variable {P : Program} {L : Ty}

theorem loadVar_run (hL : L.Ok P) {μ : Mu} {h : AH} {w : World} (hr : Rel μ h w) {t : TypeId} {a' : Addr} {e : Nat} {Lc : Loc} {v : Value} (k1 : a'.spot = some e) (k2 : μ a'.block e = some Lc) (k3 : Lc.start ≤ a'.off) (hv : loadT L h t a' = some v) :
    ∃ c, (loadVar t (Lc.at a'.off)).run P w = .ok c w ∧ VRel μ v c := by
  unfold loadT at hv
  split at hv
  · rename_i hg
    split at hv
    · rename_i n hn
      obtain ⟨ti, hi1, hi2, _⟩ := hL.size hn
      cases hrd : rd h a' n with
      | none => simp [hrd] at hv
      | some vs =>
        simp only [hrd, Option.bind_some] at hv
        obtain ⟨l1, cs, l2, l3, _⟩ := hr.rd k1 k2 k3 hrd
        obtain ⟨c, m1, m2⟩ := mk_rel l2 hv
        refine ⟨c, ?_, m2⟩
        simp only [mk, cond_true, Option.some.injEq] at m1
        subst m1
        simp [loadVar, run_agg hL hg, run_size hi1, hi2, load_run _ cs l3 n (by rw [← l2.length, l1])]
    · cases hv
  · rename_i hg
    cases hrd : rd h a' 1 with
    | none => simp [hrd] at hv
    | some vs =>
      simp only [hrd, Option.bind_some] at hv
      obtain ⟨l1, cs, l2, l3, _⟩ := hr.rd k1 k2 k3 hrd
      obtain ⟨c, m1, m2⟩ := mk_rel l2 hv
      refine ⟨c, ?_, m2⟩
      have hc0 : cs[0]? = some c := by
        simp only [mk, cond_false] at m1
        split at m1
        · cases m1; rfl
        · cases m1
      have hcell := l3 0 c hc0
      have hadd : (Lc.at a'.off).add 0 = Lc.at a'.off := rfl
      rw [hadd] at hcell
      simp [loadVar, run_agg hL hg, hcell]
  · cases hv

theorem ofArgs_get : ∀ (vs : List Value) (i : Nat) (e : Env) (t : Nat), (Env.ofArgs i vs e).get t = if i ≤ t ∧ t < i + vs.length then vs.getD (t - i) undef else e.get t
  | [], i, e, t => by
    unfold Env.ofArgs; rw [if_neg (by simp only [List.length_nil]; omega)]
  | v :: vs, i, e, t => by
    unfold Env.ofArgs
    rw [ofArgs_get vs (i + 1) _ t, Env.get_set]
    by_cases h1 : t = i
    · subst h1; rw [if_neg (by omega), if_pos rfl, if_pos (by simp)]; simp
    · by_cases h2 : i + 1 ≤ t ∧ t < i + 1 + vs.length
      · rw [if_pos h2, if_pos (by simp; omega)]
        rw [show t - i = t - (i + 1) + 1 from by omega]; simp
      · rw [if_neg h2, if_neg h1, if_neg (by simp; omega)]

theorem args_env {μ : Mu} {args cs : List Value} (h : VsRel μ args cs) (n : Nat) : EnvRel μ (Env.ofArgs 0 args Env.empty) ((⟨cs⟩ : Array Value) ++ Array.replicate n undef) := fun (t : Nat) => by
  rw [ofArgs_get, Env.get_empty]
  have hl := h.length
  by_cases ht : t < args.length
  · have hc : 0 ≤ t ∧ t < 0 + args.length := ⟨by omega, by omega⟩
    rw [if_pos hc]
    obtain ⟨c, hc, hv⟩ := h.get (i := t) (v := args[t]) (by simp [ht])
    have hts : t < (⟨cs⟩ : Array Value).size := by show t < cs.length; omega
    have h1 : ((⟨cs⟩ : Array Value) ++ Array.replicate n undef).getD t undef = c := by
      rw [Array.getD_eq_getD_getElem?, Array.getElem?_append_left hts]
      simp [hc]
    rw [h1]; simpa [ht] using hv
  · have hc : ¬ (0 ≤ t ∧ t < 0 + args.length) := by omega
    rw [if_neg hc]
    have hts : (⟨cs⟩ : Array Value).size ≤ t := by show cs.length ≤ t; omega
    have h1 : ((⟨cs⟩ : Array Value) ++ Array.replicate n undef).getD t undef = undef := by
      rw [Array.getD_eq_getD_getElem?, Array.getElem?_append_right hts]
      simp [Array.getElem?_replicate]
      split <;> rfl
    rw [h1]; exact .undef

def resF (tmps : Array Value) : ResultVar → Sem Value
  | .tmp t => pure (tmps.getD t undef)
  | .cell a t => do loadVar t (← asAddr (tmps.getD a undef))
theorem results_eq (fn : Func) (tmps : Array Value) : results fn tmps = (do
    let vs ← fn.results.mapM (resF tmps)
    pure (if h : vs.size = 1 then vs[0] else .tuple vs)) := rfl

theorem results_run (hL : L.Ok P) {μ : Mu} {h : AH} {w : World} (hr : Rel μ h w) {e : Env} {tmps : Array Value} (he : EnvRel μ e tmps) : ∀ (rs : List ResultVar) {vs : List Value}, resultsV L e h rs = some vs →
    ∃ cs, (rs.mapM (resF tmps)).run P w = .ok cs w ∧ VsRel μ vs cs
  | [], vs, hv => by
    simp only [resultsV, Option.some.injEq] at hv; subst hv
    exact ⟨[], by simp, .nil⟩
  | .tmp t :: rs, vs, hv => by
    simp only [resultsV, Option.map_eq_some_iff] at hv
    obtain ⟨vs', hv', rfl⟩ := hv
    obtain ⟨cs, h1, h2⟩ := results_run hL hr he rs hv'
    refine ⟨tmps.getD t undef :: cs, ?_, .cons (he t) h2⟩
    rw [List.mapM_cons]
    simp only [resF, Sem.run_bind, Sem.run_pure, h1, Result.andThen_ok]
  | .cell a t :: rs, vs, hv => by
    simp only [resultsV] at hv
    split at hv
    case h_2 => cases hv
    rename_i ad heq
    split at hv
    case h_2 => cases hv
    rename_i v hl
    simp only [Option.map_eq_some_iff] at hv
    obtain ⟨vs', hv', rfl⟩ := hv
    obtain ⟨cs, h1, h2⟩ := results_run hL hr he rs hv'
    have ha := he a
    rw [heq] at ha
    generalize hs : tmps.getD a undef = u at ha
    cases ha with | ptr k1 k2 k3 =>
    obtain ⟨c, m1, m2⟩ := loadVar_run hL hr k1 k2 k3 hl
    refine ⟨c :: cs, ?_, .cons m2 h2⟩
    rw [List.mapM_cons]
    have h0 : (resF tmps (.cell a t)).run P w = .ok c w := by
      simp only [resF, Sem.run_bind, hs, asAddr, Sem.run_pure, Result.andThen_ok, m1]
    simp only [Sem.run_bind, h0, Sem.run_pure, Result.andThen_ok, h1]

theorem oneOrTuple_run (hL : L.Ok P) {μ : Mu} {h : AH} {w : World} (hr : Rel μ h w) {e : Env} {tmps : Array Value} (he : EnvRel μ e tmps) {fn : Func} {vs : List Value} (hv : resultsV L e h fn.results.toList = some vs) :
    ∃ c, (results fn tmps).run P w = .ok c w ∧ VRel μ (oneOrTuple vs) c := by
  obtain ⟨cs, h1, h2⟩ := results_run hL hr he _ hv
  have hm : (fn.results.mapM (resF tmps)).run P w = .ok ⟨cs⟩ w := by
    rw [Array.mapM_eq_mapM_toList, map_eq_pure_bind]
    simp only [Sem.run_bind, h1, Sem.run_pure, Result.andThen_ok]
  rw [results_eq, Sem.run_bind, hm]
  simp only [Result.andThen_ok, Sem.run_pure]
  refine ⟨_, rfl, ?_⟩
  match vs, cs, h2 with
  | [], _, h2 =>
    cases h2
    simp [oneOrTuple]; exact .tuple .nil
  | [v], cs, h2 =>
    obtain ⟨c, rfl, hc⟩ := h2.inv1
    simp [oneOrTuple]; exact hc
  | v1 :: v2 :: vs, cs, h2 =>
    have hl := h2.length
    have : ¬ (⟨cs⟩ : Array Value).size = 1 := by simp at hl ⊢; omega
    rw [dif_neg this]
    exact .tuple h2

end Go.AM

namespace Go.AM
variable {P : Program}

theorem newObj_run (o : Obj) (w : World) : (newObj o).run P w = .ok w.heap.size { w with heap := w.heap.push o } := rfl

theorem Step.push' {low : Lw} {μ : Mu} {h : AH} {w : World} (hr : Rel μ h w) (hl : low.le h.next) (o : Obj) :
    Step low μ (μ.set h.next 0 ⟨w.heap.size, 0, 0, 0⟩) w { w with heap := w.heap.push o } := Step.push hr hl 0 _ rfl o

section
variable {p : Pr} (hp : p.Ok P) {r : Rec} (hsim : SimRec P r)
include hp hsim

/-- From the record of the loop on. -/
theorem range_go {low : Lw} {g : Nat} {first cap : Array Value} {d : Nat} {ds : List ADef} {fr : Fr} {ps : Array Tmp} {assign body : Code} {h : AH} {out : Out}
    (he : goV r low g first cap ps assign body fr d h ds = some out) (hlow : low.le h.next) :
    Callable P g ∧ AKept low h out.h ∧ out.fr.round = fr.round ∧
    ∀ N F n m μ w a mark cf1 cap' L' (fnid : FuncId), (codeOk N assign = true ∧ codeOk N body = true ∧ ps.toList.all (Nat.blt · N) = true) → Wd F → St μ fr h a w → N ≤ a.tmps.size → μ d 0 = some L' → DefsRel μ ds mark → VsRel μ first.toList cf1 → VsRel μ cap.toList cap' →
      CallsIn F n P g ⟨cf1 ++ [.func (.yield w.heap.size) #[] #[]] ++ cap'⟩ { w with heap := w.heap.push (.loop { state := .ready, pending := none, fn := fnid, tmps := a.tmps, params := ps, assign := assign, body := body, defers := L'.blk }) }
        (rangePost F m P w.heap.size (CPost low μ w out a.tmps.size) { a with defers := mark ++ a.defers }) := by
  unfold goV at he
  split at he
  case h_2 => cases he
  rename_i v1 h1 hcall
  split at he
  case h_2 => cases he
  rename_i y hg
  obtain ⟨c1, c2, c3⟩ := hsim.call _ _ _ _ _ _ hcall (hlow.mono (by rw [AH.next_push]; omega))
  have hlt := AH.lt_of_get hg
  have key : y.state ≠ .busy ∧ low.ok h.next = true ∧ out.fr = { fr with defers := ds ++ fr.defers } ∧ out.h = h1.put h.next (.loop { y with state := .exhausted }) ∧
      (match y.pending with | none => out.exit = .normal | some .ret => out.exit = .ret | some (.exit id) => out.exit = .exit id | some (.goto t) => out.exit = .goto t | some _ => False) := by
    split at he
    · cases he
    · rename_i hst
      have hlo := hlow _ (Nat.le_refl _)
      refine ⟨hst, hlo, ?_⟩
      rw [hlo] at he
      simp only [cond_true] at he
      split at he <;> first | (cases he; done) | (cases he; rename_i hpd; rw [hpd]; exact ⟨rfl, rfl, rfl⟩)
  obtain ⟨k1, k2, k3, k4, k5⟩ := key
  have hk : AKept low h out.h := by rw [k4]; exact ((AKept.push h _).trans c2).trans (.put _ _ hlt k2)
  refine ⟨c1, hk, by rw [k3], fun N F n m μ w a mark cf1 cap' L' fnid hok hF hst hN hd hmk hf hc => ?_⟩
  let Pl : Loop := { state := .ready, pending := none, fn := fnid, tmps := a.tmps, params := ps, assign := assign, body := body, defers := L'.blk }
  have hr1 : Rel (μ.set h.next 0 ⟨w.heap.size, 0, 0, 0⟩) (h.push (.loop ⟨fr.env, ps, assign, body, .ready, none, d⟩)) { w with heap := w.heap.push (.loop Pl) } :=
    hst.rel.pushObj (fun _ _ _ h => by cases h) (fun y hy => by cases hy; exact ⟨Pl, rfl, rfl, rfl, rfl, rfl, rfl, hst.env, L', hd, rfl, N, hok.1, hok.2.1, hok.2.2, hN⟩) (fun b hb => by cases hb)
  have hs1 : Step low μ (μ.set h.next 0 ⟨w.heap.size, 0, 0, 0⟩) w { w with heap := w.heap.push (.loop Pl) } := Step.push' hst.rel hlow _
  have hargs : VsRel (μ.set h.next 0 ⟨w.heap.size, 0, 0, 0⟩) (first.toList ++ [.func (.yield h.next) #[] #[]] ++ cap.toList) (cf1 ++ [.func (.yield w.heap.size) #[] #[]] ++ cap') :=
    ((hf.mono hs1.sub).append (.cons (.yield Mu.set_self) .nil)).append (hc.mono hs1.sub)
  refine (c3 F n _ _ _ hF hr1 hargs).1.mono ?_
  rintro e w3 ⟨c, μ3, rfl, q1, q2, q3⟩
  have hm3 := q1.sub _ _ _ (Mu.set_self (μ := μ) (f := h.next) (e := 0) (L := ⟨w.heap.size, 0, 0, 0⟩))
  obtain ⟨_, P3, p1, p2, p3, p4, p5, p6, p7, L3, p8, p9, p10⟩ := q2.loops _ _ _ _ hm3 hg
  have hend : (Instr.endLoop w.heap.size).run P w3 = .ok P3.pending { w3 with heap := w3.heap.setIfInBounds w.heap.size (.loop { P3 with state := .exhausted }) } := by
    have hb : (P3.state == LoopState.busy) = false := by
      rw [p2]; cases hys : y.state <;> first | exact (k1 hys).elim | rfl
    simp only [Instr.endLoop, Sem.run_bind, getLoop_run p1, Result.andThen_ok, hb, Bool.false_eq_true, if_false, setObj_run (O' := .loop { P3 with state := .exhausted }) p1 (fun _ _ _ h => by cases h), Sem.run_pure]
  have hrel4 : Rel μ3 out.h { w3 with heap := w3.heap.setIfInBounds w.heap.size (.loop { P3 with state := .exhausted }) } := by
    rw [k4]
    exact q2.putObj hg hm3 p1 (fun _ _ _ h => by cases h) (fun _ _ _ h => by cases h) (fun _ _ _ h => by cases h)
      (fun y' hy' => by cases hy'; exact ⟨_, rfl, rfl, p3, p4, p5, p6, p7, L3, p8, p9, p10⟩) (fun _ h => by cases h)
  have hstep : Step low μ μ3 w { w3 with heap := w3.heap.setIfInBounds w.heap.size (.loop { P3 with state := .exhausted }) } :=
    (hs1.trans q1).trans (Step.putObj hm3 k2 _)
  have hst4 : St μ3 out.fr out.h { a with defers := mark ++ a.defers } { w3 with heap := w3.heap.setIfInBounds w.heap.size (.loop { P3 with state := .exhausted }) } := by
    rw [k3]
    refine ⟨hrel4, hst.env.mono hstep.sub, ?_⟩
    exact (hmk.mono hstep.sub).append (hst.defs.mono hstep.sub)
  have hpost : ∀ e, ExitRel out.exit e → CPost low μ w out a.tmps.size e { a with defers := mark ++ a.defers } { w3 with heap := w3.heap.setIfInBounds w.heap.size (.loop { P3 with state := .exhausted }) } := fun e he => ⟨he, μ3, hstep, hst4, rfl⟩
  have fin : ∀ (W : World) (A : Act) (pd : Option Code), pd = y.pending → (∀ e, ExitRel out.exit e → CPost low μ w out a.tmps.size e A W) →
      (match pd with | none => CPost low μ w out a.tmps.size .normal A W | some c => c.wpIn F m P (CPost low μ w out a.tmps.size) A W) := fun W A pd hpd hp => by
    subst hpd
    split at k5 <;> rename_i hx <;> (try rw [hx])
    · exact hp _ (by rw [k5]; exact .normal)
    · exact wpIn_ret (hp _ (by rw [k5]; exact .ret))
    · exact wpIn_exit (hp _ (by rw [k5]; exact .exit _))
    · exact wpIn_goto (hp _ (by rw [k5]; exact .goto _))
    · exact k5.elim
  exact ⟨P3.pending, _, hend, fin _ _ _ p3 hpost⟩

theorem range_sim {low : Lw} {f : Operand} {ps : Array Tmp} {assign body : Code} {fr : Fr} {h : AH} {out : Out} (he : rangeV r low f ps assign body fr h = some out) (hlow : low.le h.next) :
    Gives low fr h out (fun N => codeOk N (.rangeFunc f ps assign body) = true) fun F n Q a w => (Code.rangeFunc f ps assign body).wpIn F n P Q a w := by
  unfold rangeV at he
  split at he
  case h_2 => cases he
  rename_i g first cap heq
  -- the call's own shape
  have hcl : ∀ {μ : Mu} {a : Act} (b : Nat), opdOk f = true → EnvRel μ fr.env a.tmps → ∃ cf1 cap', VsRel μ first.toList cf1 ∧ VsRel μ cap.toList cap' ∧
      ∀ w1, (resolve a.eval (rangeCall f b) 0).run P w1 = .ok ⟨.fn (.func g) ⟨cap'⟩, ⟨cf1 ++ [.func (.yield b) #[] #[]]⟩⟩ w1 := fun {μ a} b hop hen => by
    have hv := eval_rel hen f hop
    rw [heq] at hv
    generalize hs : a.eval f = u at hv
    cases hv with
    | func _ h1 h2 =>
      rename_i as bs cs ds
      refine ⟨bs, ds, h1, h2, fun w1 => ?_⟩
      simp only [resolve, rangeCall, hs, Deferred.ofValue, Sem.run_pure]
      simp [Act.eval]
  have hinv : ∀ {cf1 cap' : List Value} {b : Nat} (w1 : World), Callable P g → (invoke (.fn (.func g) ⟨cap'⟩) ⟨cf1 ++ [.func (.yield b) #[] #[]]⟩).run P w1 = .ok (.enter g ⟨cf1 ++ [.func (.yield b) #[] #[]] ++ cap'⟩) w1 := fun w1 hcb => by
    simp [invoke, callFunc_run hcb]
  cases hrd : fr.round with
  | none =>
    rw [hrd] at he
    dsimp only at he
    obtain ⟨c1, c2, c3, c4⟩ := range_go hp hsim he (hlow.mono (by rw [AH.next_push]; omega))
    refine ⟨(AKept.push h _).trans c2, by rw [c3, hrd], fun N F n μ w a hok hF hro hst hN => wpIn_rangeFunc fun fnid hfn => ?_⟩
    simp only [codeOk, Bool.and_eq_true] at hok
    have hro' : F.round = none := by
      rw [hrd] at hro
      generalize F.round = x at hro
      cases hro; rfl
    rw [hro']
    have hr1 : Rel (μ.set h.next 0 ⟨w.heap.size, 0, 0, 0⟩) (h.push (.oth (.dfr true))) { w with heap := w.heap.push (.deferred (some [])) } :=
      hst.rel.pushObj (fun _ _ _ h => by cases h) (fun y hy => by cases hy) (fun b hb => by cases hb; exact .dfr true)
    have hs1 : Step low μ (μ.set h.next 0 ⟨w.heap.size, 0, 0, 0⟩) w { w with heap := w.heap.push (.deferred (some [])) } := Step.push' hst.rel hlow _
    have hst1 : St (μ.set h.next 0 ⟨w.heap.size, 0, 0, 0⟩) fr (h.push (.oth (.dfr true))) a { w with heap := w.heap.push (.deferred (some [])) } := ⟨hr1, hst.env.mono hs1.sub, hst.defs.mono hs1.sub⟩
    obtain ⟨cf1, cap', hv1, hv2, hres⟩ := hcl (w.heap.size + 1) hok.1.1.1 hst1.env
    have hcall := c4 N F (n - 1) n _ _ a [{ target := .collected w.heap.size, args := #[] }] cf1 cap' ⟨w.heap.size, 0, 0, 0⟩ fnid ⟨hok.1.2, hok.2, hok.1.1.2⟩ hF hst1 hN Mu.set_self (.cons (.mark Mu.set_self rfl) .nil) hv1 hv2
    have hsz : (w.heap.push (.deferred (some []))).size = w.heap.size + 1 := by simp
    simp only [hsz] at hcall
    refine ⟨w.heap.size + 1, [{ target := .collected w.heap.size, args := #[] }], { w with heap := (w.heap.push (.deferred (some []))).push (.loop { state := .ready, pending := none, fn := fnid, tmps := a.tmps, params := ps, assign := assign, body := body, defers := w.heap.size }) },
      _, _, g, _, _, ?_, hres _, fun f' _ => hF.fn f', hinv _ c1, hF.one, hcall.mono fun e w3 hpost => ?_⟩
    · simp only [Instr.enterLoop, Sem.run_bind, newObj_run, Result.andThen_ok, Sem.run_pure, hsz]
    · cases e with
      | returned v =>
        obtain ⟨jump, w4, z1, z2⟩ := hpost
        refine ⟨jump, w4, z1, ?_⟩
        cases jump with
        | none => exact CPost.step hs1 z2
        | some cc => exact wpIn_mono z2 fun e a' w' hq => CPost.step hs1 hq
      | panicked ch => exact CPost.step hs1 hpost
      | outgrown => obtain ⟨a0, w0, hq⟩ := hpost; exact ⟨a0, w0, CPost.step hs1 hq⟩
  | some l =>
    rw [hrd] at he
    dsimp only at he
    split at he
    case h_2 => cases he
    rename_i y hy
    obtain ⟨c1, c2, c3, c4⟩ := range_go hp hsim he hlow
    refine ⟨c2, by rw [c3, hrd], fun N F n μ w a hok hF hro hst hN => wpIn_rangeFunc fun fnid hfn => ?_⟩
    simp only [codeOk, Bool.and_eq_true] at hok
    obtain ⟨Lc, hm, hro'⟩ : ∃ Lc, μ l 0 = some Lc ∧ F.round = some Lc.blk := by
      rw [hrd] at hro
      generalize F.round = x at hro
      cases hro with
      | some hm => exact ⟨_, hm, rfl⟩
    obtain ⟨_, Pl, p1, p2, p3, p4, p5, p6, p7, Ld, p8, p9, p10⟩ := hst.rel.loops _ _ _ _ hm hy
    obtain ⟨cf1, cap', hv1, hv2, hres⟩ := hcl w.heap.size hok.1.1.1 hst.env
    have hcall := c4 N F (n - 1) n μ w a [] cf1 cap' Ld fnid ⟨hok.1.2, hok.2, hok.1.1.2⟩ hF hst hN p8 .nil hv1 hv2
    refine ⟨w.heap.size, [], { w with heap := w.heap.push (.loop { state := .ready, pending := none, fn := fnid, tmps := a.tmps, params := ps, assign := assign, body := body, defers := Ld.blk }) },
      _, _, g, _, _, ?_, hres _, fun f' _ => hF.fn f', hinv _ c1, hF.one, hcall⟩
    rw [hro']
    simp only [Instr.enterLoop, Sem.run_bind, getLoop_run p1, Result.andThen_ok, Sem.run_pure, p9]
    simp only [newObj_run, Result.andThen_ok, Sem.run_pure]

/-- The deferred calls, one behind the other. -/
theorem defers_sim {low : Lw} : ∀ (ds : List ADef) (h h' : AH), defersV r low ds h = some h' → low.le h.next →
    AKept low h h' ∧ ∀ (F : Fence) (n : Nat) μ w (dds : List Deferred) (fr : Frame) (cs : List Frame), Wd F → Rel μ h w → DefsRel μ ds dds → fr.mode = .returning → fr.defers = dds →
      ∃ μ' w', Step low μ μ' w w' ∧ Rel μ' h' w' ∧ StepsIn (Machine.fenced P F) P (lone fr cs w) (lone { fr with defers := [] } cs w')
  | [], h, h', he, _ => by
    simp only [defersV, Option.some.injEq] at he
    subst he
    refine ⟨.refl _ _, fun F n μ w dds fr cs hF hr hd hm hdf => ?_⟩
    cases hd
    refine ⟨μ, w, .refl _ _ _, hr, ?_⟩
    have : ({ fr with defers := [] } : Frame) = fr := by cases fr; simp_all
    rw [this]; exact .refl _
  | .call f args :: ds, h, h', he, hlow => by
    unfold defersV at he
    cases hc : r.call low f args h with
    | none => rw [hc] at he; simp at he
    | some x =>
      obtain ⟨v, h1⟩ := x
      rw [hc] at he
      dsimp only at he
      obtain ⟨c1, c2, c3⟩ := hsim.call _ _ _ _ _ _ hc hlow
      obtain ⟨d1, d2⟩ := defers_sim ds h1 h' he (Lw.le.mono hlow c2.next)
      refine ⟨c2.trans d1, fun F n μ w dds fr cs hF hr hd hm hdf => ?_⟩
      cases hd with
      | cons hx hxs =>
        rename_i dd dds
        cases hx with
        | call ht ha =>
          rename_i cap
          have e : dd.args ++ cap = ⟨dd.args.toList ++ cap.toList⟩ := by apply Array.ext'; simp
          have hinv : (invoke dd.target dd.args).run P w = .ok (.enter f ⟨dd.args.toList ++ cap.toList⟩) w := by
            rw [ht]; simp [invoke, e, callFunc_run c1]
          have h1 := step_defer (P := P) (cs := cs) (w := w) (fr := fr) (by rw [hm]; simp) hdf ht hinv
          have i1 : (lone fr cs w).fenced P F := fenced_out (n := n) (hF.fn _) (hF.room _) (by rw [hm]; simp) hdf (fun g _ => hF.fn g)
          obtain ⟨e', u', w', frX, ⟨rfl, cv, μ1, rfl, q1, q2, q3⟩, hsteps, hkX, hfX, hgo⟩ := (c3 F n μ w _ hF hr ha).2.2 { fr with defers := dds } cs hm (hF.room _)
          have i2 : (lone frX ({ { fr with defers := dds } with mode := .returning } :: cs) w').fenced P F := fenced_going (n := n) (hF.fn _) (hF.room _) hgo
          have h2 := step_going_returned (c := { { fr with defers := dds } with mode := .returning }) (cs := cs) hkX hgo
          obtain ⟨μ2, w2, s1, s2, s3⟩ := d2 F n μ1 w' dds { { { fr with defers := dds } with mode := .returning } with mode := settle .returning } cs hF q2 (hxs.mono q1.sub) rfl rfl
          refine ⟨μ2, w2, q1.trans s1, s2, .head i1 h1 (StepsIn.trans hsteps (.head i2 h2 ?_))⟩
          have : ({ { { { fr with defers := dds } with mode := FrameMode.returning } with mode := settle .returning } with defers := [] } : Frame) = { fr with defers := [] } := by
            cases fr; simp_all [settle]
          rw [this] at s3
          exact s3
  | .mark d :: ds, h, h', he, hlow => by
    unfold defersV at he
    split at he
    case h_2 => cases he
    rename_i hg
    cases hb : low.ok d with
    | false => rw [hb] at he; simp at he
    | true =>
    rw [hb] at he
    simp only [cond_true] at he
    have hld := hb
    have hlt := AH.lt_of_get hg
    obtain ⟨d1, d2⟩ := defers_sim ds _ h' he (by simpa using hlow)
    refine ⟨(AKept.put _ _ hlt hld).trans d1, fun F n μ w dds fr cs hF hr hd hm hdf => ?_⟩
    cases hd with
    | cons hx hxs =>
      rename_i dd dds
      cases hx with
      | mark hmu ht =>
        rename_i Lc
        obtain ⟨_, O1, k1, hO1⟩ := hr.oth _ _ _ _ hmu hg
        cases hO1
        simp only [if_true] at k1
        have htake : (Instr.takeDeferred Lc.blk).run P w = .ok [] { w with heap := w.heap.setIfInBounds Lc.blk (.deferred none) } := by
          simp only [Instr.takeDeferred, Sem.run_bind]
          have : (getObj Lc.blk).run P w = .ok (.deferred (some [])) w := by simp [getObj, Sem.run, k1]
          rw [this]
          simp only [Result.andThen_ok, Sem.run_bind, setObj_run (P := P) (O' := .deferred none) k1 (fun _ _ _ h => by cases h), Sem.run_pure]
        have h1 := step_collected (P := P) (cs := cs) (fr := fr) (by rw [hm]; simp) hdf ht htake
        have i1 : (lone fr cs w).fenced P F := fenced_out (n := n) (hF.fn _) (hF.room _) (by rw [hm]; simp) hdf (fun g _ => hF.fn g)
        have hr2 : Rel μ (h.put d (.oth (.dfr false))) { w with heap := w.heap.setIfInBounds Lc.blk (.deferred none) } :=
          hr.putObj hg hmu k1 (fun _ _ _ h => by cases h) (fun _ _ _ h => by cases h) (fun _ _ _ h => by cases h) (fun y h => by cases h) (fun b h => by cases h; exact .dfr false)
        obtain ⟨μ2, w2, s1, s2, s3⟩ := d2 F n μ _ dds { fr with defers := [] ++ dds } cs hF hr2 hxs (by exact hm) rfl
        refine ⟨μ2, w2, (Step.putObj hmu hld _).trans s1, s2, .head i1 h1 s3⟩

/-- A function, entered. -/
theorem enter_sim {low : Lw} {f : FuncId} {fn : Func} {c : Code} {args vs : List Value} {h h1 h2 : AH} {ex : AExit} {fr1 : Fr} (hf : p.fn f = some fn) (hb : fn.body = some c) (hc : r.code low c ⟨Env.ofArgs 0 args Env.empty, [], none⟩ h = some ⟨ex, fr1, h1⟩) (hex : ex = .normal ∨ ex = .ret)
    (hd : defersV r low fr1.defers h1 = some h2) (hv : resultsV p.ty fr1.env h2 fn.results.toList = some vs) (hlow : low.le h.next) :
    Callable P f ∧ AKept low h h2 ∧ ∀ (F : Fence) (_ : Nat) μ w cs, Wd F → Rel μ h w → VsRel μ args cs → ∀ (kind : CallKind) (bs : List Frame), ∃ cv w' fr' μ', Step low μ μ' w w' ∧ Rel μ' h2 w' ∧ VRel μ' (oneOrTuple vs) cv ∧
      StepsIn (Machine.fenced P F) P (lone (Frame.enter P f ⟨cs⟩ kind) bs w) (lone fr' bs w') ∧ fr'.mode = .returning ∧ fr'.defers = [] ∧ fr'.kind = kind ∧ fr'.fn = f ∧ P.funcs[f]? = some fn ∧ (results fn fr'.tmps).run P w' = .ok cv w' := by
  obtain ⟨p1, p2, p3⟩ := hp.fn f fn hf
  obtain ⟨a1, a2, a3⟩ := hsim.code _ _ _ _ _ hc hlow
  obtain ⟨b1, b2⟩ := defers_sim hp hsim fr1.defers h1 h2 hd (Lw.le.mono hlow a1.next)
  refine ⟨⟨fn, p1, p2, by rw [hb]; rfl⟩, a1.trans b1, fun F n μ w cs hF hr hcs kind bs => ?_⟩
  let b : Frame := { (default : Frame) with fn := f, kind := kind, roundOf := none }
  have henter : Frame.enter P f ⟨cs⟩ kind = b.atR { tmps := ⟨cs⟩ ++ Array.replicate (fn.ntmps - (⟨cs⟩ : Array Value).size) undef, defers := [] } [.code c] := by
    simp [Frame.enter, Frame.atR, p1, hb, b]
  have hst : St μ ⟨Env.ofArgs 0 args Env.empty, [], none⟩ h { tmps := ⟨cs⟩ ++ Array.replicate (fn.ntmps - (⟨cs⟩ : Array Value).size) undef, defers := [] } w :=
    ⟨hr, args_env hcs _, .nil⟩
  obtain ⟨e, a', w1, ⟨he, μ1, q1, ⟨q2, q3, q4⟩, q5⟩, harr⟩ := a3 fn.ntmps F.plain n μ w _ (p3 c hb) hF.plain .none hst (by simp; omega) b [] bs rfl (hF.fn _) (hF.room _)
  rw [← henter] at harr
  rw [fenced_plain] at harr
  -- out of the body
  obtain ⟨todo, hs⟩ : ∃ todo, StepsIn (Machine.fenced P F) P (lone (Frame.enter P f ⟨cs⟩ kind) bs w) (lone { b.atR a' todo with mode := .returning } bs w1) := by
    rcases hex with rfl | rfl
    · cases he
      exact ⟨[], StepsIn.trans harr (.one (fenced_calm (n := n) (fr := b.atR a' []) (hF.fn _) (hF.room _) rfl) (stepR_end rfl))⟩
    · cases he
      exact harr.1 rfl
  obtain ⟨μ2, w2, s1, s2, s3⟩ := b2 F n μ1 w1 a'.defers { b.atR a' todo with mode := .returning } bs hF q2 q4 rfl rfl
  obtain ⟨cv, m1, m2⟩ := oneOrTuple_run hp.ty s2 (q3.mono s1.sub) hv
  exact ⟨cv, w2, _, μ2, q1.trans s1, s2, m2, StepsIn.trans hs s3, rfl, rfl, rfl, rfl, p1, m1⟩

theorem call_sim {low : Lw} {f : FuncId} {args : List Value} {h h' : AH} {v : Value} (he : callV p r low f args h = some (v, h')) (hlow : low.le h.next) :
    Callable P f ∧ AKept low h h' ∧
    ∀ F n μ w cs, Wd F → Rel μ h w → VsRel μ args cs → CallsIn F n P f ⟨cs⟩ w (KPost low μ w v h') ∧ CallsDIn F n P f ⟨cs⟩ .returning w (fun e u w' => u = .returning ∧ KPost low μ w v h' e w') := by
  unfold callV at he
  split at he
  · rename_i g hg
    exact hp.nat f g hg r hsim low args h v h' he hlow
  split at he
  case h_2 => cases he
  rename_i fn hf
  split at he
  case h_2 => cases he
  rename_i c hb
  obtain ⟨ex, fr1, h1, h2, vs, hc, hex, hd, hv, rfl, rfl⟩ : ∃ ex fr1 h1 h2 vs, r.code low c ⟨Env.ofArgs 0 args Env.empty, [], none⟩ h = some ⟨ex, fr1, h1⟩ ∧ (ex = .normal ∨ ex = .ret) ∧ defersV r low fr1.defers h1 = some h2 ∧
      resultsV p.ty fr1.env h2 fn.results.toList = some vs ∧ v = oneOrTuple vs ∧ h' = h2 := by
    split at he
    · rename_i hc
      split at he
      case h_2 => cases he
      rename_i hd
      simp only [Option.map_eq_some_iff, Prod.mk.injEq] at he
      obtain ⟨vs, hv, rfl, rfl⟩ := he
      exact ⟨_, _, _, _, vs, hc, .inl rfl, hd, hv, rfl, rfl⟩
    · rename_i hc
      split at he
      case h_2 => cases he
      rename_i hd
      simp only [Option.map_eq_some_iff, Prod.mk.injEq] at he
      obtain ⟨vs, hv, rfl, rfl⟩ := he
      exact ⟨_, _, _, _, vs, hc, .inr rfl, hd, hv, rfl, rfl⟩
    · cases he
  obtain ⟨k1, k2, k3⟩ := enter_sim hp hsim hf hb hc hex hd hv hlow
  refine ⟨k1, k2, fun F n μ w cs hF hr hcs => ⟨⟨hF.fn _, fun bs _ => ?_⟩, ⟨hF.fn _, fun c0 bs hu _ => ?_⟩⟩⟩
  · obtain ⟨cv, w', fr', μ', s1, s2, s3, s4, s5, s6, s7, s8, s9, s10⟩ := k3 F n μ w cs hF hr hcs .normal bs
    exact ⟨.returned cv, w', fr', ⟨cv, μ', rfl, s1, s2, s3⟩, s4, s8, s5, s6, s7, fn, s8 ▸ s9, s10⟩
  · obtain ⟨cv, w', fr', μ', s1, s2, s3, s4, s5, s6, s7, s8, s9, s10⟩ := k3 F n μ w cs hF hr hcs .deferred (c0 :: bs)
    have hc0 : ({ c0 with mode := .returning } : Frame) = c0 := by cases c0; simp_all
    exact ⟨.returned cv, .returning, w', fr', ⟨rfl, cv, μ', rfl, s1, s2, s3⟩, by rw [hc0]; exact s4, s7, s8, s5, s6, fn, s8 ▸ s9, s10⟩

theorem code_sim {low : Lw} {c : Code} {fr : Fr} {h : AH} {out : Out} (he : codeV p r low c fr h = some out) (hlow : low.le h.next) :
    Gives low fr h out (fun N => codeOk N c = true) fun F n Q a w => c.wpIn F n P Q a w := by
  cases c with
  | skip => simp only [codeV, Option.some.injEq] at he; subst he; exact ⟨.refl _ _, rfl, fun N F n μ w a _ _ _ hst _ => wpIn_skip ⟨.normal, μ, .refl _ _ _, hst, rfl⟩⟩
  | label l => simp only [codeV, Option.some.injEq] at he; subst he; exact ⟨.refl _ _, rfl, fun N F n μ w a _ _ _ hst _ => wpIn_label ⟨.normal, μ, .refl _ _ _, hst, rfl⟩⟩
  | region id ops d => exact region_sim hp hsim he hlow
  | seq a b => exact seq_sim hp hsim he hlow
  | cond x a b => exact cond_sim hp hsim he hlow
  | block id b => exact block_sim hp hsim he hlow
  | loop b =>
    obtain ⟨k1, k2, k3⟩ := loop_round hp hsim he hlow
    refine ⟨k1, k2, fun N F n μ w a hok hF hro hst hN b k cs hb0 hb hr => ?_⟩
    obtain ⟨e, a', w', hq, harr⟩ := k3 N F n μ w a hok hF hro hst hN b k cs hb0 hb hr
    exact ⟨e, a', w', hq, .of_steps (.one (fenced_calm hb hr rfl) stepR_loop) harr⟩
  | rangeFunc f ps assign body => exact range_sim hp hsim he hlow
  | exit id => simp only [codeV, Option.some.injEq] at he; subst he; exact ⟨.refl _ _, rfl, fun N F n μ w a _ _ _ hst _ => wpIn_exit ⟨.exit id, μ, .refl _ _ _, hst, rfl⟩⟩
  | goto l => simp only [codeV, Option.some.injEq] at he; subst he; exact ⟨.refl _ _, rfl, fun N F n μ w a _ _ _ hst _ => wpIn_goto ⟨.goto l, μ, .refl _ _ _, hst, rfl⟩⟩
  | ret => simp only [codeV, Option.some.injEq] at he; subst he; exact ⟨.refl _ _, rfl, fun N F n μ w a _ _ _ hst _ => wpIn_ret ⟨.ret, μ, .refl _ _ _, hst, rfl⟩⟩
  | scope b => exact scope_sim hp hsim he hlow
  | refuse s => simp [codeV] at he

theorem step_sim : SimRec P (stepRec p r) where
  loop := fun low c fr h out he hlow => (loop_round hp hsim he hlow).2.2
  code := fun low c fr h out he hlow => code_sim hp hsim he hlow
  within := fun low body c fr h out he hlow => by
    obtain ⟨k1, k2, k3⟩ := within_sim hp hsim (body := body) (c := c) he hlow
    exact ⟨k1, k2, fun N F n μ w a h1 h2 => k3 N F n μ w a ⟨h1, h2⟩⟩
  call := fun low f args h v h' he hlow => call_sim hp hsim he hlow
end

theorem none_sim : SimRec P Rec.none where
  loop := fun low c fr h out he => by simp [Rec.none] at he
  code := fun low c fr h out he => by simp [Rec.none] at he
  within := fun low body c fr h out he => by simp [Rec.none] at he
  call := fun low f args h v h' he => by simp [Rec.none] at he

theorem recN_sim {p : Pr} (hp : p.Ok P) : ∀ n, SimRec P (recN p n)
  | 0 => none_sim
  | n + 1 => step_sim hp (recN_sim hp n)

end Go.AM
#print axioms Go.AM.recN_sim

namespace Go.AM

def evens {α : Type} : List α → List α
  | [] => []
  | [a] => [a]
  | a :: _ :: l => a :: evens l

theorem evens_get {α : Type} : ∀ (l : List α) (i : Nat), (evens l)[i]? = l[2 * i]?
  | [], i => by simp [evens]
  | [a], i => by
    cases i with
    | zero => simp [evens]
    | succ i => simp [evens]
  | a :: b :: l, i => by
    cases i with
    | zero => simp [evens]
    | succ i => rw [show 2 * (i + 1) = 2 * i + 1 + 1 from by omega]; simp [evens, evens_get l i]

theorem evens_length {α : Type} : ∀ (l : List α), (evens l).length ≤ l.length
  | [] => by simp [evens]
  | [a] => by simp [evens]
  | a :: b :: l => by have := evens_length l; simp [evens]; omega

def Tr.ofList {α : Type} : Nat → List α → Tr α
  | 0, _ => .leaf
  | _ + 1, [] => .leaf
  | n + 1, x :: l => .node (Tr.ofList n (evens l)) (some x) (Tr.ofList n (evens l.tail))

theorem Tr.get_ofList {α : Type} : ∀ (n : Nat) (l : List α) (i : Nat), l.length ≤ n → (Tr.ofList n l).get i = l[i]?
  | 0, l, i, h => by
    have : l = [] := by cases l; rfl; simp at h
    subst this; simp [Tr.ofList, Tr.get_leaf]
  | n + 1, [], i, h => by simp [Tr.ofList, Tr.get_leaf]
  | n + 1, x :: l, i, h => by
    have hl : l.length ≤ n := by simp at h; exact h
    have h1 := evens_length l
    have h2 := evens_length l.tail
    have h3 : l.tail.length ≤ l.length := by simp
    rw [Tr.ofList, Tr.get_node, Tr.get_ofList n (evens l) _ (by omega), Tr.get_ofList n (evens l.tail) _ (by omega), evens_get, evens_get]
    by_cases h0 : i = 0
    · subst h0; simp
    · rw [if_neg h0]
      by_cases hm : i % 2 = 1
      · rw [if_pos hm]
        obtain ⟨j, rfl⟩ : ∃ j, i = j + 1 := ⟨i - 1, by omega⟩
        rw [show 2 * ((j + 1) / 2) = j from by omega]; simp
      · rw [if_neg hm]
        obtain ⟨j, rfl⟩ : ∃ j, i = j + 1 + 1 := ⟨i - 2, by omega⟩
        rw [show 2 * ((j + 1 + 1) / 2 - 1) = j from by omega]
        cases l <;> simp

variable {P : Program}

noncomputable def typesTr (P : Program) : Tr TypeInfo := Tr.ofList P.types.toList.length P.types.toList
noncomputable def funcsTr (P : Program) : Tr Func := Tr.ofList P.funcs.toList.length P.funcs.toList

theorem typesTr_get {t : Nat} {i : TypeInfo} (h : (typesTr P).get t = some i) : P.info? t = some i := by
  unfold typesTr at h
  rw [Tr.get_ofList _ _ _ (Nat.le_refl _)] at h
  have h' : P.types[t]? = some i := by simpa using h
  have hlt : t < P.types.size := (Array.getElem?_eq_some_iff.1 h').1
  show (if t < P.types.size then P.types[t]? else _) = _
  rw [if_pos hlt]; exact h'

theorem funcsTr_get {f : Nat} {fn : Func} (h : (funcsTr P).get f = some fn) : P.funcs[f]? = some fn := by
  unfold funcsTr at h
  rw [Tr.get_ofList _ _ _ (Nat.le_refl _)] at h
  simpa using h

/-- A value of noughts whose cells are plain. -/
def zeroCells (i : TypeInfo) : Option (List Value) :=
  match i.zero with
  | some v => bif (v.cells.toList.all atomOk) && Nat.beq v.cells.toList.length i.size then some v.cells.toList else none
  | none => none

def isAggD : TypeDesc → Bool
  | .struct _ => true
  | .array _ _ => true
  | _ => false

noncomputable def undOf (tb : Tr TypeInfo) (t : TypeId) : Option TypeDesc :=
  match tb.get t with
  | some i => match i.desc with
    | .named _ u => (tb.get u).map (·.desc)
    | d => some d
  | none => none

noncomputable def methOf (tb : Tr TypeInfo) (t : TypeId) (m : String) : Option FuncId :=
  match tb.get t with
  | some i => match i.methods.toList.find? (·.name == m) with
    | some r => match r.path.toList, r.func, undOf tb t with
      | [], some (f, true), some (.pointer _) => some f
      | [], some (_, false), some (.pointer _) => none
      | [], some (f, false), some _ => some f
      | _, _, _ => none
    | none => none
  | none => none

def implB (want : Array (String × TypeId)) (got : Array Method) : Bool := want.toList.all fun p => got.toList.any fun m => m.name == p.1 && m.sig == p.2

theorem implB_eq (want : Array (String × TypeId)) (got : Array Method) : (Instr.missingMethod want got).isNone = implB want got := by
  have hf : (want.toList.filter fun (p : String × TypeId) => !got.any fun m => m.name == p.1 && m.sig == p.2).isEmpty = implB want got := by
    unfold implB
    rw [Bool.eq_iff_iff]
    simp only [List.isEmpty_iff, List.filter_eq_nil_iff, List.all_eq_true]
    constructor
    · intro h x hx
      have := h x hx
      simpa using this
    · intro h x hx
      have := h x hx
      simpa using this
  rw [← hf]
  unfold Instr.missingMethod
  simp only
  generalize hl : (want.toList.filter fun (p : String × TypeId) => !got.any fun m => m.name == p.1 && m.sig == p.2) = l
  cases l with
  | nil => rfl
  | cons x xs =>
    rw [show ((x :: xs).isEmpty) = false from rfl]
    have hpart : ∀ (q : String → Bool) (l : List String), l ≠ [] → ∀ a b, l.partition q = (a, b) → (Instr.least b <|> Instr.least (a.map fun id => (id.splitOn ".").getLastD id)).isNone = false := by
      intro q l hne a b hab
      rw [List.partition_eq_filter_filter] at hab
      cases hab
      cases hb : l.filter (not ∘ q) with
      | cons y ys => rfl
      | nil =>
        cases ha : l.filter q with
        | cons y ys => rfl
        | nil =>
          exfalso
          cases l with
          | nil => exact hne rfl
          | cons z zs =>
            rw [List.filter_eq_nil_iff] at ha hb
            have h1 := ha z (by simp)
            have h2 := hb z (by simp)
            simp at h1 h2
            rw [h1] at h2; cases h2
    generalize hp : ((x :: xs).map (·.1)).partition _ = ab
    obtain ⟨a, b⟩ := ab
    exact hpart _ ((x :: xs).map (·.1)) (by simp) a b hp

noncomputable def tyOf (tb : Tr TypeInfo) (plain : TypeId → Option (List Nat)) : Ty where
  und := undOf tb
  size t := match tb.get t with
    | some i => bif Nat.ble i.bytes 4096 then some i.size else none
    | none => none
  zero t := match tb.get t, undOf tb t with
    | some i, some d => match d, i.zero with
      | .struct _, some (.agg cs) => bif cs.toList.all atomOk && Nat.beq cs.toList.length i.size then some cs.toList else none
      | .array _ _, some (.agg cs) => bif cs.toList.all atomOk && Nat.beq cs.toList.length i.size then some cs.toList else none
      | .struct _, _ => none
      | .array _ _, _ => none
      | _, some v => bif atomOk v && Nat.beq i.size 1 then some [v] else none
      | _, none => none
    | _, _ => none
  plain := plain
  impl tx t := match undOf tb t, tb.get tx with
    | some (.interface want), some i => some (implB want i.methods)
    | _, _ => none
  meth := methOf tb


theorem undOf_ok {t : TypeId} {d : TypeDesc} (h : undOf (typesTr P) t = some d) : P.underlying t = some d := by
  unfold undOf at h
  cases hi : (typesTr P).get t with
  | none => rw [hi] at h; simp at h
  | some i =>
    rw [hi] at h
    have h1 := typesTr_get hi
    unfold Program.underlying
    rw [h1]
    dsimp only at h
    cases hd : i.desc with
    | named n u =>
      rw [hd] at h
      simp only [Option.map_eq_some_iff] at h
      obtain ⟨j, hj, rfl⟩ := h
      have h2 := typesTr_get hj
      obtain ⟨desc, rest⟩ := i
      simp only at hd
      subst hd
      simp [h2]
    | _ =>
      rw [hd] at h
      obtain ⟨desc, rest⟩ := i
      simp only at hd
      subst hd
      simpa using h

theorem tyOf_ok {plain : TypeId → Option (List Nat)} (hplain : ∀ {t pat}, plain t = some pat → P.eqGuardType P.depth t = false ∧ ∀ xs ys b w, eqCells pat xs ys = some b → (Op.equal t (.agg ⟨xs⟩) (.agg ⟨ys⟩)).run P w = .ok b w) :
    (tyOf (typesTr P) plain).Ok P where
  und h := undOf_ok h
  size {t n} h := by
    simp only [tyOf] at h
    split at h
    · rename_i i hi
      cases hb : Nat.ble i.bytes 4096 with
      | false => rw [hb] at h; simp at h
      | true =>
        rw [hb] at h; simp only [cond_true, Option.some.injEq] at h
        exact ⟨i, typesTr_get hi, h, Nat.ble_eq.mp hb⟩
    · cases h
  zero {t z} h := by
    have hsz : ∀ i n, (typesTr P).get t = some i → (tyOf (typesTr P) plain).size t = some n → i.size = n := fun i n hi hn => by
      simp only [tyOf, hi] at hn
      cases hb : Nat.ble i.bytes 4096 with
      | false => rw [hb] at hn; simp at hn
      | true => rw [hb] at hn; simpa using hn
    have hagg : ∀ (d : TypeDesc) g, undOf (typesTr P) t = some d → (tyOf (typesTr P) plain).agg t = some g → g = isAggD d := fun d g hd hg => by
      unfold Ty.agg at hg
      simp only [tyOf, hd] at hg
      cases d <;> simp at hg <;> subst hg <;> rfl
    simp only [tyOf] at h
    split at h
    case h_2 => cases h
    rename_i i d hi hd
    have h1 := typesTr_get hi
    have aggCase : ∀ cs : Array Value, i.zero = some (.agg cs) → isAggD d = true → (bif cs.toList.all atomOk && Nat.beq cs.toList.length i.size then some cs.toList else none) = some z →
        ∃ i v, P.info? t = some i ∧ i.zero = some v ∧ v.cells.toList = z ∧ (∀ μ, VsRel μ z z) ∧ (∀ g c, (tyOf (typesTr P) plain).agg t = some g → AM.mk g z = some c → c = v) ∧ (∀ n, (tyOf (typesTr P) plain).size t = some n → z.length = n) := fun cs hz hda hb => by
      cases hbb : (cs.toList.all atomOk && Nat.beq cs.toList.length i.size) with
      | false => rw [hbb] at hb; simp at hb
      | true =>
        rw [hbb] at hb; simp only [cond_true, Option.some.injEq] at hb
        subst hb
        simp only [Bool.and_eq_true] at hbb
        refine ⟨i, _, h1, hz, rfl, fun μ => atomsOk_rel hbb.1, fun g c hg hm => ?_, fun n hn => ?_⟩
        · have := hagg _ _ hd hg
          rw [hda] at this
          subst this
          simp only [AM.mk, cond_true, Option.some.injEq] at hm
          exact hm.symm
        · rw [← hsz i n hi hn]; exact Nat.eq_of_beq_eq_true hbb.2
    have oneCase : ∀ v : Value, i.zero = some v → isAggD d = false → (bif atomOk v && Nat.beq i.size 1 then some [v] else none) = some z →
        ∃ i v, P.info? t = some i ∧ i.zero = some v ∧ v.cells.toList = z ∧ (∀ μ, VsRel μ z z) ∧ (∀ g c, (tyOf (typesTr P) plain).agg t = some g → AM.mk g z = some c → c = v) ∧ (∀ n, (tyOf (typesTr P) plain).size t = some n → z.length = n) := fun v hz hda hb => by
      cases hbb : (atomOk v && Nat.beq i.size 1) with
      | false => rw [hbb] at hb; simp at hb
      | true =>
        rw [hbb] at hb; simp only [cond_true, Option.some.injEq] at hb
        subst hb
        simp only [Bool.and_eq_true] at hbb
        have hcells : v.cells.toList = [v] := by
          have := hbb.1
          cases v <;> first | rfl | (simp [atomOk] at this)
        refine ⟨i, v, h1, hz, hcells, fun μ => .cons (atomOk_rel hbb.1) .nil, fun g c hg hm => ?_, fun n hn => ?_⟩
        · have := hagg _ _ hd hg
          rw [hda] at this
          subst this
          simp only [AM.mk, cond_false, Option.some.injEq] at hm
          exact hm.symm
        · rw [← hsz i n hi hn]; simpa using (Nat.eq_of_beq_eq_true hbb.2).symm
    cases hz : i.zero with
    | none => rw [hz] at h; cases d <;> simp at h
    | some v =>
      rw [hz] at h
      cases hda : isAggD d with
      | true =>
        have : ∃ cs, v = .agg cs ∧ (bif cs.toList.all atomOk && Nat.beq cs.toList.length i.size then some cs.toList else none) = some z := by
          cases d <;> simp only [isAggD, Bool.false_eq_true] at hda <;> (cases v <;> first | (cases h; done) | exact ⟨_, rfl, h⟩)
        obtain ⟨cs, rfl, hb⟩ := this
        exact aggCase cs hz hda hb
      | false =>
        refine oneCase v hz hda ?_
        cases d <;> simp only [isAggD, Bool.true_eq_false] at hda <;> exact h
  plain := hplain
  impl {tx t b} h := by
    simp only [tyOf] at h
    split at h
    case h_2 => cases h
    rename_i want i hw hi
    simp only [Option.some.injEq] at h
    exact ⟨want, i, undOf_ok hw, typesTr_get hi, by rw [implB_eq]; exact h⟩
  meth {t m f} h := fun v w => by
    simp only [tyOf, methOf] at h
    split at h
    case h_2 => cases h
    rename_i i hi
    split at h
    case h_2 => cases h
    rename_i r hr
    have h1 := typesTr_get hi
    have hfind : i.methods.find? (·.name == m) = some r := by simpa using hr
    have hti : (typeInfo t).run P w = .ok i w := by simp [typeInfo, Sem.run, h1]
    have key : ∃ pr d, r.path.toList = [] ∧ r.func = some (f, pr) ∧ undOf (typesTr P) t = some d ∧ ((pr = true ∧ ∃ e, d = .pointer e) ∨ (pr = false ∧ ∀ e, d ≠ .pointer e)) := by
      generalize hpl : r.path.toList = pl at h
      generalize hfn : r.func = fo at h
      generalize hu : undOf (typesTr P) t = ud at h
      split at h
      · cases h; exact ⟨true, _, rfl, rfl, rfl, .inl ⟨rfl, _, rfl⟩⟩
      · cases h
      · rename_i hne
        cases h
        exact ⟨false, _, rfl, rfl, rfl, .inr ⟨rfl, fun e he => hne e he⟩⟩
      · cases h
    obtain ⟨pr, d, k1, k2, k3, k4⟩ := key
    have hu := undOf_ok k3
    have hund : (underlying t).run P w = .ok d w := by simp [underlying, Sem.run, hu]
    have hrec : ∀ wr, (receiverAt t (.val v) pr wr).run P w = .ok v w := fun wr => by
      unfold receiverAt
      rcases k4 with ⟨rfl, e, rfl⟩ | ⟨rfl, hne⟩
      · simp [Sem.run_bind, hund, Place.get]
      · cases d <;> first | exact (hne _ rfl).elim | simp [Sem.run_bind, hund, Place.get]
    have hm : ∀ n, (method (n + 1) t v m).run P w = .ok (f, v) w := fun n => by
      simp only [method, Sem.run_bind, hti, Result.andThen_ok, hfind, k1, follow, Sem.run_pure, k2, hrec]
    exact hm (P.types.size + 99)

end Go.AM

namespace Go.AM
variable {P : Program}

/-- The kinds of a struct's cells, field by field; 'g': those of a field's type. -/
noncomputable def flatFs (g : TypeId → Option (List Nat)) : Nat → List Field → Option (List Nat)
  | _, [] => some []
  | i, f :: fs => bif Nat.beq f.offset i && !(f.name == "_") then match g f.type with
      | some p => (flatFs g (i + p.length) fs).map (p ++ ·)
      | none => none
    else none
/-- The kinds of a type's cells (0: bool, 1: int, 2: string), structs within structs. -/
noncomputable def flatT (tb : Tr TypeInfo) (ok : TypeId → Bool) : Nat → TypeId → Option (List Nat)
  | 0, _ => none
  | n + 1, t => match undOf tb t with
    | some .bool => some [0]
    | some (.int _) => some [1]
    | some .string => some [2]
    | some (.struct fs) => bif ok t then match flatFs (flatT tb ok n) 0 fs.toList, tb.get t with
        | some p, some i => bif Nat.beq i.size p.length then some p else none
        | _, _ => none
      else none
    | _ => none

noncomputable def plainOf (tb : Tr TypeInfo) (ok : TypeId → Bool) (t : TypeId) : Option (List Nat) := match undOf tb t with
  | some (.struct _) => flatT tb ok 6 t
  | _ => none

theorem flat_cons {g : TypeId → Option (List Nat)} {i : Nat} {f : Field} {fs : List Field} {pat : List Nat} (h : flatFs g i (f :: fs) = some pat) :
    f.offset = i ∧ f.name ≠ "_" ∧ ∃ p q, pat = p ++ q ∧ g f.type = some p ∧ flatFs g (i + p.length) fs = some q := by
  unfold flatFs at h
  cases hb : (Nat.beq f.offset i && !(f.name == "_")) with
  | false => rw [hb] at h; simp at h
  | true =>
    rw [hb] at h
    simp only [Bool.and_eq_true, Bool.not_eq_true', beq_eq_false_iff_ne] at hb
    refine ⟨Nat.eq_of_beq_eq_true hb.1, hb.2, ?_⟩
    simp only [cond_true] at h
    split at h
    · rename_i p hp
      obtain ⟨q, h1, rfl⟩ := Option.map_eq_some_iff.1 h
      exact ⟨p, q, rfl, hp, h1⟩
    · cases h

theorem flat_cases {ok : TypeId → Bool} {n : Nat} {t : TypeId} {p : List Nat} (h : flatT (typesTr P) ok (n + 1) t = some p) :
    (p = [0] ∧ P.underlying t = some .bool) ∨ (p = [1] ∧ ∃ k, P.underlying t = some (.int k)) ∨ (p = [2] ∧ P.underlying t = some .string) ∨
      (∃ fs i, P.underlying t = some (.struct fs) ∧ ok t = true ∧ flatFs (flatT (typesTr P) ok n) 0 fs.toList = some p ∧ P.info? t = some i ∧ i.size = p.length) := by
  unfold flatT at h
  split at h
  · rename_i hu; cases h; exact .inl ⟨rfl, undOf_ok hu⟩
  · rename_i k hu; cases h; exact .inr (.inl ⟨rfl, k, undOf_ok hu⟩)
  · rename_i hu; cases h; exact .inr (.inr (.inl ⟨rfl, undOf_ok hu⟩))
  · rename_i fs hu
    cases ho : ok t with
    | false => rw [ho] at h; simp at h
    | true =>
      rw [ho] at h
      simp only [cond_true] at h
      split at h
      · rename_i p' i hp hi
        cases hb : Nat.beq i.size p'.length with
        | false => rw [hb] at h; simp at h
        | true =>
          rw [hb] at h
          simp only [cond_true, Option.some.injEq] at h
          subst h
          exact .inr (.inr (.inr ⟨fs, i, undOf_ok hu, rfl, hp, typesTr_get hi, Nat.eq_of_beq_eq_true hb⟩))
      · cases h
  · cases h

theorem flat_guard {ok : TypeId → Bool} : ∀ (n d : Nat) (t : TypeId) (p : List Nat), flatT (typesTr P) ok n t = some p → n ≤ d → P.eqGuardType d t = false
  | 0, _, _, _, h, _ => by simp [flatT] at h
  | n + 1, 0, _, _, _, hd => by omega
  | n + 1, d + 1, t, p, h, hd => by
    unfold Program.eqGuardType
    rcases flat_cases h with ⟨_, hu⟩ | ⟨_, k, hu⟩ | ⟨_, hu⟩ | ⟨fs, i, hu, _, hf, _⟩
    · rw [hu]
    · rw [hu]
    · rw [hu]
    · rw [hu]
      simp only
      rw [← Array.any_toList]
      have : ∀ (fs : List Field) (i : Nat) (pat : List Nat), flatFs (flatT (typesTr P) ok n) i fs = some pat → (fs.any fun f => f.name != "_" && P.eqGuardType d f.type) = false := by
        intro fs
        induction fs with
        | nil => intro _ _ _; rfl
        | cons f fs ih =>
          intro i pat hp
          obtain ⟨_, _, p, q, _, h1, h2⟩ := flat_cons hp
          rw [List.any_cons, ih _ _ h2, flat_guard n d _ _ h1 (by omega)]; simp
      exact this _ _ _ hf

theorem eqCells_append {b : Bool} : ∀ (p q : List Nat) (as bs : List Value), eqCells (p ++ q) as bs = some b →
    (eqCells p (as.take p.length) (bs.take p.length) = some true ∧ eqCells q (as.drop p.length) (bs.drop p.length) = some b) ∨ (eqCells p (as.take p.length) (bs.take p.length) = some false ∧ b = false)
  | [], q, as, bs, h => .inl ⟨by simp [eqCells], by simpa using h⟩
  | c :: p, q, [], bs, h => by simp [eqCells] at h
  | c :: p, q, a :: as, [], h => by simp [eqCells] at h
  | c :: p, q, a :: as, x :: bs, h => by
    simp only [List.cons_append, eqCells] at h
    simp only [List.length_cons, List.take_succ_cons, List.drop_succ_cons, eqCells]
    cases hc : eqCell c a x with
    | none => rw [hc] at h; simp at h
    | some r =>
      rw [hc] at h
      cases r with
      | true => exact eqCells_append p q as bs h
      | false => simp only [Option.some.injEq] at h; exact .inr ⟨rfl, h.symm⟩

theorem flatPart {t : TypeId} {u : TypeDesc} (hu : P.underlying t = some u) (hn : isAggD u = false) {cs : Array Value} {i : Nat} {v : Value} (hv : cs[i]? = some v) (w : World) :
    (part t cs i).run P w = .ok v w := by
  have : (isAgg t).run P w = .ok false w := by
    unfold isAgg
    cases u <;> simp [isAggD] at hn <;> simp [Sem.run, underlying, hu]
  unfold part
  simp only [Sem.run_bind, this, Result.andThen_ok, Bool.false_eq_true, if_false, hv, Sem.run_pure]

theorem one_cell {c : Nat} {b : Bool} {as bs : List Value} (h : eqCells [c] as bs = some b) : ∃ x y, as = [x] ∧ bs = [y] ∧ eqCell c x y = some b ∨ ∃ x y as' bs', as = x :: as' ∧ bs = y :: bs' ∧ eqCell c x y = some b := by
  cases as with
  | nil => simp [eqCells] at h
  | cons x as =>
    cases bs with
    | nil => simp [eqCells] at h
    | cons y bs =>
      simp only [eqCells] at h
      cases hc : eqCell c x y with
      | none => rw [hc] at h; simp at h
      | some r =>
        rw [hc] at h
        cases r with
        | false => simp at h; subst h; exact ⟨x, y, .inr ⟨x, y, as, bs, rfl, rfl, hc⟩⟩
        | true =>
          cases as with
          | nil => cases bs with
            | nil => simp [eqCells] at h; subst h; exact ⟨x, y, .inl ⟨rfl, rfl, hc⟩⟩
            | cons _ _ => simp [eqCells] at h
          | cons _ _ => simp [eqCells] at h

theorem head_get {xs : List Value} {off n : Nat} {x : Value} {l : List Value} (h : (xs.drop off).take n = x :: l) : xs[off]? = some x := by
  cases n with
  | zero => simp at h
  | succ n =>
    cases hd : xs.drop off with
    | nil => rw [hd] at h; simp at h
    | cons y ys =>
      rw [hd] at h
      simp at h
      have : (xs.drop off)[0]? = some y := by rw [hd]; rfl
      rw [← h.1]
      simpa using this

theorem flat_run {ok : TypeId → Bool} (hok : ∀ t, ok t = true → P.stoodInHeld t = false) (w : World) : ∀ (n : Nat) (t : TypeId) (p : List Nat) (M : Nat) (xs ys : List Value) (off : Nat) (b : Bool), flatT (typesTr P) ok n t = some p → n ≤ M →
    eqCells p ((xs.drop off).take p.length) ((ys.drop off).take p.length) = some b →
    ∃ vx vy, (part t ⟨xs⟩ off).run P w = .ok vx w ∧ (part t ⟨ys⟩ off).run P w = .ok vy w ∧ (Op.equalIn (M + 1) t vx vy).run P w = .ok b w
  | 0, _, _, _, _, _, _, _, h, _, _ => by simp [flatT] at h
  | n + 1, t, p, M, xs, ys, off, b, h, hM, he => by
    have basic : ∀ c u, p = [c] → P.underlying t = some u → isAggD u = false → (∀ x y, eqCell c x y = some b → (Op.equalIn (M + 1) t x y).run P w = .ok b w) →
        ∃ vx vy, (part t ⟨xs⟩ off).run P w = .ok vx w ∧ (part t ⟨ys⟩ off).run P w = .ok vy w ∧ (Op.equalIn (M + 1) t vx vy).run P w = .ok b w := fun c u hp hu hn heq => by
      subst hp
      obtain ⟨x, y, h1 | ⟨x, y, as, bs, h1, h2, h3⟩⟩ := one_cell he
      · obtain ⟨h1, h2, h3⟩ := h1
        exact ⟨x, y, flatPart hu hn (by simpa using head_get h1) w, flatPart hu hn (by simpa using head_get h2) w, heq x y h3⟩
      · exact ⟨x, y, flatPart hu hn (by simpa using head_get h1) w, flatPart hu hn (by simpa using head_get h2) w, heq x y h3⟩
    rcases flat_cases h with ⟨rfl, hu⟩ | ⟨rfl, k, hu⟩ | ⟨rfl, hu⟩ | ⟨fs, i, hu, hok', hf, hi, hsz⟩
    · refine basic 0 _ rfl hu rfl fun x y hr => ?_
      cases x <;> cases y <;> simp only [eqCell] at hr <;> first | (cases hr; done) | skip
      cases hr
      exact run_equalIn_bool' w M _ _ _ hu
    · refine basic 1 _ rfl hu rfl fun x y hr => ?_
      cases x <;> cases y <;> simp only [eqCell] at hr <;> first | (cases hr; done) | skip
      rename_i k1 a k2 b
      split at hr
      · rename_i hk; subst hk; cases hr; exact run_equalIn_int w M _ _ _ _ _ hu
      · cases hr
    · refine basic 2 _ rfl hu rfl fun x y hr => ?_
      cases x <;> cases y <;> simp only [eqCell] at hr <;> first | (cases hr; done) | skip
      rename_i a b
      cases hr
      rw [run_equalIn_string w M _ _ _ hu, ByteArray.toList_eq, ByteArray.toList_eq]
    · have hagg : (isAgg t).run P w = .ok true w := by
        unfold isAgg; simp [Sem.run, underlying, hu]
      have hpart : ∀ zs : List Value, (part t ⟨zs⟩ off).run P w = .ok (.agg ⟨(zs.drop off).take p.length⟩) w := fun zs => by
        unfold part
        simp only [Sem.run_bind, hagg, Result.andThen_ok, if_true, run_size hi, Sem.run_pure, hsz]
        congr 3
        apply Array.ext'
        rw [Array.toList_extract]
        simp [List.extract]
      refine ⟨_, _, hpart xs, hpart ys, ?_⟩
      have hfo : P.fieldsOf t = fs := by unfold Program.fieldsOf; rw [hu]
      rw [run_equalIn_agg w M t _ _ (by rw [hfo]; exact hu) (hok t hok'), hfo]
      obtain ⟨M, rfl⟩ : ∃ m, M = m + 1 := ⟨M - 1, by omega⟩
      have go : ∀ (fs : List Field) (i : Nat) (pat : List Nat) (as bs : List Value) (b : Bool), flatFs (flatT (typesTr P) ok n) i fs = some pat → eqCells pat (as.drop i) (bs.drop i) = some b → (Op.eqFields (M + 1) ⟨as⟩ ⟨bs⟩ fs).run P w = .ok b w := by
        intro fs
        induction fs with
        | nil =>
          intro i pat as bs b hp he
          simp only [flatFs, Option.some.injEq] at hp
          subst hp
          cases hx : as.drop i <;> cases hy : bs.drop i <;> rw [hx, hy] at he <;> simp [eqCells] at he
          subst he; rfl
        | cons f fs ih =>
          intro i pat as bs b hp he
          obtain ⟨h0, hn, p, q, rfl, h1, h2⟩ := flat_cons hp
          unfold Op.eqFields
          rw [if_pos hn]
          rcases eqCells_append p q _ _ he with ⟨e1, e2⟩ | ⟨e1, rfl⟩
          · obtain ⟨vx, vy, k1, k2, k3⟩ := flat_run hok w n _ _ M as bs i true h1 (by omega) e1
            rw [h0]
            simp only [Sem.run_bind, k1, k2, k3, Result.andThen_ok, Bool.not_true, Bool.false_eq_true, if_false]
            exact ih _ _ _ _ _ h2 (by simpa [List.drop_drop] using e2)
          · obtain ⟨vx, vy, k1, k2, k3⟩ := flat_run hok w n _ _ M as bs i false h1 (by omega) e1
            rw [h0]
            simp only [Sem.run_bind, k1, k2, k3, Result.andThen_ok, Bool.not_false, if_true, Sem.run_pure]
      exact go fs.toList 0 p _ _ b hf (by simpa using he)

theorem eqCells_len {b : Bool} : ∀ (p : List Nat) (as bs : List Value), eqCells p as bs = some b → eqCells p (as.take p.length) (bs.take p.length) = some b := fun p as bs h => by
  have := eqCells_append p [] as bs (by simpa using h)
  rcases this with ⟨h1, h2⟩ | ⟨h1, rfl⟩
  · cases hx : as.drop p.length <;> cases hy : bs.drop p.length <;> rw [hx, hy] at h2 <;> simp [eqCells] at h2
    subst h2; exact h1
  · exact h1

theorem flat_fields {ok : TypeId → Bool} (hok : ∀ t, ok t = true → P.stoodInHeld t = false) (w : World) {n M : Nat} (hM : n ≤ M) : ∀ (fs : List Field) (i : Nat) (pat : List Nat) (as bs : List Value) (b : Bool), flatFs (flatT (typesTr P) ok n) i fs = some pat →
    eqCells pat (as.drop i) (bs.drop i) = some b → (Op.eqFields (M + 1) ⟨as⟩ ⟨bs⟩ fs).run P w = .ok b w
  | [], i, pat, as, bs, b, hp, he => by
    simp only [flatFs, Option.some.injEq] at hp
    subst hp
    cases hx : as.drop i <;> cases hy : bs.drop i <;> rw [hx, hy] at he <;> simp [eqCells] at he
    subst he; rfl
  | f :: fs, i, pat, as, bs, b, hp, he => by
    obtain ⟨h0, hn, p, q, rfl, h1, h2⟩ := flat_cons hp
    unfold Op.eqFields
    rw [if_pos hn]
    rcases eqCells_append p q _ _ he with ⟨e1, e2⟩ | ⟨e1, rfl⟩
    · obtain ⟨vx, vy, k1, k2, k3⟩ := flat_run hok w n _ _ M as bs i true h1 hM e1
      rw [h0]
      simp only [Sem.run_bind, k1, k2, k3, Result.andThen_ok, Bool.not_true, Bool.false_eq_true, if_false]
      exact flat_fields hok w hM fs _ _ _ _ _ h2 (by simpa [List.drop_drop] using e2)
    · obtain ⟨vx, vy, k1, k2, k3⟩ := flat_run hok w n _ _ M as bs i false h1 hM e1
      rw [h0]
      simp only [Sem.run_bind, k1, k2, k3, Result.andThen_ok, Bool.not_false, if_true, Sem.run_pure]

theorem plainOf_ok {ok : TypeId → Bool} (hok : ∀ t, ok t = true → P.stoodInHeld t = false) {t : TypeId} {pat : List Nat} (h : plainOf (typesTr P) ok t = some pat) :
    P.eqGuardType P.depth t = false ∧ ∀ xs ys b w, eqCells pat xs ys = some b → (Op.equal t (.agg ⟨xs⟩) (.agg ⟨ys⟩)).run P w = .ok b w := by
  unfold plainOf at h
  split at h
  case h_2 => cases h
  rename_i fs0 hu0
  have hu0 := undOf_ok hu0
  refine ⟨flat_guard 6 _ _ _ h (by unfold Program.depth Made.depth; omega), fun xs ys b w he => ?_⟩
  rcases flat_cases (n := 5) h with ⟨_, hu⟩ | ⟨_, k, hu⟩ | ⟨_, hu⟩ | ⟨fs, i, hu, hok', hf, _⟩
  · rw [hu] at hu0; cases hu0
  · rw [hu] at hu0; cases hu0
  · rw [hu] at hu0; cases hu0
  · have hfo : P.fieldsOf t = fs := by unfold Program.fieldsOf; rw [hu]
    show (Op.equalIn (9999 + 1) t _ _).run P w = _
    rw [run_equalIn_agg w 9999 t _ _ (by rw [hfo]; exact hu) (hok t hok'), hfo]
    exact flat_fields (M := 9998) hok w (by omega) fs.toList 0 _ _ _ _ hf (by simpa using he)

/-! the machine of a given program -/
noncomputable def okFn (fn : Func) : Bool := !(fn.name == "runtime.NumGoroutine") && (match fn.body with | some c => codeOk fn.ntmps c | none => true)
noncomputable def fnOf (fs : Tr Func) (f : FuncId) : Option Func := match fs.get f with
  | some fn => bif okFn fn then some fn else none
  | none => none

noncomputable def prOf (P : Program) (ok : TypeId → Bool) (nat : FuncId → Option (Rec → (low : Lw) → List Value → AH → Option (Value × AH))) : Pr :=
  ⟨tyOf (typesTr P) (plainOf (typesTr P) ok), fnOf (funcsTr P), nat⟩

theorem prOf_ok {ok : TypeId → Bool} (hok : ∀ t, ok t = true → P.stoodInHeld t = false) (hm : P.follows .mixedOrders = true)
    {nat : FuncId → Option (Rec → (low : Lw) → List Value → AH → Option (Value × AH))}
    (hnat : ∀ f g, nat f = some g → ∀ r, SimRec P r → ∀ low args h v h', g r low args h = some (v, h') → low.le h.next → Callable P f ∧ AKept low h h' ∧
      ∀ F n μ w cs, Wd F → Rel μ h w → VsRel μ args cs → CallsIn F n P f ⟨cs⟩ w (KPost low μ w v h') ∧ CallsDIn F n P f ⟨cs⟩ .returning w (fun e u w' => u = .returning ∧ KPost low μ w v h' e w')) :
    (prOf P ok nat).Ok P where
  ty := tyOf_ok fun h => plainOf_ok hok h
  fn f fn h := by
    simp only [prOf, fnOf] at h
    split at h
    · rename_i fn' hf
      cases ho : okFn fn' with
      | false => rw [ho] at h; simp at h
      | true =>
        rw [ho] at h; simp only [cond_true, Option.some.injEq] at h
        subst h
        simp only [okFn, Bool.and_eq_true, Bool.not_eq_true'] at ho
        refine ⟨funcsTr_get hf, ho.1, fun c hc => ?_⟩
        have := ho.2
        rw [hc] at this; exact this
    · cases h
  mixed := hm
  nat := hnat

end Go.AM

namespace Go.AM

section force
variable {R : Type}

noncomputable def fN_z (k : Nat → R) : R := k 0
noncomputable def fN_s (m : Nat) (_ : (Nat → R) → R) (k : Nat → R) : R := k (Nat.succ m)
noncomputable def fN (n : Nat) (k : Nat → R) : R := Nat.rec (motive := fun _ => (Nat → R) → R) fN_z fN_s n k
theorem fN_eq (n : Nat) (k : Nat → R) : fN n k = k n := by cases n <;> rfl

noncomputable def fB (b : Bool) (k : Bool → R) : R := Bool.rec (motive := fun _ => R) (k false) (k true) b
theorem fB_eq (b : Bool) (k : Bool → R) : fB b k = k b := by cases b <;> rfl

noncomputable def fI (z : Int) (k : Int → R) : R := Int.rec (motive := fun _ => R) (fun n => fN n fun n => k (.ofNat n)) (fun n => fN n fun n => k (.negSucc n)) z
theorem fI_eq (z : Int) (k : Int → R) : fI z k = k z := by unfold fI; cases z <;> exact fN_eq _ _

noncomputable def fOpt {α : Type} (f : α → (α → R) → R) (o : Option α) (k : Option α → R) : R := Option.rec (motive := fun _ => R) (k none) (fun a => f a fun a => k (some a)) o
theorem fOpt_eq {α : Type} {f : α → (α → R) → R} (hf : ∀ x k, f x k = k x) (o : Option α) (k : Option α → R) : fOpt f o k = k o := by
  unfold fOpt
  cases o
  · rfl
  · exact hf _ _

noncomputable def fA (a : Addr) (k : Addr → R) : R := Addr.rec (motive := fun _ => R) (fun b o s => fN b fun b => fN o fun o => fOpt fN s fun s => k ⟨b, o, s⟩) a
theorem fA_eq (a : Addr) (k : Addr → R) : fA a k = k a := by
  obtain ⟨b, o, s⟩ := a
  unfold fA
  dsimp only
  rw [fN_eq, fN_eq, fOpt_eq fN_eq]

noncomputable def fK (i : IntKind) (k : IntKind → R) : R := IntKind.rec (motive := fun _ => R) (k .i8) (k .i16) (k .i32) (k .i64) (k .u8) (k .u16) (k .u32) (k .u64) i
theorem fK_eq (i : IntKind) (k : IntKind → R) : fK i k = k i := by cases i <;> rfl

noncomputable def fStr (s : ByteArray) (k : ByteArray → R) : R := ByteArray.rec (motive := fun _ => R) (fun d => Array.rec (motive := fun _ => R) (fun l => k ⟨⟨l⟩⟩) d) s
theorem fStr_eq (s : ByteArray) (k : ByteArray → R) : fStr s k = k s := by obtain ⟨⟨l⟩⟩ := s; rfl

/-- force a value that is no aggregate -/
noncomputable def fV0_bool (b : Bool) (k : Value → R) : R := fB b fun b => k (.bool b)
noncomputable def fV0_int (i : IntKind) (n : Int) (k : Value → R) : R := fK i fun i => fI n fun n => k (.int i n)
noncomputable def fV0_float (a : FloatKind) (b : Nat) (k : Value → R) : R := k (.float a b)
noncomputable def fV0_complex (a : FloatKind) (b c : Nat) (k : Value → R) : R := k (.complex a b c)
noncomputable def fV0_string (s : ByteArray) (k : Value → R) : R := fStr s fun s => k (.string s)
noncomputable def fV0_pointer (a : Option Addr) (k : Value → R) : R := fOpt fA a fun a => k (.pointer a)
noncomputable def fV0_slice (a : Option Addr) (l c : Nat) (k : Value → R) : R := fOpt fA a fun a => fN l fun l => fN c fun c => k (.slice a l c)
noncomputable def fV0_map (r : Option Nat) (k : Value → R) : R := k (.map r)
noncomputable def fV0_chan (r : Option Nat) (k : Value → R) : R := k (.chan r)
noncomputable def fV0_func (f : Fn) (a b : Array Value) (k : Value → R) : R := k (.func f a b)
noncomputable def fV0_nilFunc (k : Value → R) : R := k .nilFunc
noncomputable def fV0_iface (t : TypeId) (v : Value) (k : Value → R) : R := k (.iface t v)
noncomputable def fV0_nilIface (k : Value → R) : R := k .nilIface
noncomputable def fV0_agg (cs : Array Value) (k : Value → R) : R := k (.agg cs)
noncomputable def fV0_tuple (cs : Array Value) (k : Value → R) : R := k (.tuple cs)
noncomputable def fV0 (v : Value) (k : Value → R) : R :=
  Value.casesOn (motive_1 := fun _ => (Value → R) → R) v fV0_bool fV0_int fV0_float fV0_complex fV0_string fV0_pointer fV0_slice fV0_map fV0_chan fV0_func fV0_nilFunc fV0_iface fV0_nilIface fV0_agg fV0_tuple k
theorem fV0_eq (v : Value) (k : Value → R) : fV0 v k = k v := by
  cases v
  case bool b => show fB b (fun b => k (.bool b)) = _; rw [fB_eq]
  case int i n => show fK i (fun i => fI n fun n => k (.int i n)) = _; rw [fK_eq, fI_eq]
  case string s => show fStr s (fun s => k (.string s)) = _; rw [fStr_eq]
  case pointer a => show fOpt fA a (fun a => k (.pointer a)) = _; rw [fOpt_eq fA_eq]
  case slice a l c => show fOpt fA a (fun a => fN l fun l => fN c fun c => k (.slice a l c)) = _; rw [fOpt_eq fA_eq, fN_eq, fN_eq]
  all_goals rfl

noncomputable def fL {α : Type} (f : α → (α → R) → R) (l : List α) : (List α → R) → R :=
  List.rec (motive := fun _ => (List α → R) → R) (fun k => k []) (fun a _ ih k => f a fun a => ih fun l => k (a :: l)) l
theorem fL_eq {α : Type} {f : α → (α → R) → R} (hf : ∀ x k, f x k = k x) : ∀ (l : List α) (k : List α → R), fL f l k = k l
  | [], k => rfl
  | a :: l, k => by
    show f a (fun a => fL f l fun l => k (a :: l)) = _
    rw [hf]
    exact fL_eq hf l _

noncomputable def fArr {α : Type} (f : α → (α → R) → R) (l : Array α) (k : Array α → R) : R := Array.rec (motive := fun _ => R) (fun l => fL f l fun l => k ⟨l⟩) l
theorem fArr_eq {α : Type} {f : α → (α → R) → R} (hf : ∀ x k, f x k = k x) (l : Array α) (k : Array α → R) : fArr f l k = k l := by
  obtain ⟨l⟩ := l; unfold fArr; exact fL_eq hf _ _

noncomputable def fV1_bool (b : Bool) (k : Value → R) : R := fB b fun b => k (.bool b)
noncomputable def fV1_int (i : IntKind) (n : Int) (k : Value → R) : R := fK i fun i => fI n fun n => k (.int i n)
noncomputable def fV1_float (a : FloatKind) (b : Nat) (k : Value → R) : R := k (.float a b)
noncomputable def fV1_complex (a : FloatKind) (b c : Nat) (k : Value → R) : R := k (.complex a b c)
noncomputable def fV1_string (s : ByteArray) (k : Value → R) : R := fStr s fun s => k (.string s)
noncomputable def fV1_pointer (a : Option Addr) (k : Value → R) : R := fOpt fA a fun a => k (.pointer a)
noncomputable def fV1_slice (a : Option Addr) (l c : Nat) (k : Value → R) : R := fOpt fA a fun a => fN l fun l => fN c fun c => k (.slice a l c)
noncomputable def fV1_map (r : Option Nat) (k : Value → R) : R := k (.map r)
noncomputable def fV1_chan (r : Option Nat) (k : Value → R) : R := k (.chan r)
noncomputable def fV1_func (f : Fn) (a b : Array Value) (k : Value → R) : R := fArr fV0 a fun a => fArr fV0 b fun b => k (.func f a b)
noncomputable def fV1_nilFunc (k : Value → R) : R := k .nilFunc
noncomputable def fV1_iface (t : TypeId) (v : Value) (k : Value → R) : R := fN t fun t => fV0 v fun v => k (.iface t v)
noncomputable def fV1_nilIface (k : Value → R) : R := k .nilIface
noncomputable def fV1_agg (cs : Array Value) (k : Value → R) : R := fArr fV0 cs fun cs => k (.agg cs)
noncomputable def fV1_tuple (cs : Array Value) (k : Value → R) : R := fArr fV0 cs fun cs => k (.tuple cs)
noncomputable def fV1 (v : Value) (k : Value → R) : R :=
  Value.casesOn (motive_1 := fun _ => (Value → R) → R) v fV1_bool fV1_int fV1_float fV1_complex fV1_string fV1_pointer fV1_slice fV1_map fV1_chan fV1_func fV1_nilFunc fV1_iface fV1_nilIface fV1_agg fV1_tuple k
theorem fV1_eq (v : Value) (k : Value → R) : fV1 v k = k v := by
  cases v
  case bool b => show fB b (fun b => k (.bool b)) = _; rw [fB_eq]
  case int i n => show fK i (fun i => fI n fun n => k (.int i n)) = _; rw [fK_eq, fI_eq]
  case string s => show fStr s (fun s => k (.string s)) = _; rw [fStr_eq]
  case pointer a => show fOpt fA a (fun a => k (.pointer a)) = _; rw [fOpt_eq fA_eq]
  case slice a l c => show fOpt fA a (fun a => fN l fun l => fN c fun c => k (.slice a l c)) = _; rw [fOpt_eq fA_eq, fN_eq, fN_eq]
  case func f a b => show (fArr fV0 a fun a => fArr fV0 b fun b => k (.func f a b)) = _; rw [fArr_eq fV0_eq, fArr_eq fV0_eq]
  case iface t v => show (fN t fun t => fV0 v fun v => k (.iface t v)) = _; rw [fN_eq, fV0_eq]
  case agg cs => show (fArr fV0 cs fun cs => k (.agg cs)) = _; rw [fArr_eq fV0_eq]
  case tuple cs => show (fArr fV0 cs fun cs => k (.tuple cs)) = _; rw [fArr_eq fV0_eq]
  all_goals rfl

/-- force a value -/
noncomputable def fV_bool (b : Bool) (k : Value → R) : R := fB b fun b => k (.bool b)
noncomputable def fV_int (i : IntKind) (n : Int) (k : Value → R) : R := fK i fun i => fI n fun n => k (.int i n)
noncomputable def fV_float (a : FloatKind) (b : Nat) (k : Value → R) : R := k (.float a b)
noncomputable def fV_complex (a : FloatKind) (b c : Nat) (k : Value → R) : R := k (.complex a b c)
noncomputable def fV_string (s : ByteArray) (k : Value → R) : R := fStr s fun s => k (.string s)
noncomputable def fV_pointer (a : Option Addr) (k : Value → R) : R := fOpt fA a fun a => k (.pointer a)
noncomputable def fV_slice (a : Option Addr) (l c : Nat) (k : Value → R) : R := fOpt fA a fun a => fN l fun l => fN c fun c => k (.slice a l c)
noncomputable def fV_map (r : Option Nat) (k : Value → R) : R := k (.map r)
noncomputable def fV_chan (r : Option Nat) (k : Value → R) : R := k (.chan r)
noncomputable def fV_func (f : Fn) (a b : Array Value) (k : Value → R) : R := fArr fV1 a fun a => fArr fV1 b fun b => k (.func f a b)
noncomputable def fV_nilFunc (k : Value → R) : R := k .nilFunc
noncomputable def fV_iface (t : TypeId) (v : Value) (k : Value → R) : R := fN t fun t => fV1 v fun v => k (.iface t v)
noncomputable def fV_nilIface (k : Value → R) : R := k .nilIface
noncomputable def fV_agg (cs : Array Value) (k : Value → R) : R := fArr fV0 cs fun cs => k (.agg cs)
noncomputable def fV_tuple (cs : Array Value) (k : Value → R) : R := fArr fV1 cs fun cs => k (.tuple cs)
noncomputable def fV (v : Value) (k : Value → R) : R :=
  Value.casesOn (motive_1 := fun _ => (Value → R) → R) v fV_bool fV_int fV_float fV_complex fV_string fV_pointer fV_slice fV_map fV_chan fV_func fV_nilFunc fV_iface fV_nilIface fV_agg fV_tuple k
theorem fV_eq (v : Value) (k : Value → R) : fV v k = k v := by
  cases v
  case bool b => show fB b (fun b => k (.bool b)) = _; rw [fB_eq]
  case int i n => show fK i (fun i => fI n fun n => k (.int i n)) = _; rw [fK_eq, fI_eq]
  case string s => show fStr s (fun s => k (.string s)) = _; rw [fStr_eq]
  case pointer a => show fOpt fA a (fun a => k (.pointer a)) = _; rw [fOpt_eq fA_eq]
  case slice a l c => show fOpt fA a (fun a => fN l fun l => fN c fun c => k (.slice a l c)) = _; rw [fOpt_eq fA_eq, fN_eq, fN_eq]
  case func f a b => show (fArr fV1 a fun a => fArr fV1 b fun b => k (.func f a b)) = _; rw [fArr_eq fV1_eq, fArr_eq fV1_eq]
  case iface t v => show (fN t fun t => fV1 v fun v => k (.iface t v)) = _; rw [fN_eq, fV1_eq]
  case agg cs => show (fArr fV0 cs fun cs => k (.agg cs)) = _; rw [fArr_eq fV0_eq]
  case tuple cs => show (fArr fV1 cs fun cs => k (.tuple cs)) = _; rw [fArr_eq fV1_eq]
  all_goals rfl

noncomputable def fE (e : Value × Value × Nat) (k : Value × Value × Nat → R) : R :=
  Prod.rec (motive := fun _ => R) (fun a b => Prod.rec (motive := fun _ => R) (fun b c => fV1 a fun a => fV1 b fun b => fN c fun c => k (a, b, c)) b) e
theorem fE_eq (e : Value × Value × Nat) (k : Value × Value × Nat → R) : fE e k = k e := by
  obtain ⟨a, b, c⟩ := e
  unfold fE
  dsimp only
  rw [fV1_eq, fV1_eq, fN_eq]
noncomputable def fOth (x : AOth) (k : AOth → R) : R :=
  AOth.rec (motive := fun _ => R) (fun b => fB b fun b => k (.dfr b)) (fun e c => fOpt fE e fun e => fN c fun c => k (.map e c))
    (fun m s l o => fN m fun m => fN s fun s => fN l fun l => fOpt fN o fun o => k (.iter m s l o)) x
theorem fOth_eq (x : AOth) (k : AOth → R) : fOth x k = k x := by
  unfold fOth
  cases x
  case dfr b => exact fB_eq _ _
  case map e c => dsimp only; rw [fOpt_eq fE_eq, fN_eq]
  case iter m s l o => dsimp only; rw [fN_eq, fN_eq, fN_eq, fOpt_eq fN_eq]
noncomputable def fObj (o : AObj) (k : AObj → R) : R :=
  AObj.rec (motive := fun _ => R) (fun cs m ro => fL fV0 cs fun cs => fN m fun m => fB ro fun ro => k (.cells cs m ro)) (fun y => k (.loop y)) (fun b => fOth b fun b => k (.oth b)) o
theorem fObj_eq (o : AObj) (k : AObj → R) : fObj o k = k o := by
  unfold fObj
  cases o
  case cells cs m ro => dsimp only; rw [fL_eq fV0_eq, fN_eq, fB_eq]
  case loop y => rfl
  case oth b => exact fOth_eq _ _

/-! paths -/
inductive Pth where
  | z
  | l (p : Pth)
  | r (p : Pth)

noncomputable def pthF (n : Nat) : Nat → Pth :=
  Nat.rec (motive := fun _ => Nat → Pth) (fun _ => .z)
    (fun _ ih k => Bool.rec (motive := fun _ => Pth) (Bool.rec (motive := fun _ => Pth) (.r (ih (Nat.sub (Nat.div k 2) 1))) (.l (ih (Nat.div k 2))) (Nat.beq (Nat.mod k 2) 1)) .z (Nat.beq k 0)) n
noncomputable def pth (k : Nat) : Pth := pthF k k

theorem pthF_succ (n k : Nat) : pthF (n + 1) k = if k = 0 then .z else if k % 2 = 1 then .l (pthF n (k / 2)) else .r (pthF n (k / 2 - 1)) := by
  show (Bool.rec (motive := fun _ => Pth) (Bool.rec (motive := fun _ => Pth) (.r (pthF n (Nat.sub (Nat.div k 2) 1))) (.l (pthF n (Nat.div k 2))) (Nat.beq (Nat.mod k 2) 1)) .z (Nat.beq k 0)) = _
  by_cases h0 : k = 0
  · subst h0; rfl
  · have e0 : Nat.beq k 0 = false := beqF h0
    rw [e0, if_neg h0]
    by_cases h1 : k % 2 = 1
    · have e1 : Nat.beq (Nat.mod k 2) 1 = true := beqT h1
      rw [e1, if_pos h1]; rfl
    · have e1 : Nat.beq (Nat.mod k 2) 1 = false := beqF h1
      rw [e1, if_neg h1]; rfl

variable {α : Type}

noncomputable def gP_v (v : Option α) (d : R) (k : α → R) : R := Option.rec (motive := fun _ => R) d k v
noncomputable def gP_zl (d : R) (_ : α → R) : R := d
noncomputable def gP_zn (_ : Tr α) (v : Option α) (_ : Tr α) (_ _ : R → (α → R) → R) (d : R) (k : α → R) : R := gP_v v d k
noncomputable def gP_z (d : R) (t : Tr α) (k : α → R) : R := Tr.rec (motive := fun _ => R → (α → R) → R) gP_zl gP_zn t d k
noncomputable def gP_ll (_ : R → Tr α → (α → R) → R) (d : R) (_ : α → R) : R := d
noncomputable def gP_ln (l : Tr α) (_ : Option α) (_ : Tr α) (_ _ : (R → Tr α → (α → R) → R) → R → (α → R) → R) (ih : R → Tr α → (α → R) → R) (d : R) (k : α → R) : R := ih d l k
noncomputable def gP_rn (_ : Tr α) (_ : Option α) (r : Tr α) (_ _ : (R → Tr α → (α → R) → R) → R → (α → R) → R) (ih : R → Tr α → (α → R) → R) (d : R) (k : α → R) : R := ih d r k
noncomputable def gP_l (_ : Pth) (ih : R → Tr α → (α → R) → R) (d : R) (t : Tr α) (k : α → R) : R := Tr.rec (motive := fun _ => (R → Tr α → (α → R) → R) → R → (α → R) → R) gP_ll gP_ln t ih d k
noncomputable def gP_r (_ : Pth) (ih : R → Tr α → (α → R) → R) (d : R) (t : Tr α) (k : α → R) : R := Tr.rec (motive := fun _ => (R → Tr α → (α → R) → R) → R → (α → R) → R) gP_ll gP_rn t ih d k
noncomputable def gP (d : R) (p : Pth) (t : Tr α) (k : α → R) : R :=
  Pth.rec (motive := fun _ => R → Tr α → (α → R) → R) gP_z gP_l gP_r p d t k

theorem gP_leaf (d : R) (p : Pth) (k : α → R) : gP d p .leaf k = d := by cases p <;> rfl
theorem gP_eq (d : R) (k : α → R) : ∀ (n i : Nat) (t : Tr α), i ≤ n → gP d (pthF n i) t k = (t.get i).elim d k
  | 0, i, t, h => by
    have : i = 0 := by omega
    subst this
    cases t with
    | leaf => rfl
    | node l v r => rw [Tr.get_node, if_pos rfl]; cases v <;> rfl
  | n + 1, i, .leaf, h => by rw [gP_leaf, Tr.get_leaf]; rfl
  | n + 1, i, .node l v r, h => by
    rw [pthF_succ, Tr.get_node]
    by_cases h0 : i = 0
    · rw [if_pos h0, if_pos h0]; cases v <;> rfl
    · rw [if_neg h0, if_neg h0]
      by_cases h1 : i % 2 = 1
      · rw [if_pos h1, if_pos h1]; exact gP_eq d k n _ l (by omega)
      · rw [if_neg h1, if_neg h1]; exact gP_eq d k n _ r (by omega)

noncomputable def sP_zl (v : α) (k : Tr α → R) : R := k (.node .leaf (some v) .leaf)
noncomputable def sP_zn (l : Tr α) (_ : Option α) (r : Tr α) (_ _ : α → (Tr α → R) → R) (v : α) (k : Tr α → R) : R := k (.node l (some v) r)
noncomputable def sP_z (t : Tr α) (v : α) (k : Tr α → R) : R := Tr.rec (motive := fun _ => α → (Tr α → R) → R) sP_zl sP_zn t v k
noncomputable def sP_kl (x : Option α) (r : Tr α) (k : Tr α → R) (l : Tr α) : R := k (.node l x r)
noncomputable def sP_kr (l : Tr α) (x : Option α) (k : Tr α → R) (r : Tr α) : R := k (.node l x r)
noncomputable def sP_ll (ih : Tr α → α → (Tr α → R) → R) (v : α) (k : Tr α → R) : R := ih .leaf v (sP_kl none .leaf k)
noncomputable def sP_rl (ih : Tr α → α → (Tr α → R) → R) (v : α) (k : Tr α → R) : R := ih .leaf v (sP_kr .leaf none k)
noncomputable def sP_ln (l : Tr α) (x : Option α) (r : Tr α) (_ _ : (Tr α → α → (Tr α → R) → R) → α → (Tr α → R) → R) (ih : Tr α → α → (Tr α → R) → R) (v : α) (k : Tr α → R) : R := ih l v (sP_kl x r k)
noncomputable def sP_rn (l : Tr α) (x : Option α) (r : Tr α) (_ _ : (Tr α → α → (Tr α → R) → R) → α → (Tr α → R) → R) (ih : Tr α → α → (Tr α → R) → R) (v : α) (k : Tr α → R) : R := ih r v (sP_kr l x k)
noncomputable def sP_l (_ : Pth) (ih : Tr α → α → (Tr α → R) → R) (t : Tr α) (v : α) (k : Tr α → R) : R := Tr.rec (motive := fun _ => (Tr α → α → (Tr α → R) → R) → α → (Tr α → R) → R) sP_ll sP_ln t ih v k
noncomputable def sP_r (_ : Pth) (ih : Tr α → α → (Tr α → R) → R) (t : Tr α) (v : α) (k : Tr α → R) : R := Tr.rec (motive := fun _ => (Tr α → α → (Tr α → R) → R) → α → (Tr α → R) → R) sP_rl sP_rn t ih v k
noncomputable def sP (p : Pth) (t : Tr α) (v : α) (k : Tr α → R) : R :=
  Pth.rec (motive := fun _ => Tr α → α → (Tr α → R) → R) sP_z sP_l sP_r p t v k

theorem Tr.single_fuel (x : α) : ∀ (n m k : Nat), k ≤ n → k ≤ m → Tr.single n k x = Tr.single m k x
  | 0, 0, _, _, _ => rfl
  | 0, m + 1, k, h, _ => by
    have : k = 0 := by omega
    subst this; rw [Tr.single_succ, if_pos rfl]; rfl
  | n + 1, 0, k, _, h => by
    have : k = 0 := by omega
    subst this; rw [Tr.single_succ, if_pos rfl]; rfl
  | n + 1, m + 1, k, h, h' => by
    rw [Tr.single_succ, Tr.single_succ]
    by_cases h0 : k = 0
    · rw [if_pos h0, if_pos h0]
    · rw [if_neg h0, if_neg h0, Tr.single_fuel x n m (k / 2) (by omega) (by omega), Tr.single_fuel x n m (k / 2 - 1) (by omega) (by omega)]

theorem Tr.set_leaf (k : Nat) (x : α) : (Tr.leaf : Tr α).set k x = if k = 0 then .node .leaf (some x) .leaf else if k % 2 = 1 then .node ((Tr.leaf : Tr α).set (k / 2) x) none .leaf else .node .leaf none ((Tr.leaf : Tr α).set (k / 2 - 1) x) := by
  show Tr.single k k x = _
  cases k with
  | zero => rfl
  | succ n =>
    rw [Tr.single_succ]
    show _ = if n + 1 = 0 then _ else if (n + 1) % 2 = 1 then Tr.node (Tr.single _ _ x) none .leaf else Tr.node .leaf none (Tr.single _ _ x)
    rw [Tr.single_fuel x n ((n + 1) / 2) ((n + 1) / 2) (by omega) (by omega), Tr.single_fuel x n ((n + 1) / 2 - 1) ((n + 1) / 2 - 1) (by omega) (by omega)]

theorem sP_eq (x : α) : ∀ (n i : Nat) (t : Tr α) (k : Tr α → R), i ≤ n → sP (pthF n i) t x k = k (t.set i x)
  | 0, i, t, k, h => by
    have : i = 0 := by omega
    subst this
    cases t <;> rfl
  | n + 1, i, .leaf, k, h => by
    rw [pthF_succ, Tr.set_leaf]
    by_cases h0 : i = 0
    · rw [if_pos h0, if_pos h0]; rfl
    · rw [if_neg h0, if_neg h0]
      by_cases h1 : i % 2 = 1
      · rw [if_pos h1, if_pos h1]; exact sP_eq x n _ .leaf _ (by omega)
      · rw [if_neg h1, if_neg h1]; exact sP_eq x n _ .leaf _ (by omega)
  | n + 1, i, .node l v r, k, h => by
    rw [pthF_succ, Tr.set_node]
    by_cases h0 : i = 0
    · rw [if_pos h0, if_pos h0]; rfl
    · rw [if_neg h0, if_neg h0]
      by_cases h1 : i % 2 = 1
      · rw [if_pos h1, if_pos h1]; exact sP_eq x n _ l _ (by omega)
      · rw [if_neg h1, if_neg h1]; exact sP_eq x n _ r _ (by omega)

/-- force a tree along a path -/
noncomputable def fP (f : α → (α → R) → R) (p : Pth) : Tr α → (Tr α → R) → R :=
  Pth.rec (motive := fun _ => Tr α → (Tr α → R) → R)
    (fun t k => Tr.rec (motive := fun _ => R) (k .leaf) (fun l v r _ _ => fOpt f v fun v => k (.node l v r)) t)
    (fun _ ih t k => Tr.rec (motive := fun _ => R) (k .leaf) (fun l v r _ _ => ih l fun l => k (.node l v r)) t)
    (fun _ ih t k => Tr.rec (motive := fun _ => R) (k .leaf) (fun l v r _ _ => ih r fun r => k (.node l v r)) t) p
theorem fP_eq {f : α → (α → R) → R} (hf : ∀ x k, f x k = k x) : ∀ (p : Pth) (t : Tr α) (k : Tr α → R), fP f p t k = k t
  | .z, t, k => by
    cases t with
    | leaf => rfl
    | node l v r => show fOpt f v (fun v => k (.node l v r)) = _; rw [fOpt_eq hf]
  | .l p, t, k => by
    cases t with
    | leaf => rfl
    | node l v r => show fP f p l (fun l => k (.node l v r)) = _; rw [fP_eq hf p]
  | .r p, t, k => by
    cases t with
    | leaf => rfl
    | node l v r => show fP f p r (fun r => k (.node l v r)) = _; rw [fP_eq hf p]

/-! lists -/
/-- what comes behind the first i: one look more a place, behind a look at the place before -/
noncomputable def dropC (l : List α) (i : Nat) : List α := Nat.rec (motive := fun _ => List α) l (fun _ t => List.rec (motive := fun _ => List α) [] (fun _ t _ => t) t) i
theorem dropC_eq (l : List α) : ∀ i, dropC l i = l.drop i
  | 0 => rfl
  | i + 1 => by
    show List.rec (motive := fun _ => List α) [] (fun _ t _ => t) (dropC l i) = _
    rw [dropC_eq l i, ← List.drop_drop]
    cases l.drop i <;> rfl
/-- the i-th -/
noncomputable def nthK (d : R) (l : List α) (i : Nat) (k : α → R) : R := List.rec (motive := fun _ => R) d (fun a _ _ => k a) (dropC l i)
theorem nthK_eq (d : R) (l : List α) (i : Nat) (k : α → R) : nthK d l i k = (l[i]?).elim d k := by
  unfold nthK
  rw [dropC_eq]
  have : (l.drop i)[0]? = l[i]? := by simp
  rw [← this]
  cases l.drop i <;> rfl

/-- what comes behind the first i, and of it n -/
noncomputable def takeK (l : List α) : Nat → (List α → R) → R :=
  List.rec (motive := fun _ => Nat → (List α → R) → R) (fun _ k => k []) (fun a _ ih i k => Nat.rec (motive := fun _ => R) (k []) (fun j _ => ih j fun l => k (a :: l)) i) l
theorem takeK_eq : ∀ (l : List α) (i : Nat) (k : List α → R), takeK l i k = k (l.take i)
  | [], i, k => by simp [takeK]
  | a :: l, 0, k => by rfl
  | a :: l, i + 1, k => by
    show takeK l i (fun l => k (a :: l)) = _
    rw [takeK_eq l i]; rfl
noncomputable def dropK (l : List α) (i : Nat) (k : List α → R) : R := List.rec (motive := fun _ => R) (k []) (fun a t _ => k (a :: t)) (dropC l i)
theorem dropK_eq (l : List α) (i : Nat) (k : List α → R) : dropK l i k = k (l.drop i) := by
  unfold dropK
  rw [dropC_eq]
  cases l.drop i <;> rfl
/-- write one -/
noncomputable def setK (l : List α) : Nat → α → (List α → R) → R :=
  List.rec (motive := fun _ => Nat → α → (List α → R) → R) (fun _ _ k => k []) (fun a t ih i x k => Nat.rec (motive := fun _ => R) (k (x :: t)) (fun j _ => ih j x fun l => k (a :: l)) i) l
theorem setK_eq (x : α) : ∀ (l : List α) (i : Nat) (k : List α → R), setK l i x k = k (l.set i x)
  | [], i, k => by simp [setK]
  | a :: l, 0, k => by rfl
  | a :: l, i + 1, k => by
    show setK l i x (fun l => k (a :: l)) = _
    rw [setK_eq x l i]; rfl
noncomputable def appK (l : List α) : List α → (List α → R) → R :=
  List.rec (motive := fun _ => List α → (List α → R) → R) (fun m k => k m) (fun a _ ih m k => ih m fun l => k (a :: l)) l
theorem appK_eq (m : List α) : ∀ (l : List α) (k : List α → R), appK l m k = k (l ++ m)
  | [], k => by rfl
  | a :: l, k => by
    show appK l m (fun l => k (a :: l)) = _
    rw [appK_eq m l]; rfl
end force

/-! operands -/
inductive FO where
  | t (p : Pth)
  | c (v : Value)

noncomputable def foOf (x : Operand) : FO := match x with
  | .tmp t => .t (pth t)
  | .const v => .c v
  | .global _ => .c (.chan none)
  | .func f => .c (.func (.func f) #[] #[])

section op
variable {R : Type}
noncomputable def ev (env : Tr Value) (x : FO) (k : Value → R) : R := FO.rec (motive := fun _ => R) (fun p => gP (k undef) p env k) k x
theorem ev_eq (env : Tr Value) (x : Operand) (k : Value → R) : ev env (foOf x) k = k ((Env.mk env).eval x) := by
  cases x with
  | tmp t =>
    show gP (k undef) (pthF t t) env k = k ((env.get t).getD undef)
    rw [gP_eq _ _ t t env (Nat.le_refl _)]
    cases env.get t <;> rfl
  | const v => rfl
  | global g => rfl
  | func f => rfl

noncomputable def evs (env : Tr Value) (l : List FO) : (List Value → R) → R :=
  List.rec (motive := fun _ => (List Value → R) → R) (fun k => k []) (fun x _ ih k => ev env x fun v => ih fun vs => k (v :: vs)) l
theorem evs_eq (env : Tr Value) : ∀ (l : List Operand) (k : List Value → R), evs env (l.map foOf) k = k (l.map (Env.mk env).eval)
  | [], k => rfl
  | x :: l, k => by
    show ev env (foOf x) (fun v => evs env (l.map foOf) fun vs => k (v :: vs)) = _
    rw [ev_eq]
    exact evs_eq env l _

/-! what a value is -/
noncomputable def boolK (v : Value) (a b d : R) : R := match v with
  | .bool b' => Bool.rec (motive := fun _ => R) b a b'
  | _ => d
noncomputable def ptrK_d (_ : Addr → R) (d : R) : R := d
noncomputable def ptrK_n (_ : Addr → R) (d : R) : R := d
noncomputable def ptrK_s (a : Addr) (k : Addr → R) (_ : R) : R := k a
noncomputable def ptrK_y (a : Option Addr) (k : Addr → R) (d : R) : R := Option.rec (motive := fun _ => (Addr → R) → R → R) ptrK_n ptrK_s a k d
noncomputable def ptrK (v : Value) (k : Addr → R) (d : R) : R := Value.casesOn (motive_1 := fun _ => (Addr → R) → R → R) v (fun _ => ptrK_d) (fun _ _ => ptrK_d) (fun _ _ => ptrK_d) (fun _ _ _ => ptrK_d) (fun _ => ptrK_d) ptrK_y (fun _ _ _ => ptrK_d) (fun _ => ptrK_d) (fun _ => ptrK_d) (fun _ _ _ => ptrK_d) ptrK_d (fun _ _ => ptrK_d) ptrK_d (fun _ => ptrK_d) (fun _ => ptrK_d) k d
noncomputable def slcK_d (_ : Option Addr → Nat → Nat → R) (d : R) : R := d
noncomputable def slcK_y (a : Option Addr) (n c : Nat) (k : Option Addr → Nat → Nat → R) (_ : R) : R := k a n c
noncomputable def slcK (v : Value) (k : Option Addr → Nat → Nat → R) (d : R) : R := Value.casesOn (motive_1 := fun _ => (Option Addr → Nat → Nat → R) → R → R) v (fun _ => slcK_d) (fun _ _ => slcK_d) (fun _ _ => slcK_d) (fun _ _ _ => slcK_d) (fun _ => slcK_d) (fun _ => slcK_d) slcK_y (fun _ => slcK_d) (fun _ => slcK_d) (fun _ _ _ => slcK_d) slcK_d (fun _ _ => slcK_d) slcK_d (fun _ => slcK_d) (fun _ => slcK_d) k d
noncomputable def natK_d (_ : Nat → R) (d : R) : R := d
noncomputable def natK_o (n : Nat) (k : Nat → R) (_ : R) : R := k n
noncomputable def natK_n (_ : Nat) (_ : Nat → R) (d : R) : R := d
noncomputable def natK_y (_ : IntKind) (n : Int) (k : Nat → R) (d : R) : R := Int.rec (motive := fun _ => (Nat → R) → R → R) natK_o natK_n n k d
noncomputable def natK (v : Value) (k : Nat → R) (d : R) : R := Value.casesOn (motive_1 := fun _ => (Nat → R) → R → R) v (fun _ => natK_d) natK_y (fun _ _ => natK_d) (fun _ _ _ => natK_d) (fun _ => natK_d) (fun _ => natK_d) (fun _ _ _ => natK_d) (fun _ => natK_d) (fun _ => natK_d) (fun _ _ _ => natK_d) natK_d (fun _ _ => natK_d) natK_d (fun _ => natK_d) (fun _ => natK_d) k d
noncomputable def aggK_d (_ : List Value → R) (d : R) : R := d
noncomputable def aggK_y (cs : Array Value) (k : List Value → R) (_ : R) : R := k cs.toList
noncomputable def aggK (v : Value) (k : List Value → R) (d : R) : R := Value.casesOn (motive_1 := fun _ => (List Value → R) → R → R) v (fun _ => aggK_d) (fun _ _ => aggK_d) (fun _ _ => aggK_d) (fun _ _ _ => aggK_d) (fun _ => aggK_d) (fun _ => aggK_d) (fun _ _ _ => aggK_d) (fun _ => aggK_d) (fun _ => aggK_d) (fun _ _ _ => aggK_d) aggK_d (fun _ _ => aggK_d) aggK_d aggK_y (fun _ => aggK_d) k d
noncomputable def tupK_d (_ : List Value → R) (d : R) : R := d
noncomputable def tupK_y (cs : Array Value) (k : List Value → R) (_ : R) : R := k cs.toList
noncomputable def tupK (v : Value) (k : List Value → R) (d : R) : R := Value.casesOn (motive_1 := fun _ => (List Value → R) → R → R) v (fun _ => tupK_d) (fun _ _ => tupK_d) (fun _ _ => tupK_d) (fun _ _ _ => tupK_d) (fun _ => tupK_d) (fun _ => tupK_d) (fun _ _ _ => tupK_d) (fun _ => tupK_d) (fun _ => tupK_d) (fun _ _ _ => tupK_d) tupK_d (fun _ _ => tupK_d) tupK_d (fun _ => tupK_d) tupK_y k d

/-! cells -/
/-- the cells of a block, for a look at [off, off + n) -/
noncomputable def cK_n (_ : List Value) (_ off n : Nat) (_ : List Value → Nat → R) (d : R) : R := d
noncomputable def cK_s (e : Nat) (cs : List Value) (m off n : Nat) (k : List Value → Nat → R) (d : R) : R :=
  Bool.rec (motive := fun _ => R) d (Bool.rec (motive := fun _ => R) d (k cs off) (Nat.ble (Nat.add off n) e)) (Nat.ble m e)
noncomputable def cK_c (cs : List Value) (m : Nat) (_ : Bool) (off : Nat) (s : Option Nat) (n : Nat) (k : List Value → Nat → R) (d : R) : R :=
  Option.rec (motive := fun _ => List Value → Nat → Nat → Nat → (List Value → Nat → R) → R → R) cK_n cK_s s cs m off n k d
noncomputable def cK_x (_ : Nat) (_ : Option Nat) (_ : Nat) (_ : List Value → Nat → R) (d : R) : R := d
noncomputable def cK_o (off : Nat) (s : Option Nat) (n : Nat) (k : List Value → Nat → R) (d : R) (o : AObj) : R :=
  AObj.rec (motive := fun _ => Nat → Option Nat → Nat → (List Value → Nat → R) → R → R) cK_c (fun _ => cK_x) (fun _ => cK_x) o off s n k d
noncomputable def cK_a (b off : Nat) (s : Option Nat) (tr : Tr AObj) (next n : Nat) (k : List Value → Nat → R) (d : R) : R :=
  Bool.rec (motive := fun _ => R) (gP d (pth b) tr (cK_o off s n k d)) d (Nat.ble next b)
noncomputable def cellsK (tr : Tr AObj) (next : Nat) (a : Addr) (n : Nat) (k : List Value → Nat → R) (d : R) : R :=
  Addr.rec (motive := fun _ => Tr AObj → Nat → Nat → (List Value → Nat → R) → R → R) cK_a a tr next n k d

noncomputable def load1_k (d : R) (k : Value → R) (cs : List Value) (off : Nat) : R := nthK d cs off k
noncomputable def load1K (tr : Tr AObj) (next : Nat) (a : Addr) (k : Value → R) (d : R) : R := cellsK tr next a 1 (load1_k d k) d
noncomputable def loadNK (tr : Tr AObj) (next : Nat) (a : Addr) (n : Nat) (k : List Value → R) (d : R) : R := cellsK tr next a n (fun cs off => dropK cs off fun cs => takeK cs n k) d

theorem cellsK_eq (tr : Tr AObj) (next : Nat) (a : Addr) (n : Nat) (k : List Value → Nat → R) (d : R) :
    cellsK tr next a n k d = match (AH.mk next tr).get a.block, a.spot with
      | some (.cells cs m _), some e => bif Nat.ble m e && Nat.ble (a.off + n) e then k cs a.off else d
      | _, _ => d := by
  obtain ⟨b, off, s⟩ := a
  show Bool.rec (motive := fun _ => R) (gP d (pthF b b) tr (cK_o off s n k d)) d (Nat.ble next b) = _
  unfold AH.get
  simp only
  cases Nat.ble next b with
  | true => rfl
  | false =>
    simp only [cond_false]
    rw [gP_eq _ _ b b tr (Nat.le_refl _)]
    cases tr.get b with
    | none => rfl
    | some o =>
      cases o with
      | cells cs m ro =>
        cases s with
        | none => rfl
        | some e =>
          simp only [Option.elim_some]
          show Bool.rec (motive := fun _ => R) d (Bool.rec (motive := fun _ => R) d (k cs off) (Nat.ble (off + n) e)) (Nat.ble m e) = _
          cases Nat.ble m e <;> cases Nat.ble (off + n) e <;> rfl
      | loop y => rfl
      | oth b => rfl
end op

end Go.AM

