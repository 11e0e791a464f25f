/- An abstract machine for programs of this language, part 2: what it computes is what a call of the program does. Holds: AmJ: append.; AmK: append, carried out.; AmL: every operation.; AmM: calls, builtins, type assertions.; AmN: every operation is sound.; AmO: every operation is sound.; AmPure: operations that look at no heap, without one.; AmP: what it is that the abstract machine simulates; operations.; AmQ: records of loops; yields; one operation of an activation.. -/
import Derived.Test.YtankbhnmpmhldaaGreatDoorAm1
import Derived.Laws.BytesString
import Derived.Laws.IdiomRangeMap
import Derived.Maps.RangeRun

set_option linter.unusedSectionVars false
set_option linter.unusedSimpArgs false
set_option linter.unusedVariables false

namespace Go.AM
variable {P : Program} {L : Ty} {μ : Mu} {w : World}

theorem reps_length (z : List Value) (n : Nat) : (reps z n).length = n * z.length := by
  induction n with
  | zero => simp [reps]
  | succ n ih => simp [reps, ih, Nat.succ_mul]; omega

theorem reps_get (z : List Value) : ∀ (n i : Nat), i < n * z.length → (reps z n)[i]? = z[i % z.length]?
  | 0, i, h => by simp at h
  | n + 1, i, h => by
    have hz : 0 < z.length := by
      rcases Nat.eq_zero_or_pos z.length with e | e
      · rw [e] at h; simp at h
      · exact e
    unfold reps
    by_cases hi : i < z.length
    · rw [List.getElem?_append_left hi, Nat.mod_eq_of_lt hi]
    · rw [List.getElem?_append_right (by omega), reps_get z n (i - z.length) (by rw [Nat.succ_mul] at h; omega)]
      conv => rhs; rw [Nat.mod_eq_sub_mod (by omega)]

theorem zeroCells_eq (z : Array Value) (n : Nat) : (Builtin.zeroCells z n).toList = reps z.toList n := by
  apply List.ext_getElem?
  intro i
  unfold Builtin.zeroCells
  by_cases hi : i < n * z.size
  · rw [reps_get z.toList n i (by simpa using hi)]
    have hz : 0 < z.size := by
      rcases Nat.eq_zero_or_pos z.size with e | e
      · rw [e] at hi; simp at hi
      · exact e
    have hm : i % z.size < z.size := Nat.mod_lt _ hz
    simp [hi, hm]
  · rw [List.getElem?_eq_none (by simp; omega), List.getElem?_eq_none (by rw [reps_length]; simp; omega)]

theorem lenV_run {x c : Value} {n : Nat} (h : lenV x = some n) (hx : VRel μ x c) : (Builtin.lenOf c).run P w = .ok n w := by
  cases hx <;> simp [lenV] at h <;> subst h <;> rfl

theorem rd_draws {h : AH} (hr : Rel μ h w) (k : Nat) : Rel μ h { w with drawn := k } := ⟨hr.dom, hr.cells, hr.sep, hr.loops, hr.oth⟩

theorem seq_run {h : AH} (hr : Rel μ h w) {esz n : Nat} {x c : Value} {vs : List Value} (hv : seqCells h esz n x = some vs) (hx : VRel μ x c) :
    vs.length = n * esz ∧ ∃ cs : List Value, VsRel μ vs cs ∧ ∀ k, (Builtin.firstCells esz n c).run P { w with drawn := k } = .ok ⟨cs⟩ { w with drawn := k } := by
  unfold seqCells at hv
  split at hv
  · rename_i a len cap
    cases hb : Nat.ble n len with
    | false => rw [hb] at hv; simp at hv
    | true =>
      rw [hb] at hv
      simp only [cond_true] at hv
      rw [Nat.ble_eq] at hb
      cases hx with
      | slice k1 k2 k3 k4 =>
        rename_i e Lc ccap c
        obtain ⟨h1, cs, h2, h3, _⟩ := hr.rd k1 k2 k3 hv
        refine ⟨h1, cs, h2, fun k => ?_⟩
        rcases cap_at k4 with h0 | h0
        · have hle := cap_le k4
          have : n = 0 := by omega
          subst this
          have hcs : cs = [] := by
            have := h2.length; rw [h1] at this; simp at this; exact List.length_eq_zero_iff.mp this.symm
          subst hcs
          simp [Builtin.firstCells, loadCells, loadCellsFrom]
        · subst h0
          exact load_run _ cs (fun j c hj => by rw [show ({ w with drawn := k } : World).cell? = w.cell? from rfl]; exact h3 j c hj) _ (by rw [← h2.length, h1])
  · cases hb : Nat.beq n 0 with
    | false => rw [hb] at hv; simp at hv
    | true =>
      have := Nat.eq_of_beq_eq_true hb
      subst this
      rw [hb] at hv; simp at hv; subst hv
      cases hx
      exact ⟨by simp, [], .nil, fun k => rfl⟩
  · rename_i s
    cases hb : (Nat.ble n s.size && Nat.beq esz 1) with
    | false => rw [hb] at hv; simp at hv
    | true =>
      rw [hb] at hv; simp at hv
      simp only [Bool.and_eq_true, Nat.ble_eq] at hb
      have := Nat.eq_of_beq_eq_true hb.2
      subst this
      cases hx
      have hs : s.data.toList.length = s.size := rfl
      refine ⟨by rw [← hv]; simp; omega, vs, ?_, fun k => ?_⟩
      · rw [← hv]
        refine VsRel.of_get rfl fun i v c hv hc => ?_
        rw [hv] at hc; cases hc
        have hm := List.mem_of_getElem? hv
        have : ∃ b : UInt8, v = .int .u8 b.toNat := by
          have := List.mem_of_mem_take hm
          simp at this
          obtain ⟨b, _, rfl⟩ := this
          exact ⟨b, rfl⟩
        obtain ⟨b, rfl⟩ := this
        exact .int _ _
      · simp only [Builtin.firstCells, Sem.run_pure]
        congr 1
        apply Array.ext'
        rw [← hv, ← List.map_take]
        simp only [Array.toList_map]
        congr 1
        have : (s.extract 0 n).data.toList = s.data.toList.take n := by
          rw [ByteArray.data_extract]; simp
        rw [this]
  · cases hv

theorem growBy_le (need : Nat) : ∀ (r c : Nat), c ≤ need + (need + 768) / 4 → Builtin.growBy need r c ≤ need + (need + 768) / 4
  | 0, c, h => h
  | r + 1, c, h => by
    unfold Builtin.growBy
    split
    · exact h
    · exact growBy_le need r _ (by omega)

theorem nextcap_le {need old : Nat} (h : old < need) : Builtin.nextslicecap need old ≤ 2 * need + 192 := by
  unfold Builtin.nextslicecap
  split
  · omega
  · split
    · omega
    · have := growBy_le need 4 old (by omega)
      omega

end Go.AM

namespace Go.AM
variable {P : Program} {L : Ty} {μ : Mu} {w : World}

def tailA (elem size : Nat) (base : Option Addr) (sLen sCap n : Nat) (zeros : Bool) (s x : Value) (appended : Sem (Array Value)) : Sem Value := do
  let need := sLen + n
  if need ≤ sCap then
    let new ← appended
    if let some a := base then storeCells (a.add (sLen * size)) new.toList
    pure (.slice base need sCap)
  else
    if (need : Int) > IntKind.i64.max ∧ (zeros ∨ (← typeInfo elem).bytes = 0) then runtimePanic (.error "growslice: len out of range")
    if Builtin.nextslicecap need sCap * (← typeInfo elem).bytes > 2 ^ 48 then (if zeros then runtimePanic (.error "growslice: len out of range") else do
      if !(← Builtin.mayShare size sLen n base x) then mark .noRoom
      unsupported (.resourceLimit "append: a slice or a string whose bytes no memory bears"))
    let newCap ← choose (.appendCap need sCap elem)
    askRoom (newCap * (← typeInfo elem).bytes)
    let old ← Builtin.firstCells size sLen s
    let new ← appended
    let rest := Builtin.zeroCells (← zeroValue elem).cells (newCap - need)
    pure (.slice (some (← newRow elem (old ++ new ++ rest))) need newCap)

theorem run_askRoom (n : Nat) : (askRoom n).run P w = .ok () w := by
  unfold askRoom; split <;> rfl

/-- The way to a new row. -/
theorem tailA_new {elem esz : Nat} {ti : TypeInfo} {zv : Value} (hi : P.info? elem = some ti) (hby : ti.bytes ≤ 4096) (hz : ti.zero = some zv)
    {base : Option Addr} {sLen sCap n : Nat} {zeros : Bool} {s x : Value} {appended : Sem (Array Value)} {old new : List Value}
    (hnew : ∀ k, appended.run P { w with drawn := k } = .ok ⟨new⟩ { w with drawn := k }) (hold : ∀ k, (Builtin.firstCells esz sLen s).run P { w with drawn := k } = .ok ⟨old⟩ { w with drawn := k })
    (hsmall : sLen + n ≤ 1073741824) (hneed : sCap < sLen + n) :
    ∃ newCap, sLen + n ≤ newCap ∧ (tailA elem esz base sLen sCap n zeros s x appended).run P w =
      .ok (.slice (some ⟨w.heap.size, 0, none⟩) (sLen + n) newCap)
        { w with heap := w.heap.push (.cells ⟨old ++ new ++ reps zv.cells.toList (newCap - (sLen + n))⟩ elem), drawn := w.drawn + 1 } := by
  have hcap := nextcap_le hneed
  have hmax : ¬ ((sLen + n : Nat) : Int) > IntKind.i64.max := by
    have : IntKind.i64.max = 9223372036854775807 := by decide
    rw [this]; omega
  have hb : ¬ (Builtin.nextslicecap (sLen + n) sCap * ti.bytes > 2 ^ 48) := by
    have h1 : Builtin.nextslicecap (sLen + n) sCap * ti.bytes ≤ (2 * (sLen + n) + 192) * 4096 := Nat.mul_le_mul hcap hby
    have : (2 : Nat) ^ 48 = 281474976710656 := by decide
    omega
  refine ⟨(Question.appendCap (sLen + n) sCap elem).cut (w.tape w.drawn (Question.appendCap (sLen + n) sCap elem)), by simp [Question.cut], ?_⟩
  unfold tailA
  rw [if_neg (by omega)]
  simp only [Sem.run_bind, Sem.run_ite, hmax, false_and, if_false, Sem.run_pure, Result.andThen_ok, run_info hi, hb, choose, Sem.run, Question.forced, Bool.false_eq_true, run_askRoom]
  rw [hold (w.drawn + 1)]
  simp only [Result.andThen_ok]
  rw [hnew (w.drawn + 1)]
  simp only [Result.andThen_ok]
  rw [run_zero (w := { w with drawn := w.drawn + 1 }) hi hz]
  simp only [Result.andThen_ok, newRow, newObj, Sem.run_bind, Sem.run, Sem.run_pure]
  congr 4
  apply Array.ext'
  simp [zeroCells_eq]

/-- The world after one draw. -/
theorem Step.drew {low : Lw} (k : Nat) : Step low μ μ w { w with drawn := k } := ⟨⟨rfl, rfl, rfl, Nat.le_refl _, fun _ _ _ => rfl⟩, Mu.le_refl _, fun _ _ _ h => .inl h⟩


theorem tailA_run (hL : L.Ok P) {h h' : AH} (hr : Rel μ h w) {low : Lw} (hlow : low.le h.next) {elem esz : Nat} {z : List Value} (hsz : L.size elem = some esz) (hzz : L.zero elem = some z)
    {s cs v : Value} {n : Nat} {new newc : List Value} (hv : appendV low h esz s n new = some (v, h')) (hs : VRel μ s cs) (hnl : new.length = n * esz) (hnr : VsRel μ new newc)
    {zeros : Bool} {x : Value} {appended : Sem (Array Value)} (hnew : ∀ k, appended.run P { w with drawn := k } = .ok ⟨newc⟩ { w with drawn := k })
    {base : Option Addr} {sLen sCap : Nat} (hcs : cs = .slice base sLen sCap) (hn0 : n = 0 → newc = []) :
    AKept low h h' ∧ ∃ μ' w' u, (tailA elem esz base sLen sCap n zeros cs x appended).run P w = .ok u w' ∧ Step low μ μ' w w' ∧ Rel μ' h' w' ∧ VRel μ' v u := by
  obtain ⟨ti, hi1, hi2, hby⟩ := hL.size hsz
  obtain ⟨ti', zv, hi1', hzv, hzl, hzr, _, hzs⟩ := hL.zero hzz
  have hz2 : zv.cells.toList.length = esz := by rw [hzl]; exact hzs _ hsz
  rw [hi1] at hi1'; cases hi1'
  unfold appendV at hv
  split at hv
  case h_2 => cases hv
  rename_i abase len cap
  have hlen : len = sLen := by subst hcs; cases hs <;> rfl
  subst hlen
  cases hn : Nat.beq n 0 with
  | true =>
    have := Nat.eq_of_beq_eq_true hn
    subst this
    rw [hn] at hv; simp at hv
    obtain ⟨rfl, rfl⟩ := hv
    have hnc := hn0 rfl
    subst hnc
    have hle : len ≤ sCap := by
      subst hcs
      cases hs with
      | nilSlice => omega
      | slice _ _ _ k4 => exact cap_le k4
    refine ⟨.refl _ _, μ, w, .slice base len sCap, ?_, .refl _ _ _, hr, by rw [← hcs]; exact hs⟩
    unfold tailA
    rw [if_pos (by omega)]
    have h0 := hnew w.drawn
    simp only [Sem.run_bind]
    rw [show w = { w with drawn := w.drawn } from rfl, h0]
    cases base <;> simp [storeCells]
  | false =>
    rw [hn] at hv
    simp only [cond_false] at hv
    have hnpos : 0 < n := by
      rcases Nat.eq_zero_or_pos n with e | e
      · subst e; simp at hn
      · exact e
    cases he : (Nat.beq esz 0 || Nat.ble big esz) with
    | true => rw [he] at hv; simp at hv
    | false =>
    rw [he] at hv
    simp only [cond_false] at hv
    simp only [Bool.or_eq_false_iff] at he
    have hesz : 0 < esz := by
      rcases Nat.eq_zero_or_pos esz with e | e
      · subst e; simp at he
      · exact e
    cases hb : Nat.blt 1073741824 (len + n) with
    | true => rw [hb] at hv; simp at hv
    | false =>
    rw [hb] at hv
    simp only [cond_false] at hv
    have hsmall : len + n ≤ 1073741824 := by
      rcases Nat.lt_or_ge 1073741824 (len + n) with h | h
      · have : Nat.blt 1073741824 (len + n) = true := Nat.ble_eq.mpr h
        rw [this] at hb; cases hb
      · exact h
    cases hx : Nat.beq cap len with
    | true =>
      have := Nat.eq_of_beq_eq_true hx
      subst this
      rw [hx] at hv
      simp only [cond_true] at hv
      cases ho : seqCells h esz cap (.slice abase cap cap) with
      | none => simp [ho] at hv
      | some old =>
        simp only [ho, Option.some.injEq, Prod.mk.injEq] at hv
        obtain ⟨rfl, rfl⟩ := hv
        have hcap : sCap = cap := by
          subst hcs
          cases hs with
          | nilSlice => rfl
          | slice _ _ _ k4 =>
            rcases k4 with ⟨_, k, _⟩ | ⟨e', p, _, q, _⟩ | ⟨q, _⟩
            · exact k
            · omega
            · unfold big at q; omega
        subst hcap
        obtain ⟨holen, oldc, hor, hold⟩ := seq_run (P := P) hr ho hs
        obtain ⟨newCap, hge, hrun⟩ := tailA_new (w := w) hi1 hby hzv (base := base) (sLen := sCap) (sCap := sCap) (n := n) (zeros := zeros) (s := cs) (x := x) hnew hold hsmall (by omega)
        refine ⟨.push _ _, ?_⟩
        have hpush := Rel.push hr (vs := old ++ new) (C := ⟨oldc ++ newc ++ reps zv.cells.toList (newCap - (sCap + n))⟩) (el := elem) (fz := (0, 0)) (fun o v hov => by
          obtain ⟨c, hc1, hc2⟩ := (hor.append hnr).get hov
          refine ⟨c, ?_, hc2⟩
          have hlt := (List.getElem?_eq_some_iff.mp hc1).1
          simp only [List.getElem?_toArray]
          rw [List.getElem?_append_left hlt]; exact hc1) (.inl rfl)
        refine ⟨_, _, _, hrun, ?_, rd_draws hpush (w.drawn + 1), ?_⟩
        · exact (Step.push hr hlow _ _ rfl _).trans (Step.drew _)
        · refine .slice (e := (old ++ new).length) (L := ⟨w.heap.size, 0, 0, _⟩) rfl Mu.set_self (Nat.zero_le _) (.inr (.inl ⟨esz, hesz, ?_, rfl, hge, .inr ⟨rfl, ?_⟩⟩))
          · have := he.2
            rcases Nat.lt_or_ge esz big with h | h
            · exact h
            · rw [Nat.ble_eq.mpr h] at this; cases this
          · simp only [Nat.sub_zero, Nat.zero_add, List.size_toArray, List.length_append, reps_length]
            rw [← hor.length, ← hnr.length, holen, hnl]
            rw [hz2, ← Nat.add_mul, ← Nat.add_mul]
            apply Nat.le_of_eq; congr 1; omega
    | false =>
      rw [hx] at hv
      simp only [cond_false] at hv
      cases hy : Nat.beq cap (len + esz) with
      | false => rw [hy] at hv; simp at hv
      | true =>
        have := Nat.eq_of_beq_eq_true hy
        subst this
        rw [hy] at hv
        simp only [cond_true] at hv
        split at hv
        case h_2 => cases hv
        rename_i a
        split at hv
        case h_2 => cases hv
        rename_i ds m e hg hspot
        cases hc : (low.ok a.block && Nat.beq e ds.length && Nat.ble m e && Nat.beq (a.off + len * esz) e && new.all one1) with
        | false => rw [hc] at hv; simp at hv
        | true =>
          rw [hc] at hv
          simp only [cond_true, Option.some.injEq, Prod.mk.injEq] at hv
          obtain ⟨rfl, rfl⟩ := hv
          simp only [Bool.and_eq_true, Nat.ble_eq] at hc
          obtain ⟨⟨⟨⟨c1, c2⟩, c3⟩, c4⟩, c5⟩ := hc
          have c2 := Nat.eq_of_beq_eq_true c2
          have c4 := Nat.eq_of_beq_eq_true c4
          have hesb : esz < big := by
            have := he.2
            rcases Nat.lt_or_ge esz big with h | h
            · exact h
            · rw [Nat.ble_eq.mpr h] at this; cases this
          have hf := AH.lt_of_get hg
          have hnlp : 0 < new.length := by rw [hnl]; exact Nat.mul_pos hnpos hesz
          have hfresh : μ a.block (e + new.length) = none := by
            cases hx : μ a.block (e + new.length) with
            | none => rfl
            | some Lx => have := (hr.cells _ _ _ _ _ _ hx hg).1; omega
          have hsrc := hs
          subst hcs
          cases hs with
          | slice k1 k2 k3 k4 =>
            rename_i e' Lc c
            rw [k1] at hspot; cases hspot
            obtain ⟨q1, q2, q3, C, hC, hcont⟩ := hr.cells _ _ _ _ _ _ k2 hg
            have hcont := hcont c3
            -- the abstract row grows first
            have hgrow : ∀ {w1 : World}, Rel μ h w1 → Rel μ (h.put a.block (.cells (ds ++ new) m false)) w1 := fun hr1 =>
              hr1.put_cells hg (by simp) (Nat.le_refl _) (fun e1 L1 x1 _ o v _ ho hv => by
                have := (hr1.cells _ _ _ _ _ _ x1 hg).1
                rwa [List.getElem?_append_left (by omega)] at hv)
            have hgg : (h.put a.block (.cells (ds ++ new) m false)).get a.block = some (.cells (ds ++ new) m false) := by rw [AH.get_put _ _ hf, if_pos rfl]
            refine ⟨.put _ _ hf c1, ?_⟩
            by_cases hroom : len + n ≤ sCap
            · -- in place
              rcases k4 with ⟨_, _⟩ | ⟨esz', p1, p1', p2, p3, p4⟩ | ⟨p2, _⟩
              · omega
              · have : esz' = esz := by omega
                subst this
                obtain ⟨rfl, p5⟩ := p4.resolve_left (by omega)
                have hadd : (Lc.at a.off).add (len * esz') = ⟨Lc.blk, Lc.base + (e - Lc.start), none⟩ := by
                  rw [at_add Lc k3, c4]; rfl
                have hncl := hnr.length
                have hsp : n * esz' ≤ (sCap - len) * esz' := Nat.mul_le_mul_right _ (by omega)
                have hsp2 : (sCap - len) * esz' + len * esz' = sCap * esz' := by rw [← Nat.add_mul]; congr 1; omega
                obtain ⟨w', r1, r2, r3, r4, r5, r6, r7⟩ := storeCells_run (P := P) newc (Lc.base + (e - Lc.start)) 0 w C hC (by omega) (by rw [← all_one1 hnr]; exact c5)
                have hlt : ∀ o, Lc.start ≤ o → o < e → Lc.base + (o - Lc.start) < Lc.base + (e - Lc.start) := fun o a b => by omega
                have hold' : ∀ i, i < Lc.base + (e - Lc.start) → (splice C.toList (Lc.base + (e - Lc.start) + 0) newc)[i]? = C[i]? := fun i hi => by
                  unfold splice
                  rw [List.append_assoc, List.getElem?_append_left (by
                    have : C.size = Lc.room := by obtain ⟨_, _, _, q, _⟩ := hC; exact q
                    simp; omega), List.getElem?_take, if_pos (by omega)]
                  simp
                have hnew' : ∀ i, i < newc.length → (splice C.toList (Lc.base + (e - Lc.start) + 0) newc)[Lc.base + (e - Lc.start) + i]? = newc[i]? := fun i hi => by
                  have : C.size = Lc.room := by obtain ⟨_, _, _, q, _⟩ := hC; exact q
                  unfold splice
                  rw [List.append_assoc, List.getElem?_append_right (by simp; omega), List.getElem?_append_left (by simp; omega)]
                  congr 1; simp; omega
                have hR1 : Rel μ h w' := hr.row hg k2 r2 r6 r7 (fun e1 L1 x1 hb1 hm1 o v o1 o2 hov => by
                  have := (hr.cells _ _ _ _ _ _ x1 hg).1
                  obtain ⟨c, s1, s2⟩ := hcont o v o1 (by omega) hov
                  refine ⟨c, ?_, s2⟩
                  simp only [List.getElem?_toArray]
                  rw [hold' _ (hlt o o1 (by omega))]; exact s1)
                have hR2 := (hgrow hR1).ver (e2 := e + new.length) hgg k2 hfresh (by simp; omega) (by omega) (by omega) r2 (fun o v o1 o2 hov => by
                  simp only [List.getElem?_toArray]
                  rcases Nat.lt_or_ge o e with ho | ho
                  · rw [List.getElem?_append_left (by omega)] at hov
                    obtain ⟨c, s1, s2⟩ := hcont o v o1 ho hov
                    exact ⟨c, by rw [hold' _ (hlt o o1 ho)]; exact s1, s2⟩
                  · rw [List.getElem?_append_right (by omega)] at hov
                    obtain ⟨c, s1, s2⟩ := hnr.get hov
                    refine ⟨c, ?_, s2⟩
                    rw [show Lc.base + (o - Lc.start) = Lc.base + (e - Lc.start) + (o - ds.length) from by omega, hnew' _ (by omega)]
                    exact s1)
                refine ⟨_, w', .slice (some (Lc.at a.off)) (len + n) sCap, ?_, ⟨⟨r3, r4, r5, by omega, fun b hb hall => r7 b ?_⟩, Mu.le_set hfresh, fun f1 e1 L1 x1 => ?_⟩, hR2, ?_⟩
                · unfold tailA
                  rw [if_pos hroom]
                  have h0 := hnew w.drawn
                  simp only [Sem.run_bind]
                  rw [show w = { w with drawn := w.drawn } from rfl, h0]
                  simp only [Result.andThen_ok]
                  rw [hadd]
                  have r1' : Sem.run P (storeCells { block := Lc.blk, off := Lc.base + (e - Lc.start) } newc) w = .ok () w' := r1
                  simp [r1']
                · rintro rfl
                  have := hall _ _ _ k2 rfl
                  rw [c1] at this; cases this
                · rcases Mu.set_some x1 with ⟨rfl, rfl, rfl⟩ | x1
                  · exact .inr ⟨c1, .inr ⟨_, _, k2, rfl⟩⟩
                  · exact .inl x1
                · refine .slice (e := e + new.length) (L := Lc) rfl Mu.set_self k3 (.inr (.inl ⟨esz', hesz, hesb, rfl, hroom, .inr ⟨rfl, p5⟩⟩))
              · unfold big at p2 hesb; omega
            · -- anew
              have hold : ∃ old oldc : List Value, old.length = len * esz ∧ (∀ j, j < len * esz → old[j]? = ds[a.off + j]?) ∧ VsRel μ old oldc ∧
                  ∀ k, (Builtin.firstCells esz len (.slice (some c) len sCap)).run P { w with drawn := k } = .ok ⟨oldc⟩ { w with drawn := k } := by
                have hrd : seqCells h esz len (.slice (some a) len (len + esz)) = some ((ds.drop a.off).take (len * esz)) := by
                  unfold seqCells
                  simp only [Nat.ble_self_eq_true, cond_true]
                  unfold AM.rd
                  by_cases h0 : len * esz = 0
                  · rw [beqT h0, h0]; simp
                  · rw [beqF h0, hg, k1]
                    simp only [cond_false]
                    rw [show (Nat.ble m e && Nat.ble (a.off + len * esz) e) = true from by simp only [Bool.and_eq_true, Nat.ble_eq]; omega]
                    rfl
                obtain ⟨l1, oldc, l2, l3⟩ := seq_run (P := P) hr hrd hsrc
                refine ⟨_, oldc, l1, fun j hj => ?_, l2, l3⟩
                rw [List.getElem?_take, if_pos hj, List.getElem?_drop]
              obtain ⟨old, oldc, l1, l1', l2, l3⟩ := hold
              obtain ⟨newCap, hge, hrun⟩ := tailA_new (w := w) hi1 hby hzv (base := some c) (sLen := len) (sCap := sCap) (n := n) (zeros := zeros) (s := .slice (some c) len sCap) (x := x) hnew l3 hsmall (by omega)
              have hCsz : (oldc ++ newc ++ reps zv.cells.toList (newCap - (len + n))).length = newCap * esz := by
                simp only [List.length_append, reps_length]
                rw [← l2.length, ← hnr.length, l1, hnl, hz2, ← Nat.add_mul, ← Nat.add_mul]
                congr 1; omega
              have hge2 : (len + n) * esz ≤ newCap * esz := Nat.mul_le_mul_right _ hge
              rw [Nat.add_mul] at hge2
              have hR2 := (hgrow hr).verNew (e2 := e + new.length) (start := a.off) (C := ⟨oldc ++ newc ++ reps zv.cells.toList (newCap - (len + n))⟩) (el := elem) hgg hfresh (by simp; omega) (by omega)
                (by rw [List.size_toArray, hCsz]; omega) (fun o v o1 o2 hov => by
                  have hlt1 := l2.length
                  have hlt2 := hnr.length
                  simp only [List.getElem?_toArray]
                  rcases Nat.lt_or_ge o e with ho | ho
                  · rw [List.getElem?_append_left (by omega)] at hov
                    have : old[o - a.off]? = some v := by rw [l1' _ (by omega), ← hov]; congr 1; omega
                    obtain ⟨c, s1, s2⟩ := l2.get this
                    refine ⟨c, ?_, s2⟩
                    rw [List.append_assoc, List.getElem?_append_left (by omega)]; exact s1
                  · rw [List.getElem?_append_right (by omega)] at hov
                    obtain ⟨c, s1, s2⟩ := hnr.get hov
                    refine ⟨c, ?_, s2⟩
                    have hlt3 := (List.getElem?_eq_some_iff.mp s1).1
                    rw [List.append_assoc, List.getElem?_append_right (by omega), List.getElem?_append_left (by omega), ← s1]
                    congr 1; omega)
              refine ⟨_, _, _, hrun, ?_, rd_draws hR2 (w.drawn + 1), ?_⟩
              · refine Step.trans (w' := { w with heap := w.heap.push (.cells ⟨oldc ++ newc ++ reps zv.cells.toList (newCap - (len + n))⟩ elem (0, 0)) }) ⟨⟨rfl, rfl, rfl, by simp, fun b hb _ => by simp only; rw [Array.getElem?_push, if_neg (by omega)]⟩, Mu.le_set hfresh, fun f1 e1 L1 x1 => ?_⟩ (Step.drew _)
                rcases Mu.set_some x1 with ⟨rfl, rfl, rfl⟩ | x1
                · exact .inr ⟨c1, .inl (by simp)⟩
                · exact .inl x1
              · refine .slice (e := e + new.length) (L := ⟨w.heap.size, a.off, 0, _⟩) rfl Mu.set_self (Nat.le_refl _) (.inr (.inl ⟨esz, hesz, hesb, rfl, hge, .inr ⟨?_, ?_⟩⟩))
                · simp [Loc.at]
                · simp only [Nat.sub_self, Nat.zero_add, List.size_toArray, hCsz]
                  exact Nat.le_refl _

end Go.AM

namespace Go.AM
variable {P : Program} {L : Ty}

def Callable (P : Program) (f : FuncId) : Prop := ∃ fn, P.funcs[f]? = some fn ∧ (fn.name == "runtime.NumGoroutine") = false ∧ fn.body.isSome = true

theorem callFunc_run {f : FuncId} (hf : Callable P f) (args : Array Value) (w : World) : (callFunc f args).run P w = .ok (.enter f args) w := by
  obtain ⟨fn, h1, h2, h3⟩ := hf
  obtain ⟨c, hc⟩ := Option.isSome_iff_exists.mp h3
  have h2' : ¬ fn.name = "runtime.NumGoroutine" := by simpa using h2
  simp [callFunc, program, Sem.run, h1, h2', hc]

def ResOk (P : Program) (low : Lw) (μ : Mu) (h : AH) (w : World) : ARes → Result Next → Prop
  | .val v h', r => AKept low h h' ∧ ∃ μ' w' c, r = .ok (.value c) w' ∧ Step low μ μ' w w' ∧ Rel μ' h' w' ∧ VRel μ' v c
  | .skip h', r => AKept low h h' ∧ ∃ μ' w', r = .ok .skip w' ∧ Step low μ μ' w w' ∧ Rel μ' h' w'
  | .call f args, r => ∃ cs, VsRel μ args cs ∧ (Callable P f → r = .ok (.enter f ⟨cs⟩) w)
  | .yield l args, r => ∃ Lc cs, μ l 0 = some Lc ∧ VsRel μ args cs ∧ r = (Instr.yield Lc.blk ⟨cs⟩).run P w
  | .defer f args, r => ∃ d cap, r = .ok (.defer d) w ∧ d.target = .fn (.func f) cap ∧ VsRel μ args (d.args.toList ++ cap.toList)

variable {low : Lw} {μ : Mu} {h : AH} {w : World}

theorem ResOk.pure (hr : Rel μ h w) {v c : Value} {r : Result Next} (h1 : r = .ok (.value c) w) (h2 : VRel μ v c) : ResOk P low μ h w (.val v h) r :=
  ⟨.refl _ _, μ, w, c, h1, .refl _ _ _, hr, h2⟩

theorem ResOk.row (hr : Rel μ h w) (hlow : low.le h.next) {vs : List Value} {C : Array Value} {el : TypeId} {v c : Value} {r : Result Next}
    (h1 : r = .ok (.value c) { w with heap := w.heap.push (.cells C el (0, 0)) }) (hv : ∀ (o : Nat) (v : Value), vs[o]? = some v → ∃ c, C[o]? = some c ∧ VRel μ v c)
    (h2 : ∀ μ' : Mu, μ' h.next vs.length = some ⟨w.heap.size, 0, 0, C.size⟩ → VRel μ' v c) : ResOk P low μ h w (.val v (h.push (.cells vs 0 false))) r :=
  ⟨.push _ _, _, _, c, h1, Step.push hr hlow _ _ rfl _, hr.push hv (.inl rfl), h2 _ Mu.set_self⟩

theorem ResOk.new (hr : Rel μ h w) (hlow : low.le h.next) {x : AOth} {O : Obj} {v c : Value} {r : Result Next}
    (h1 : r = .ok (.value c) { w with heap := w.heap.push O }) (hO : OthRel μ x O) (h2 : ∀ μ' : Mu, μ' h.next 0 = some ⟨w.heap.size, 0, 0, 0⟩ → VRel μ' v c) : ResOk P low μ h w (.val v (h.push (.oth x))) r :=
  ⟨.push _ _, _, _, c, h1, Step.push hr hlow 0 _ rfl _, hr.pushObj (fun _ _ _ h => by cases h) (fun y h => by cases h) (fun y h => by cases h; exact hO), h2 _ Mu.set_self⟩

theorem turn_oth (hr : Rel μ h w) {f : Nat} {x x' : AOth} {Lc : Loc} {O O' : Obj} (hg : h.get f = some (.oth x)) (hx : μ f 0 = some Lc) (ho : w.heap[Lc.blk]? = some O) (hO : OthRel μ x O) (hl : low.ok f = true) (hO' : OthRel μ x' O') :
    AKept low h (h.put f (.oth x')) ∧ Step low μ μ w { w with heap := w.heap.setIfInBounds Lc.blk O' } ∧ Rel μ (h.put f (.oth x')) { w with heap := w.heap.setIfInBounds Lc.blk O' } :=
  ⟨.put _ _ (AH.lt_of_get hg) hl, Step.putObj hx hl _, hr.putObj hg hx ho hO.noCells (fun _ _ _ h => by cases h) (fun _ _ _ h => by cases h) (fun y h => by cases h) (fun y h => by cases h; exact hO')⟩

section maps
variable {t kt et : TypeId} {kd : IntKind} (ht : P.underlying t = some (.map kt et)) (hk : P.underlying kt = some (.int kd)) {bm ck : Nat} {n m : Int} {v x : Value} {b : Nat}
include hk

theorem find_one : (Instr.findKey kt (.int kd n) [⟨.int kd m, x, b⟩]).run P w = .ok (if n = m then some (0, x) else none) w := by
  refine MapKept.run_findKey hk ?_
  unfold Instr.findNow Instr.sameNow
  simp only [if_true]
  by_cases e : n = m
  · subst e; simp
  · rw [show (n == m) = false from by simpa using e]; simp [e, Instr.findNow]

include ht

theorem update_none (hb : w.heap[bm]? = some (.map #[] ck)) :
    (Instr.mapUpdate t (.map (some bm)) (.int kd n) v).run P w = .ok () { w with heap := w.heap.setIfInBounds bm (.map #[⟨.int kd n, v, ck⟩] (ck + 1)) } := by
  have h1 : (Instr.findKey kt (.int kd n) []).run P w = .ok none w := MapKept.run_findKey hk rfl
  unfold Instr.mapUpdate
  simp only [Sem.run_bind, run_underlying ht, Result.andThen_ok, MapKept.run_getObj_map hb, MapKept.run_checkKey hk (show MapKept.IsKey (.int kd) (.int kd n) from rfl), h1, MapKept.run_setObj_map _ hb]
  rfl

theorem update_same (hb : w.heap[bm]? = some (.map #[⟨.int kd n, x, b⟩] ck)) :
    (Instr.mapUpdate t (.map (some bm)) (.int kd n) v).run P w = .ok () { w with heap := w.heap.setIfInBounds bm (.map #[⟨.int kd n, v, b⟩] ck) } := by
  have h1 : (Instr.findKey kt (.int kd n) [⟨.int kd n, x, b⟩]).run P w = .ok (some (0, x)) w := by
    have := find_one (w := w) hk (n := n) (m := n) (x := x) (b := b)
    simpa using this
  have h2 : (Instr.keyThatStays (.int kd n) (.int kd n)).run P w = .ok (.int kd n) w := by
    unfold Instr.keyThatStays
    rw [if_pos (by simp [Instr.sameBits])]; rfl
  unfold Instr.mapUpdate
  simp only [Sem.run_bind, run_underlying ht, Result.andThen_ok, MapKept.run_getObj_map hb, MapKept.run_checkKey hk (show MapKept.IsKey (.int kd) (.int kd n) from rfl), h1]
  have h3 : ((#[⟨.int kd n, x, b⟩] : Array MapEntry)[0]?.map (·.key)).getD (.int kd n) = .int kd n := rfl
  simp only [h3, h2, Result.andThen_ok, MapKept.run_setObj_map _ hb, Sem.run_bind]
  rfl

theorem delete_none {ts : Array TypeId} (hts : ts[0]? = some t) {ty : TypeId} (hb : w.heap[bm]? = some (.map #[] ck)) :
    (Builtin.delete_ ts ty #[.map (some bm), .int kd n]).run P w = .ok (.tuple #[]) { w with heap := w.heap.setIfInBounds bm (.map #[] ck) } := by
  have h1 : (Instr.findKey kt (.int kd n) []).run P w = .ok none w := MapKept.run_findKey hk rfl
  unfold Builtin.delete_
  simp only [hts, List.getElem?_toArray, List.getElem?_cons_zero, List.getElem?_cons_succ, Sem.run_bind, run_underlying ht, Result.andThen_ok, MapKept.run_getObj_map hb,
      MapKept.run_checkKey hk (show MapKept.IsKey (.int kd) (.int kd n) from rfl), h1, MapKept.run_setObj_map _ hb]
  rfl

theorem delete_one {ts : Array TypeId} (hts : ts[0]? = some t) {ty : TypeId} (hb : w.heap[bm]? = some (.map #[⟨.int kd m, x, b⟩] ck)) :
    (Builtin.delete_ ts ty #[.map (some bm), .int kd n]).run P w = .ok (.tuple #[]) { w with heap := w.heap.setIfInBounds bm (.map (if n = m then #[] else #[⟨.int kd m, x, b⟩]) ck) } := by
  have h1 := find_one (w := w) hk (n := n) (m := m) (x := x) (b := b)
  unfold Builtin.delete_
  simp only [hts, List.getElem?_toArray, List.getElem?_cons_zero, List.getElem?_cons_succ, Sem.run_bind, run_underlying ht, Result.andThen_ok, MapKept.run_getObj_map hb,
      MapKept.run_checkKey hk (show MapKept.IsKey (.int kd) (.int kd n) from rfl), h1]
  by_cases e : n = m
  · have he : (#[⟨.int kd m, x, b⟩] : Array MapEntry).eraseIdxIfInBounds 0 = #[] := by
      first | rfl | (apply Array.ext'; simp [Array.eraseIdxIfInBounds]) | simp [Array.eraseIdxIfInBounds]
    simp only [if_pos e, Sem.run_bind, MapKept.run_setObj_map _ hb, Result.andThen_ok, he]
    rfl
  · simp only [if_neg e, Sem.run_bind, MapKept.run_setObj_map _ hb, Result.andThen_ok]
    rfl
end maps

theorem VsRel.cellAt {vs : List Value} {C : Array Value} (hv : VsRel μ vs C.toList) : ∀ (o : Nat) (v : Value), vs[o]? = some v → ∃ c, C[o]? = some c ∧ VRel μ v c := fun o v ho => by
  obtain ⟨c, h1, h2⟩ := hv.get ho
  exact ⟨c, by simpa using h1, h2⟩

theorem places_run (hL : L.Ok P) : ∀ (fs : List Field), (∀ f ∈ fs, (L.size f.type).isSome = true) →
    ∃ pl : List (Nat × Nat), (fs.mapM (fun (f : Field) => do pure (f.offset, ← sizeOf f.type)) : Sem (List (Nat × Nat))).run P w = .ok pl w ∧
      ∀ (i : Nat) (x : Nat × Nat), place ⟨fs⟩ L i = some x → pl[i]? = some x
  | [], _ => ⟨[], by simp, by simp [place]⟩
  | f :: fs, hf => by
    obtain ⟨n, hn⟩ := Option.isSome_iff_exists.mp (hf f (by simp))
    obtain ⟨i, hi, hs, _⟩ := hL.size hn
    obtain ⟨pl, h1, h2⟩ := places_run hL fs fun g hg => hf g (by simp [hg])
    refine ⟨(f.offset, i.size) :: pl, by simp only [List.mapM_cons, Sem.run_bind, run_size hi, Result.andThen_ok, h1, Sem.run_pure], fun k x hk => ?_⟩
    cases k with
    | zero =>
      simp only [place, List.getElem?_toArray, List.getElem?_cons_zero, hn, Option.map_some, Option.some.injEq] at hk ⊢
      rw [← hk, hs]
    | succ k => simpa using h2 k x (by simpa [place] using hk)

theorem map_fst {ρ : Operand → Value} (ps : List (Nat × Operand)) : (ps.map fun (i, x) => (i, ρ x)).map (·.1) = ps.map (·.1) := by
  induction ps with
  | nil => rfl
  | cons p ps ih => simp [ih]
theorem map_snd {ρ : Operand → Value} (ps : List (Nat × Operand)) : (ps.map fun (i, x) => (i, ρ x)).map (·.2) = (ps.map (·.2)).map ρ := by
  induction ps with
  | nil => rfl
  | cons p ps ih => simp [ih]

theorem bytesOf_ints {μ : Mu} : ∀ {vs cs : List Value} {bs : List UInt8}, bytesOf vs = some bs → VsRel μ vs cs →
    ∃ ns : List Int, cs = ns.map (Value.int .u8) ∧ bs = ns.map fun n => UInt8.ofNat n.toNat
  | [], cs, bs, h, hr => by cases hr; simp [bytesOf] at h; subst h; exact ⟨[], rfl, rfl⟩
  | v :: vs, cs, bs, h, hr => by
    cases hr with | cons h1 h2 =>
    unfold bytesOf at h
    split at h
    · rename_i heq; cases heq
    · rename_i n vs' heq
      cases heq
      cases h1
      simp only [Option.map_eq_some_iff] at h
      obtain ⟨bs', h3, rfl⟩ := h
      obtain ⟨ns, rfl, rfl⟩ := bytesOf_ints h3 h2
      exact ⟨n :: ns, rfl, rfl⟩
    · cases h

theorem fold_push (ns : List Int) : ∀ acc : ByteArray, ns.foldl (fun (r : ByteArray) n => r.push (UInt8.ofNat n.toNat)) acc = ⟨acc.data ++ ⟨ns.map fun n => UInt8.ofNat n.toNat⟩⟩ := by
  induction ns with
  | nil => intro acc; simp
  | cons n ns ih =>
    intro acc
    rw [List.foldl_cons, ih]
    congr 1
    apply Array.ext'
    simp [ByteArray.push]

theorem conv_run (hL : L.Ok P) (hr : Rel μ h w) {s d : TypeId} {x c : Value} {res : ARes} (hc : convV L h s d x = some res) (hx : VRel μ x c) :
    ∃ v u, res = .val v h ∧ (convert s d c).run P w = .ok u w ∧ VRel μ v u := by
  unfold convV at hc
  split at hc
  · rename_i sd k k' n hs hu
    cases hc; cases hx
    refine ⟨_, _, rfl, ?_, .int _ _⟩
    simp only [convert, Sem.run_bind, run_und (hL.und hs), run_und (hL.und hu), Result.andThen_ok]
    simp [Conv.intToInt, wrapK]
  · rename_i sd s hs hu
    cases hc; cases hx
    refine ⟨_, _, rfl, ?_, .string _⟩
    simp only [convert, Sem.run_bind, run_und (hL.und hs), run_und (hL.und hu), Result.andThen_ok]
    cases sd <;> simp
  · rename_i e a n cap hs hu
    split at hc
    · rename_i he
      cases hc; cases hx
      refine ⟨_, _, rfl, ?_, .string _⟩
      rw [run_convert_bytes_string w _ _ _ none 0 0 (hL.und hs) (hL.und he) (hL.und hu)]
      simp [Conv.bytesToString]
    · rename_i a he
      split at hc
      · rename_i cs hrd
        simp only [Option.map_eq_some_iff] at hc
        obtain ⟨bs, hb, rfl⟩ := hc
        cases hx with
        | slice k1 k2 k3 k4 =>
          rename_i e' Lc ccap c
          refine ⟨_, _, rfl, ?_, .string _⟩
          rw [run_convert_bytes_string w _ _ _ (some c) n ccap (hL.und hs) (hL.und he) (hL.und hu)]
          obtain ⟨l1, cs', l2, l3, _⟩ := hr.rd k1 k2 k3 hrd
          obtain ⟨ns, rfl, rfl⟩ := bytesOf_ints hb l2
          have hl : (loadCells c n).run P w = .ok (ns.map (Value.int .u8)).toArray w := by
            rcases cap_at k4 with h0 | h0
            · have hle := cap_le k4
              have : n = 0 := by omega
              subst this
              have : ns = [] := by
                have := l2.length; rw [l1] at this; simp at this; exact List.length_eq_zero_iff.mp this.symm
              subst this
              simp [loadCells, loadCellsFrom]
            · subst h0
              exact load_run _ _ l3 _ (by rw [← l2.length, l1])
          rw [run_bytesToString w c n ccap ns hl, fold_push]
          simp
      · cases hc
    · cases hc
  · cases hc

end Go.AM

namespace Go.AM
variable {P : Program} {L : Ty} {low : Lw} {μ : Mu} {h : AH} {w : World}

theorem wrap_nat {n : Nat} (h : n < 4611686018427387904) : IntKind.i64.wrap (n : Int) = n := by
  unfold IntKind.wrap
  have e : (n : Int) % (2 ^ IntKind.i64.bits : Int) = n := by simp only [IntKind.bits]; omega
  simp only [e]
  rw [if_neg]
  simp [IntKind.signed, IntKind.bits]; omega

theorem VsRel.inv1 {v : Value} {cs : List Value} (h : VsRel μ [v] cs) : ∃ c, cs = [c] ∧ VRel μ v c := by
  cases h with | cons h1 h2 => cases h2; exact ⟨_, rfl, h1⟩
theorem VsRel.inv2 {v u : Value} {cs : List Value} (h : VsRel μ [v, u] cs) : ∃ c d, cs = [c, d] ∧ VRel μ v c ∧ VRel μ u d := by
  cases h with | cons h1 h2 => cases h2 with | cons h2 h3 => cases h3; exact ⟨_, _, rfl, h1, h2⟩

theorem callee_run {ρ σ : Operand → Value} {f : Operand} {args cs : List Value} {res : ARes} (hc : callee ρ f args = some res) (hf : VRel μ (ρ f) (σ f)) (ha : VsRel μ args cs) {c : Call} {ty : TypeId}
    (hcc : c.callee = .value f) (hca : (c.args.toList.map σ) = cs) :
    ∃ d : Deferred, (resolve σ c ty).run P w = .ok d w ∧
      ((∃ g as, res = .call g as ∧ ∃ cap : Array Value, d.target = .fn (.func g) cap ∧ VsRel μ as (d.args.toList ++ cap.toList)) ∨
       (∃ l Lc, res = .yield l args ∧ μ l 0 = some Lc ∧ d = ⟨.fn (.yield Lc.blk) #[], ⟨cs⟩⟩)) := by
  have hres : resolve σ c ty = Deferred.ofValue (σ f) (c.args.map σ) := by simp [resolve, hcc]
  have hargs : (c.args.map σ) = ⟨cs⟩ := by apply Array.ext'; simp [hca]
  rw [hres, hargs]
  unfold callee at hc
  split at hc
  · rename_i g first cap heq
    cases hc
    rw [heq] at hf
    generalize σ f = u at hf
    cases hf with
    | func _ h1 h2 =>
      rename_i as bs cs' ds
      refine ⟨⟨.fn (.func g) ⟨ds⟩, ⟨bs⟩ ++ ⟨cs⟩⟩, rfl, .inl ⟨g, _, rfl, ⟨ds⟩, rfl, ?_⟩⟩
      simpa using (h1.append ha).append h2
  · rename_i l first cap heq
    rw [heq] at hf
    generalize σ f = u at hf
    cases hf with
    | yield h1 =>
      simp at hc
      subst hc
      exact ⟨⟨.fn (.yield _) #[], #[] ++ ⟨cs⟩⟩, rfl, .inr ⟨l, _, rfl, h1, by simp⟩⟩
  · cases hc

theorem builtin_run (hL : L.Ok P) (hr : Rel μ h w) (hlow : low.le h.next) {b : Builtin} {ts : Array TypeId} {args cs : List Value} {res : ARes} {ty : TypeId} {consts : Array Bool}
    (hb : builtinV L low h b ts args = some res) (ha : VsRel μ args cs) : ∃ v h', res = .val v h' ∧ ResOk P low μ h w res ((builtin b ts ty consts ⟨cs⟩).run P w) := by
  unfold builtinV at hb
  split at hb
  · -- len
    rename_i x
    obtain ⟨c, rfl, a1⟩ := ha.inv1
    split at hb
    · rename_i t ht
      split at hb
      · rename_i e a n cp hu
        cases hb
        refine ⟨_, _, rfl, ResOk.pure hr (c := .int .i64 n) ?_ (.int _ _)⟩
        cases a1 <;> simp [builtin, Builtin.len_, ht, run_und (hL.und hu), goInt]
      · rename_i s hu
        cases hb
        refine ⟨_, _, rfl, ResOk.pure hr (c := .int .i64 s.size) ?_ (.int _ _)⟩
        cases a1; simp [builtin, Builtin.len_, ht, run_und (hL.und hu), goInt]
      · rename_i n e hu
        cases hb
        refine ⟨_, _, rfl, ResOk.pure hr (c := .int .i64 n) ?_ (.int _ _)⟩
        simp [builtin, Builtin.len_, ht, run_und (hL.und hu), goInt]
      · cases hb
    · cases hb
  · -- append
    rename_i s x
    obtain ⟨c, d, rfl, a1, a2⟩ := ha.inv2
    split at hb
    case h_2 => cases hb
    rename_i t ht
    split at hb
    case h_2 => cases hb
    rename_i e hu
    split at hb
    case h_2 => cases hb
    rename_i esz z hsz hz
    have hslice : ∀ {v hv' n new}, appendV low h esz s n new = some (v, hv') → ∃ base sLen sCap, c = .slice base sLen sCap := fun hv => by
      unfold appendV at hv
      split at hv
      · cases a1 <;> exact ⟨_, _, _, rfl⟩
      · cases hv
    obtain ⟨ti, hi1, hi2, hby⟩ := hL.size hsz
    obtain ⟨ti', zv, hi1', hzv, hzl, hzr, _, hzs⟩ := hL.zero hz
    rw [hi1] at hi1'; cases hi1'
    split at hb
    · -- with a number
      rename_i hzz
      have hzt : ∃ t1, ts[1]? = some t1 ∧ ∃ k, P.underlying t1 = some (.int k) := by
        split at hzz
        · rename_i t1 ht1
          split at hzz
          · rename_i k hu1; exact ⟨t1, ht1, k, hL.und hu1⟩
          · cases hzz
          · cases hzz
        · cases hzz
      obtain ⟨t1, ht1, k1, hu1⟩ := hzt
      split at hb
      case h_2 => cases hb
      rename_i n
      cases hlt : Nat.blt n 1073741824 with
      | false => rw [hlt] at hb; simp at hb
      | true =>
      rw [hlt] at hb
      simp only [cond_true, Option.map_eq_some_iff] at hb
      obtain ⟨⟨v, h'⟩, hv, rfl⟩ := hb
      have hlt : n < 1073741824 := Nat.ble_eq.mp hlt
      obtain ⟨base, sLen, sCap, rfl⟩ := hslice hv
      cases a2
      have hnl : (reps z n).length = n * esz := by rw [reps_length, hzs _ hsz]
      have hnew : ∀ k, (if n * esz = 0 then pure #[] else do pure (Builtin.zeroCells (← zeroValue e).cells n) : Sem (Array Value)).run P { w with drawn := k } = .ok ⟨reps z n⟩ { w with drawn := k } := fun k => by
        split
        · rename_i h0
          have : reps z n = [] := List.length_eq_zero_iff.mp (by rw [hnl, h0])
          rw [this]; rfl
        · rw [Sem.run_bind, run_zero hi1 hzv]
          simp only [Result.andThen_ok, Sem.run_pure]
          congr 1
          apply Array.ext'
          rw [zeroCells_eq, hzl]
      obtain ⟨k1', μ', w', u, r1, r2, r3, r4⟩ := tailA_run (P := P) hL hr hlow hsz hz hv a1 hnl ((hzr μ).reps n) (zeros := true) (x := .int .i64 n) hnew rfl (fun h0 => by subst h0; rfl)
      refine ⟨v, h', rfl, k1', μ', w', u, ?_, r2, r3, r4⟩
      have hwrap : IntKind.i64.wrap (n : Int) = n := wrap_nat (by omega)
      have hbytes : ¬ ((n : Int) * (ti.bytes : Int) > 2 ^ 48) := by
        have h1 : n * ti.bytes ≤ 1073741824 * 4096 := Nat.mul_le_mul (by omega) hby
        have : ((n : Int) * (ti.bytes : Int)) = ((n * ti.bytes : Nat) : Int) := by simp
        rw [this]
        have : (2 : Int) ^ 48 = 281474976710656 := by decide
        omega
      have key : (Builtin.append_ ts ty #[.slice base sLen sCap, .int .i64 n]).run P w = (tailA e esz base sLen sCap n true (.slice base sLen sCap) (.int .i64 n)
          (if n * esz = 0 then pure #[] else do pure (Builtin.zeroCells (← zeroValue e).cells n))).run P w := by
        unfold Builtin.append_ tailA
        simp only [ht, ht1, List.getElem?_toArray, List.getElem?_cons_zero, List.getElem?_cons_succ, Sem.run_bind, run_und (hL.und hu), Result.andThen_ok, run_size hi1, hi2, run_und hu1, Sem.run_pure, if_true, asInt, asIntOf, hwrap, run_info hi1]
        rw [if_neg (by omega : ¬ (n : Int) < 0)]
        simp only [Sem.run_bind, run_info hi1, Result.andThen_ok]
        rw [if_neg hbytes]
        simp only [Sem.run_bind, Sem.run_pure, Result.andThen_ok, Int.toNat_natCast, Bool.not_true, Bool.false_eq_true, if_false]
        rfl
      show ((do pure (.value (← Builtin.append_ ts ty #[.slice base sLen sCap, .int .i64 n])) : Sem Next).run P w) = _
      rw [Sem.run_bind, key, r1]; rfl
    · -- of another list
      rename_i hzz
      split at hb
      case h_2 => cases hb
      rename_i n hlen
      split at hb
      case h_2 => cases hb
      rename_i new hseq
      simp only [Option.map_eq_some_iff] at hb
      obtain ⟨⟨v, h'⟩, hv, rfl⟩ := hb
      obtain ⟨base, sLen, sCap, rfl⟩ := hslice hv
      obtain ⟨hnl, newc, hnr, hnew⟩ := seq_run (P := P) hr hseq a2
      obtain ⟨k1', μ', w', u, r1, r2, r3, r4⟩ := tailA_run (P := P) hL hr hlow hsz hz hv a1 hnl hnr (zeros := false) (x := d) hnew rfl (fun h0 => by
        subst h0
        have := hnr.length; rw [hnl] at this; simp at this; exact List.length_eq_zero_iff.mp this.symm)
      refine ⟨v, h', rfl, k1', μ', w', u, ?_, r2, r3, r4⟩
      have key : (Builtin.append_ ts ty #[.slice base sLen sCap, d]).run P w = (tailA e esz base sLen sCap n false (.slice base sLen sCap) d (Builtin.firstCells esz n d)).run P w := by
        have hz1 : ts[1]? = none ∨ ∃ t1 d1, ts[1]? = some t1 ∧ P.underlying t1 = some d1 ∧ ∀ k, d1 ≠ .int k := by
          split at hzz
          · rename_i t1 ht1
            split at hzz
            · cases hzz
            · rename_i d1 hn1 hu1
              exact .inr ⟨t1, d1, ht1, hL.und hu1, fun k hk => hn1 k hk⟩
            · cases hzz
          · rename_i ht1; exact .inl ht1
        unfold Builtin.append_ tailA
        rcases hz1 with hz1 | ⟨t1, d1, hz1, hz2, hz3⟩
        · simp only [ht, hz1, List.getElem?_toArray, List.getElem?_cons_zero, List.getElem?_cons_succ, Sem.run_bind, run_und (hL.und hu), Result.andThen_ok, run_size hi1, hi2, Sem.run_pure, Bool.false_eq_true, if_false, lenV_run hlen a2, Bool.not_false, if_true]
          rfl
        · simp only [ht, hz1, List.getElem?_toArray, List.getElem?_cons_zero, List.getElem?_cons_succ, Sem.run_bind, run_und (hL.und hu), run_und hz2, Result.andThen_ok, run_size hi1, hi2, Sem.run_pure]
          cases d1 <;> first
            | exact (hz3 _ rfl).elim
            | (simp only [Bool.false_eq_true, if_false, lenV_run hlen a2, Bool.not_false, if_true, Result.andThen_ok, Sem.run_bind, Sem.run_pure]; rfl)
      show ((do pure (.value (← Builtin.append_ ts ty #[.slice base sLen sCap, d])) : Sem Next).run P w) = _
      rw [Sem.run_bind, key, r1]; rfl
    · cases hb
  · -- min
    obtain ⟨c, d, rfl, a1, a2⟩ := ha.inv2
    cases a1; cases a2; cases hb
    exact ⟨_, _, rfl, ResOk.pure hr (by simp [builtin, Builtin.min_, Builtin.min2]) (.int _ _)⟩
  · obtain ⟨c, d, rfl, a1, a2⟩ := ha.inv2
    cases a1; cases a2; cases hb
    exact ⟨_, _, rfl, ResOk.pure hr (by simp [builtin, Builtin.max_, Builtin.max2]) (.int _ _)⟩
  · -- copy
    rename_i abase dl acap x
    obtain ⟨c, d, rfl, a1, a2⟩ := ha.inv2
    split at hb
    case h_2 => cases hb
    rename_i t ht
    split at hb
    case h_2 => cases hb
    rename_i e hu
    split at hb
    case h_2 => cases hb
    rename_i esz sl hsz hlen
    obtain ⟨ti, hi1, hi2, hby⟩ := hL.size hsz
    dsimp only at hb
    cases hseq : seqCells h esz (Nat.min sl dl) x with
    | none => simp [hseq] at hb
    | some cs =>
    rw [hseq] at hb
    dsimp only at hb
    obtain ⟨hnl, newc, hnr, hnew⟩ := seq_run (P := P) hr hseq a2
    have hnew := hnew w.drawn
    have hrun : ∀ (base : Option Addr) (ccap : Nat), c = .slice base dl ccap → (Builtin.copy_ ts ty #[c, d]).run P w =
        ((match base with | some a => storeCells a newc | none => pure () : Sem Unit).run P w).andThen fun _ w' => .ok (goInt (Nat.min sl dl)) w' := by
      intro base ccap hcb
      subst hcb
      unfold Builtin.copy_
      simp only [ht, List.getElem?_toArray, List.getElem?_cons_zero, List.getElem?_cons_succ, Sem.run_bind, run_und (hL.und hu), Result.andThen_ok, run_size hi1, hi2, lenV_run hlen a2]
      rw [show w = { w with drawn := w.drawn } from rfl, hnew]
      cases base <;> simp
    split at hb
    · rename_i a
      simp only [Option.map_eq_some_iff] at hb
      obtain ⟨h', hw, rfl⟩ := hb
      cases a1 with
      | slice k1 k2 k3 k4 =>
        rename_i e' Lc ccap c
        have hat : newc = [] ∨ c = Lc.at a.off := by
          rcases cap_at k4 with h0 | h0
          · have hle := cap_le k4
            have hn0 : Nat.min sl dl = 0 := Nat.le_zero.mp (Nat.le_trans (Nat.min_le_right _ _) (by omega))
            rw [hn0] at hnl
            left
            have := hnr.length; rw [hnl] at this; simp at this; exact List.length_eq_zero_iff.mp this.symm
          · exact .inr h0
        obtain ⟨r0, w', r1, r2, r3⟩ := hr.wr (P := P) k1 k2 k3 hnr hw
        have r1' : (storeCells c newc).run P w = .ok () w' := by
          rcases hat with hat | hat
          · subst hat
            simpa [storeCells] using r1
          · rw [hat]; exact r1
        refine ⟨_, h', rfl, r0, μ, w', .int .i64 (Nat.min sl dl : Nat), ?_, r2, r3, .int _ _⟩
        show ((do pure (.value (← Builtin.copy_ ts ty #[.slice (some c) dl ccap, d])) : Sem Next).run P w) = _
        rw [Sem.run_bind, hrun _ _ rfl]
        simp [r1', goInt]
    · cases hn : Nat.beq (Nat.min sl dl) 0 with
      | false => rw [hn] at hb; simp at hb
      | true =>
        rw [hn] at hb
        simp only [cond_true, Option.some.injEq] at hb
        subst hb
        have hn0 := Nat.eq_of_beq_eq_true hn
        cases a1
        refine ⟨_, _, rfl, ResOk.pure hr (c := .int .i64 0) ?_ (.int _ _)⟩
        show ((do pure (.value (← Builtin.copy_ ts ty #[.slice none 0 0, d])) : Sem Next).run P w) = _
        rw [Sem.run_bind, hrun _ _ rfl, hn0]
        simp [goInt]
  · -- delete
    rename_i r ki n
    obtain ⟨c, d, rfl, a1, a2⟩ := ha.inv2
    split at hb
    case h_2 => cases hb
    rename_i t ht
    split at hb
    case h_2 => cases hb
    rename_i kt et hu
    split at hb
    case h_2 => cases hb
    rename_i kd hk
    have hu' := hL.und hu
    have hk' := hL.und hk
    have hts : (ts : Array TypeId)[0]? = some t := ht
    split at hb
    · rename_i ck hg
      cases hbb : (low.ok r && decide (kd = ki)) with
      | false => rw [hbb] at hb; simp at hb
      | true =>
        rw [hbb] at hb
        simp only [cond_true, Option.some.injEq] at hb
        subst hb
        simp only [Bool.and_eq_true, decide_eq_true_eq] at hbb
        obtain ⟨hlo, rfl⟩ := hbb
        cases a2
        cases a1 with
        | map hm =>
          rename_i Lc
          obtain ⟨_, O, h1, h2⟩ := hr.oth _ _ _ _ hm hg
          cases h2 with | map h3 =>
          cases h3
          obtain ⟨t1, t2, t3⟩ := turn_oth hr hg hm h1 (.map .none) hlo (x' := .map none ck) (O' := .map #[] ck) (.map .none)
          refine ⟨_, _, rfl, t1, μ, _, .tuple #[], ?_, t2, t3, .tuple .nil⟩
          show ((do pure (.value (← Builtin.delete_ ts ty #[.map (some Lc.blk), .int kd n])) : Sem Next).run P w) = _
          rw [Sem.run_bind, delete_none hu' hk' hts h1]; rfl
    · rename_i kj m x b ck hg
      cases hbb : (low.ok r && decide (kd = ki) && decide (kd = kj)) with
      | false => rw [hbb] at hb; simp at hb
      | true =>
        rw [hbb] at hb
        simp only [cond_true, Option.some.injEq] at hb
        subst hb
        simp only [Bool.and_eq_true, decide_eq_true_eq] at hbb
        obtain ⟨⟨hlo, rfl⟩, rfl⟩ := hbb
        cases a2
        cases a1 with
        | map hm =>
          rename_i Lc
          obtain ⟨_, O, h1, h2⟩ := hr.oth _ _ _ _ hm hg
          cases h2 with | map h3 =>
          cases h3 with | some q1 q2 =>
          cases q1
          rename_i x'
          have hO' : OthRel μ (.map (bif n == m then none else some (.int kd m, x, b)) ck) (.map (if n = m then #[] else #[⟨.int kd m, x', b⟩]) ck) := by
            by_cases e : n = m
            · rw [if_pos e, show (n == m) = true from by simpa using e]; exact .map .none
            · rw [if_neg e, show (n == m) = false from by simpa using e]; exact .map (.some (.int _ _) q2)
          obtain ⟨t1, t2, t3⟩ := turn_oth hr hg hm h1 (.map (.some (.int _ _) q2)) hlo hO'
          refine ⟨_, _, rfl, t1, μ, _, .tuple #[], ?_, t2, t3, .tuple .nil⟩
          show ((do pure (.value (← Builtin.delete_ ts ty #[.map (some Lc.blk), .int kd n])) : Sem Next).run P w) = _
          rw [Sem.run_bind, delete_one hu' hk' hts h1]; rfl
    · cases hb
  · -- clear
    rename_i abase n acap
    obtain ⟨c, rfl, a1⟩ := ha.inv1
    split at hb
    case h_2 => cases hb
    rename_i t ht
    split at hb
    case h_2 => cases hb
    rename_i e hu
    split at hb
    · rename_i z a hz
      simp only [Option.map_eq_some_iff] at hb
      obtain ⟨h', hw, rfl⟩ := hb
      obtain ⟨ti', zv, hi1', hzv, hzl, hzr, _, hzs⟩ := hL.zero hz
      cases a1 with
      | slice k1 k2 k3 k4 =>
        rename_i e' Lc ccap c
        obtain ⟨r0, w', r1, r2, r3⟩ := hr.wr (P := P) k1 k2 k3 ((hzr μ).reps n) hw
        refine ⟨_, h', rfl, r0, μ, w', .tuple #[], ?_, r2, r3, .tuple .nil⟩
        show ((do pure (.value (← Builtin.clear_ ts ty #[.slice (some c) n ccap])) : Sem Next).run P w) = _
        have key : (Builtin.clear_ ts ty #[.slice (some c) n ccap]).run P w = .ok (.tuple #[]) w' := by
          unfold Builtin.clear_
          simp only [ht, List.getElem?_toArray, List.getElem?_cons_zero, Sem.run_bind, run_und (hL.und hu), Result.andThen_ok]
          by_cases hn : n = 0
          · subst hn
            have : w' = w := by simpa [reps, storeCells] using r1.symm
            subst this
            rfl
          · have hc : c = Lc.at a.off := by
              rcases cap_at k4 with h0 | h0
              · have hle := cap_le k4; omega
              · exact h0
            obtain ⟨n, rfl⟩ : ∃ m, n = m + 1 := ⟨n - 1, by omega⟩
            simp only [Sem.run_bind, run_zero hi1' hzv, Result.andThen_ok]
            rw [zeroCells_eq, hzl, hc, r1]
            rfl
        rw [Sem.run_bind, key]; rfl
    · cases hb
      cases a1
      refine ⟨_, _, rfl, ResOk.pure hr (c := .tuple #[]) ?_ (.tuple .nil)⟩
      show ((do pure (.value (← Builtin.clear_ ts ty #[.slice none 0 0])) : Sem Next).run P w) = _
      unfold Builtin.clear_
      simp [ht, run_und (hL.und hu)]
    · cases hb
  · cases hb

end Go.AM

namespace Go.AM
variable {P : Program} {L : Ty} {low : Lw} {μ : Mu} {h : AH} {w : World}

theorem assertV_run (hL : L.Ok P) {x c v : Value} {xt t : TypeId} {ok : Bool} (hv : assertV L x t ok = some v) (hx : VRel μ x c) :
    ∃ u, (Instr.typeAssert c xt t ok).run P w = .ok u w ∧ VRel μ v u := by
  unfold assertV at hv
  dsimp only at hv
  have hfail : ∀ {z g v0}, L.zero t = some z → L.agg t = some g → mk g z = some v0 → (zeroValue t).run P w = .ok v0 w ∧ VRel μ v0 v0 := fun hz hg hm => by
    obtain ⟨i, zv, h1, h2, h3, h4, h5, _⟩ := hL.zero hz
    have := h5 _ _ hg hm
    subst this
    obtain ⟨c', q1, q2⟩ := mk_rel (h4 μ) hm
    rw [hm] at q1; cases q1
    exact ⟨run_zero h1 h2, q2⟩
  split at hv
  · rename_i y hr
    cases hv
    split at hr
    · cases hr
    · rename_i want tx y' hu
      simp only [Option.map_eq_some_iff] at hr
      obtain ⟨b, hb, hb2⟩ := hr
      cases b with
      | false => simp at hb2
      | true =>
        simp only [cond_true, Option.some.injEq] at hb2
        subst hb2
        obtain ⟨want', i, q1, q2, q3⟩ := hL.impl hb
        rw [hL.und hu] at q1; cases q1
        obtain ⟨c', rfl, hc'⟩ : ∃ c', c = .iface tx c' ∧ VRel μ y' c' := by cases hx with | iface _ hh => exact ⟨_, rfl, hh⟩
        refine ⟨_, ?_, .tuple (.cons hx (.cons (.bool true) .nil))⟩
        have q3 : Instr.missingMethod want i.methods = none := by simpa using q3
        simp [Instr.typeAssert, run_und (hL.und hu), run_info q2, q3]
    · cases hr
    · rename_i d tx y' hd hu
      simp only [Option.some.injEq] at hr
      by_cases ht : tx = t
      · rw [beqT ht] at hr
        simp only [cond_true, Option.some.injEq] at hr
        subst hr
        obtain ⟨c', rfl, hc'⟩ : ∃ c', c = .iface tx c' ∧ VRel μ y' c' := by cases hx with | iface _ hh => exact ⟨_, rfl, hh⟩
        refine ⟨_, ?_, .tuple (.cons hc' (.cons (.bool true) .nil))⟩
        have hu := hL.und hu
        cases d <;> first | exact (hd _ rfl).elim | simp [Instr.typeAssert, run_und hu, ht]
      · rw [beqF ht] at hr; simp at hr
    · cases hr
  · rename_i y hr
    cases hv
    split at hr
    · cases hr
    · rename_i want tx y' hu
      simp only [Option.map_eq_some_iff] at hr
      obtain ⟨b, hb, hb2⟩ := hr
      cases b with
      | false => simp at hb2
      | true =>
        simp only [cond_true, Option.some.injEq] at hb2
        subst hb2
        obtain ⟨want', i, q1, q2, q3⟩ := hL.impl hb
        rw [hL.und hu] at q1; cases q1
        obtain ⟨c', rfl, hc'⟩ : ∃ c', c = .iface tx c' ∧ VRel μ y' c' := by cases hx with | iface _ hh => exact ⟨_, rfl, hh⟩
        refine ⟨_, ?_, hx⟩
        have q3 : Instr.missingMethod want i.methods = none := by simpa using q3
        simp [Instr.typeAssert, run_und (hL.und hu), run_info q2, q3]
    · cases hr
    · rename_i d tx y' hd hu
      simp only [Option.some.injEq] at hr
      by_cases ht : tx = t
      · rw [beqT ht] at hr
        simp only [cond_true, Option.some.injEq] at hr
        subst hr
        obtain ⟨c', rfl, hc'⟩ : ∃ c', c = .iface tx c' ∧ VRel μ y' c' := by cases hx with | iface _ hh => exact ⟨_, rfl, hh⟩
        refine ⟨_, ?_, hc'⟩
        have hu := hL.und hu
        cases d <;> first | exact (hd _ rfl).elim | simp [Instr.typeAssert, run_und hu, ht]
      · rw [beqF ht] at hr; simp at hr
    · cases hr
  · rename_i hr
    split at hv
    · rename_i z g hz hg
      simp only [Option.map_eq_some_iff] at hv
      obtain ⟨v0, hm, rfl⟩ := hv
      obtain ⟨f1, f2⟩ := hfail hz hg hm
      refine ⟨.tuple #[v0, .bool false], ?_, .tuple (.cons f2 (.cons (.bool false) .nil))⟩
      split at hr
      · rename_i want hu
        cases hx
        simp [Instr.typeAssert, run_und (hL.und hu), f1]
      · rename_i want tx y' hu
        simp only [Option.map_eq_some_iff] at hr
        obtain ⟨b, hb, hb2⟩ := hr
        cases b with
        | true => simp at hb2
        | false =>
          obtain ⟨want', i, q1, q2, q3⟩ := hL.impl hb
          rw [hL.und hu] at q1; cases q1
          obtain ⟨c', rfl, hc'⟩ : ∃ c', c = .iface tx c' ∧ VRel μ y' c' := by cases hx with | iface _ hh => exact ⟨_, rfl, hh⟩
          obtain ⟨m, hm'⟩ : ∃ m, Instr.missingMethod want i.methods = some m := by
            cases hh : Instr.missingMethod want i.methods with
            | none => rw [hh] at q3; simp at q3
            | some m => exact ⟨m, rfl⟩
          simp [Instr.typeAssert, run_und (hL.und hu), run_info q2, hm', f1]
      · rename_i d hd hu
        cases hx
        have hu := hL.und hu
        cases d <;> first | exact (hd _ rfl).elim | simp [Instr.typeAssert, run_und hu, f1]
      · rename_i d tx y' hd hu
        simp only [Option.some.injEq] at hr
        by_cases ht : tx = t
        · rw [beqT ht] at hr; simp at hr
        · obtain ⟨c', rfl, hc'⟩ : ∃ c', c = .iface tx c' ∧ VRel μ y' c' := by cases hx with | iface _ hh => exact ⟨_, rfl, hh⟩
          have hu := hL.und hu
          cases d <;> first | exact (hd _ rfl).elim | simp [Instr.typeAssert, run_und hu, ht, f1]
      · cases hr
    · cases hv
  · cases hv

end Go.AM

namespace Go.AM
variable {P : Program} {L : Ty} {low : Lw} {μ : Mu} {h : AH} {w : World}

theorem fieldPlace_run {a : Addr} {f : Field} {i : TypeInfo} (hi : P.info? f.type = some i) (hn : i.size ≠ 0) : (fieldPlace a f).run P w = .ok (a.add f.offset) w := by
  simp [fieldPlace, run_size hi, hn]

theorem optMap_rel {ρ σ : Operand → Value} {x : Option Operand} (h : ∀ y, x = some y → VRel μ (ρ y) (σ y)) : OptRel μ (x.map ρ) (x.map σ) := by
  cases x with
  | none => exact .none
  | some y => exact .some (h y rfl)

theorem fill_places {ρ σ : Operand → Value} {pl pl' : Nat → Option (Nat × Nat)} (hp : ∀ i x, pl i = some x → pl' i = some x) {ps : Array (Nat × Operand)} {z cs : List Value} {zv : Array Value} (hz : VsRel μ z zv.toList)
    (hρ : ∀ x ∈ ps.toList.map (·.2), VRel μ (ρ x) (σ x)) (hf : fill pl z (ps.toList.map fun (i, x) => (i, ρ x)) = some cs) :
    ∃ cc, Instr.fill pl' zv (ps.map fun (i, x) => (i, σ x)).toList = some cc ∧ VsRel μ cs cc.toList := by
  have : (ps.map fun (i, x) => (i, σ x)).toList = ps.toList.map fun (i, x) => (i, σ x) := by simp
  rw [this]
  refine fill_rel hp hz ?_ ?_ hf
  · rw [map_fst, map_fst]
  · rw [map_snd, map_snd]; exact map_rel hρ

theorem aop_sound (hL : L.Ok P) (hr : Rel μ h w) (hlow : low.le h.next) {o : Oper} (hok : opOk o.op = true) {ρ σ : Operand → Value} (hR : ∀ x ∈ o.op.operands.toList, VRel μ (ρ x) (σ x))
    {res : ARes} (ha : aop L low ρ h o.op = some res) : ResOk P low μ h w res ((execOp σ o).run P w) := by
  obtain ⟨dst, op, ty, ps, after, guard⟩ := o
  simp only [opOk, Bool.and_eq_true, List.all_eq_true] at hok ha hR ⊢
  have hops := hok
  cases op <;> simp only [aop] at ha
  case move x => cases ha; exact .pure hr rfl (hR x (by simp [Op.operands]))
  case assign x => cases ha; exact .pure hr rfl (hR x (by simp [Op.operands]))
  case pick c a b =>
    have hc := hR c (by simp [Op.operands])
    have h1 := hR a (by simp [Op.operands])
    have h2 := hR b (by simp [Op.operands])
    split at ha
    · rename_i heq; rw [heq] at hc; generalize hs : σ c = u at hc; cases hc; cases ha
      exact .pure hr (by simp [execOp, hs, asBool]) h1
    · rename_i heq; rw [heq] at hc; generalize hs : σ c = u at hc; cases hc; cases ha
      exact .pure hr (by simp [execOp, hs, asBool]) h2
    · cases ha
  case alloc t =>
    simp only [Option.map_eq_some_iff] at ha
    obtain ⟨z, hz, rfl⟩ := ha
    obtain ⟨i, zv, h1, h2, h3, h4, _⟩ := hL.zero hz
    refine .row hr hlow (C := zv.cells) (el := t) (c := .pointer (some ⟨w.heap.size, 0, none⟩)) ?_ (VsRel.cellAt (by rw [h3]; exact h4 μ)) fun μ' hm => ?_
    · simp [execOp, Instr.alloc, run_zero h1 h2, newVar, newRow, newObj, Sem.run]
    · exact .ptr (a := ⟨h.next, 0, some z.length⟩) (L := ⟨w.heap.size, 0, 0, zv.cells.size⟩) rfl hm (Nat.le_refl _)
  case box t x =>
    cases ha
    have hx := (hR x (by simp [Op.operands])).cellsOf
    refine .row hr hlow (C := (σ x).cells) (el := t) (c := .pointer (some ⟨w.heap.size, 0, none⟩)) ?_ (VsRel.cellAt hx) fun μ' hm => ?_
    · simp [execOp, Instr.box, newVar, newRow, newObj, Sem.run]
    · exact .ptr (a := ⟨h.next, 0, some _⟩) (L := ⟨w.heap.size, 0, 0, (σ x).cells.size⟩) rfl hm (Nat.le_refl _)
  case build t ps =>
    have hps : ∀ x ∈ ps.toList.map (·.2), VRel μ (ρ x) (σ x) := fun x hx => hR x (by simpa [Op.operands] using hx)
    split at ha
    · rename_i z fs hz hu
      obtain ⟨i, zv, h1, h2, h3, h4, _⟩ := hL.zero hz
      cases hall : (!(fs.toList.all fun f => (L.size f.type).isSome)) with
      | true => rw [hall] at ha; simp at ha
      | false =>
      rw [hall] at ha
      simp only [cond_false, Option.map_eq_some_iff] at ha
      obtain ⟨cs, hf, rfl⟩ := ha
      simp only [Bool.not_eq_false', List.all_eq_true] at hall
      obtain ⟨pl, p1, p2⟩ := places_run (P := P) (w := w) hL fs.toList hall
      obtain ⟨cc, q1, q2⟩ := fill_places (pl' := fun i => (⟨pl⟩ : Array (Nat × Nat))[i]?) (zv := zv.cells) (fun i x hx => by
        simp only [List.getElem?_toArray]
        exact p2 i x hx) (by rw [h3]; exact h4 μ) hps hf
      refine .pure hr (c := .agg cc) ?_ (by have := VRel.agg q2; simpa using this)
      have hm : (fs.mapM (fun (f : Field) => do pure (f.offset, ← sizeOf f.type)) : Sem (Array (Nat × Nat))).run P w = .ok ⟨pl⟩ w := by
        rw [Array.mapM_eq_mapM_toList, Sem.run_map, p1]; rfl
      simp only [execOp, Instr.build, Sem.run_bind, run_zero h1 h2, Result.andThen_ok, run_und (hL.und hu), hm, q1, Sem.run_pure]
    · rename_i z n e hz hu
      obtain ⟨i, zv, h1, h2, h3, h4, _⟩ := hL.zero hz
      split at ha
      · rename_i sz hsz
        obtain ⟨ti, hi1, hi2, _⟩ := hL.size hsz
        simp only [Option.map_eq_some_iff] at ha
        obtain ⟨cs, hf, rfl⟩ := ha
        obtain ⟨cc, q1, q2⟩ := fill_places (pl' := fun i => some (i * sz, sz)) (zv := zv.cells) (fun i x hx => hx) (by rw [h3]; exact h4 μ) hps hf
        refine .pure hr (c := .agg cc) ?_ (by have := VRel.agg q2; simpa using this)
        simp only [execOp, Instr.build, Sem.run_bind, run_zero h1 h2, Result.andThen_ok, run_und (hL.und hu), run_size hi1, hi2, q1, Sem.run_pure]
      · cases ha
    · cases ha
  case buildSlice t n ps =>
    have hps : ∀ x ∈ ps.toList.map (·.2), VRel μ (ρ x) (σ x) := fun x hx => hR x (by simpa [Op.operands] using hx)
    split at ha
    case h_2 => cases ha
    rename_i e hu
    split at ha
    case h_2 => cases ha
    rename_i esz z hsz hz
    obtain ⟨ti, hi1, hi2, _⟩ := hL.size hsz
    obtain ⟨i, zv, h1, h2, h3, h4, _, h5⟩ := hL.zero hz
    rw [hi1] at h1; cases h1
    cases hb : (Nat.ble (n * esz) (2 ^ 24) && !(Nat.beq esz 0)) with
    | false => rw [hb] at ha; simp at ha
    | true =>
    rw [hb] at ha
    simp only [cond_true, Option.map_eq_some_iff] at ha
    obtain ⟨cs, hf, rfl⟩ := ha
    simp only [Bool.and_eq_true, Nat.ble_eq] at hb
    have hzl := h5 _ hsz
    have hcells : ((Array.range (n * esz)).map ((if n * esz = 0 then #[] else zv.cells)[· % (if n * esz = 0 then #[] else zv.cells).size]!)).toList = reps z n := by
      by_cases h0 : n * esz = 0
      · have : reps z n = [] := List.length_eq_zero_iff.mp (by rw [reps_length, hzl, h0])
        rw [this, h0]; simp
      · rw [if_neg h0, ← h3, ← zeroCells_eq]
        unfold Builtin.zeroCells
        have : zv.cells.size = esz := by rw [← hzl, ← h3]; rfl
        rw [this]
    obtain ⟨cc, q1, q2⟩ := fill_places (pl' := fun i => some (i * esz, esz)) (fun i x hx => hx) (by rw [hcells]; exact (h4 μ).reps n) hps hf
    refine .row hr hlow (C := cc) (el := e) (c := .slice (some ⟨w.heap.size, 0, none⟩) n n) ?_ (VsRel.cellAt q2) fun μ' hm => ?_
    · simp only [execOp, Instr.buildSlice, Sem.run_bind, run_und (hL.und hu), Result.andThen_ok, run_size hi1, hi2]
      rw [if_neg (by omega)]
      by_cases h0 : n * esz = 0
      · simp only [h0, if_true] at q1
        simp only [h0, if_true, Sem.run_bind, Sem.run_pure, Result.andThen_ok, q1, newRow, newObj, Sem.run]
      · simp only [h0, if_false] at q1
        simp only [h0, if_false, Sem.run_bind, Sem.run_pure, Result.andThen_ok, run_zero hi1 h2, q1, newRow, newObj, Sem.run]
    · exact .slice (a := ⟨h.next, 0, some cs.length⟩) (L := ⟨w.heap.size, 0, 0, cc.size⟩) rfl hm (Nat.le_refl _) (.inl ⟨rfl, rfl, .inr rfl⟩)
  case load t a =>
    have hx := hR a (by simp [Op.operands])
    split at ha
    case h_2 => cases ha
    rename_i a' heq
    rw [heq] at hx
    generalize hs : σ a = u at hx
    cases hx with | ptr k1 k2 k3 =>
    rename_i e Lc
    simp only [Option.map_eq_some_iff] at ha
    obtain ⟨v, hv, rfl⟩ := ha
    suffices hh : ∃ c, (Instr.loadAt t (.pointer (some (Lc.at a'.off)))).run P w = .ok c w ∧ VRel μ v c by
      obtain ⟨c, h1, h2⟩ := hh
      exact .pure hr (c := c) (by simp [execOp, hs, h1]) h2
    unfold loadT at hv
    split at hv
    · rename_i hg
      split at hv
      · rename_i n hn
        obtain ⟨ti, hi1, hi2, _⟩ := hL.size hn
        cases hrd : rd h a' n with
        | none => simp [hrd] at hv
        | some vs =>
          simp only [hrd, Option.bind_some] at hv
          obtain ⟨l1, cs, l2, l3, _⟩ := hr.rd k1 k2 k3 hrd
          obtain ⟨c, m1, m2⟩ := mk_rel l2 hv
          refine ⟨c, ?_, m2⟩
          simp only [mk, cond_true, Option.some.injEq] at m1
          subst m1
          simp [Instr.loadAt, Instr.sureAddr, loadVar, run_agg hL hg, run_size hi1, hi2, load_run _ cs l3 n (by rw [← l2.length, l1])]
      · cases hv
    · rename_i hg
      cases hrd : rd h a' 1 with
      | none => simp [hrd] at hv
      | some vs =>
        simp only [hrd, Option.bind_some] at hv
        obtain ⟨l1, cs, l2, l3, _⟩ := hr.rd k1 k2 k3 hrd
        obtain ⟨c, m1, m2⟩ := mk_rel l2 hv
        refine ⟨c, ?_, m2⟩
        have hc0 : cs[0]? = some c := by
          simp only [mk, cond_false] at m1
          split at m1
          · cases m1; rfl
          · cases m1
        have hcell := l3 0 c hc0
        have hadd : (Lc.at a'.off).add 0 = Lc.at a'.off := rfl
        rw [hadd] at hcell
        simp [Instr.loadAt, Instr.sureAddr, loadVar, run_agg hL hg, hcell]
    · cases hv
  case store t a x =>
    have hx := hR a (by simp [Op.operands])
    have hy := (hR x (by simp [Op.operands])).cellsOf
    split at ha
    case h_2 => cases ha
    rename_i a' n heq hn
    rw [heq] at hx
    generalize hs : σ a = u at hx
    cases hx with | ptr k1 k2 k3 =>
    rename_i e Lc
    cases hb : Nat.beq (cellsOf (ρ x)).length n with
    | false => rw [hb] at ha; simp at ha
    | true =>
    rw [hb] at ha
    simp only [cond_true, Option.map_eq_some_iff] at ha
    obtain ⟨h', hw, rfl⟩ := ha
    obtain ⟨ti, hi1, hi2, _⟩ := hL.size hn
    obtain ⟨r0, w', r1, r2, r3⟩ := hr.wr (P := P) k1 k2 k3 hy hw
    refine ⟨r0, μ, w', ?_, r2, r3⟩
    have hlen : (σ x).cells.size = ti.size := by
      rw [hi2, ← Nat.eq_of_beq_eq_true hb, hy.length]; rfl
    simp [execOp, hs, Instr.storeAt, Instr.sureAddr, storeVar, run_size hi1, hlen, r1]
  case nilCheck x =>
    have hx := hR x (by simp [Op.operands])
    split at ha
    · rename_i heq; cases ha; rw [heq] at hx
      generalize hs : σ x = u at hx
      cases hx with | ptr k1 k2 k3 => exact .pure hr (c := _) (by simp [execOp, hs]) (.ptr k1 k2 k3)
    · rename_i heq; cases ha; rw [heq] at hx
      generalize hs : σ x = u at hx
      cases hx with | iface t hh => exact .pure hr (c := _) (by simp [execOp, hs]) (.iface _ hh)
    · rename_i heq; cases ha; rw [heq] at hx
      generalize hs : σ x = u at hx
      cases hx with | func f h1 h2 => exact .pure hr (c := _) (by simp [execOp, hs]) (.func _ h1 h2)
    · cases ha
  case binOp op t x y yt =>
    cases hc : nilPair x y (ρ x) (ρ y) with
    | false => rw [hc] at ha; simp at ha
    | true =>
    rw [hc] at ha
    simp only [cond_true, Option.map_eq_some_iff] at ha
    obtain ⟨v, hv, rfl⟩ := ha
    obtain ⟨u, h1, h2, h3⟩ := binV_run (P := P) (w := w) hL hv (hR x (by simp [Op.operands])) (hR y (by simp [Op.operands])) (t' := yt) hc
    exact .pure hr (c := u) (by simp [execOp, h1, h2]) h3
  case unOp op t x =>
    simp only [Option.map_eq_some_iff] at ha
    obtain ⟨v, hv, rfl⟩ := ha
    obtain ⟨u, h1, h2⟩ := unV_run (P := P) (w := w) hv (hR x (by simp [Op.operands]))
    exact .pure hr (c := u) (by simp [execOp, h1]) h2
  case convert s d x =>
    obtain ⟨v, u, rfl, h1, h2⟩ := conv_run hL hr ha (hR x (by simp [Op.operands]))
    exact .pure hr (c := u) (by simp [execOp, h1]) h2
  case makeInterface t x =>
    have hx := hR x (by simp [Op.operands])
    split at ha
    · cases ha
    · rename_i d hd hu
      cases ha
      refine .pure hr (c := .iface t (σ x)) ?_ (.iface t hx)
      have hu := hL.und hu
      simp only [execOp, Instr.makeInterface, Sem.run_bind, run_und hu, Result.andThen_ok]
      cases d <;> first | exact (hd _ rfl).elim | rfl
    · cases ha
  case makeFunc f a b =>
    split at ha
    · cases ha
      refine .pure hr (c := .func (.func _) (a.map σ) (b.map σ)) rfl ?_
      have e : ∀ (l : Array Operand), l.map σ = ⟨l.toList.map σ⟩ := fun l => by apply Array.ext'; simp
      rw [e, e]
      exact .func _ (map_rel fun x hx => hR x (by simp [Op.operands, Array.toList_append]; exact .inl (by simpa using hx))) (map_rel fun x hx => hR x (by simp [Op.operands, Array.toList_append]; exact .inr (by simpa using hx)))
    · cases ha
  case makeSlice t l c =>
    have h1 := hR l (by simp [Op.operands])
    have h2 := hR c (by simp [Op.operands])
    split at ha
    case h_2 => cases ha
    rename_i e hu
    split at ha
    case h_2 => cases ha
    rename_i esz z l' c' hsz hz hl hc
    rw [hl] at h1; rw [hc] at h2
    generalize hs1 : σ l = u1 at h1
    generalize hs2 : σ c = u2 at h2
    cases h1; cases h2
    cases hb : (Nat.ble l' c' && Nat.ble c' (2 ^ 24) && !(Nat.beq esz 0) && Nat.blt esz big) with
    | false => rw [hb] at ha; simp at ha
    | true =>
    rw [hb] at ha
    simp only [cond_true, Option.some.injEq] at ha
    subst ha
    simp only [Bool.and_eq_true, Nat.ble_eq, Bool.not_eq_true'] at hb
    obtain ⟨⟨⟨b1, b2⟩, b3⟩, b4⟩ := hb
    have hbig : esz < big := Nat.ble_eq.mp b4
    have b2 : c' ≤ 16777216 := b2
    have b3 : 0 < esz := by
      rcases Nat.eq_zero_or_pos esz with e | e
      · subst e; simp at b3
      · exact e
    obtain ⟨ti, hi1, hi2, hby⟩ := hL.size hsz
    obtain ⟨i, zv, hi1', hz2, hz3, hz4, _, hz5⟩ := hL.zero hz
    rw [hi1] at hi1'; cases hi1'
    have hzl := hz5 _ hsz
    have hzsz : zv.cells.size = esz := by rw [← hzl, ← hz3]; rfl
    have hcells : ((Array.range (c' * esz)).map (zv.cells[· % zv.cells.size]!)).toList = reps z c' := by
      rw [← hz3, ← zeroCells_eq]; unfold Builtin.zeroCells; rw [hzsz]
    have hwl : IntKind.i64.wrap (l' : Int) = l' := wrap_nat (by omega)
    have hwc : IntKind.i64.wrap (c' : Int) = c' := wrap_nat (by omega)
    have hsum : reps z c' = reps z l' ++ reps z (c' - l') := by
      apply List.ext_getElem?
      intro i
      rcases Nat.lt_or_ge i (l' * z.length) with hi | hi
      · rw [List.getElem?_append_left (by rw [reps_length]; exact hi), reps_get _ _ _ (Nat.lt_of_lt_of_le hi (Nat.mul_le_mul_right _ b1)), reps_get _ _ _ hi]
      · rw [List.getElem?_append_right (by rw [reps_length]; exact hi), reps_length]
        rcases Nat.lt_or_ge i (c' * z.length) with hi2 | hi2
        · have hlt : i - l' * z.length < (c' - l') * z.length := by rw [Nat.sub_mul]; omega
          rw [reps_get _ _ _ hi2, reps_get _ _ _ hlt]
          congr 1
          conv => lhs; rw [show i = (i - l' * z.length) + l' * z.length from by omega, Nat.add_mul_mod_self_right]
        · have hge : (c' - l') * z.length ≤ i - l' * z.length := by rw [Nat.sub_mul]; omega
          rw [List.getElem?_eq_none (by rw [reps_length]; exact hi2), List.getElem?_eq_none (by rw [reps_length]; exact hge)]
    have hlen : (reps z l').length = l' * z.length := reps_length _ _
    rw [← hlen]
    refine .row hr hlow (C := ⟨reps z c'⟩) (el := e) (c := .slice (some ⟨w.heap.size, 0, none⟩) l' c') ?_ (fun o v ho => ?_) fun μ' hm => ?_
    · have hbytes : ∀ n : Nat, n ≤ 16777216 → ¬ (((ti.bytes : Int) * (n : Int)) > 2 ^ 48) := fun n hn => by
        have h1 : ti.bytes * n ≤ 4096 * 16777216 := Nat.mul_le_mul hby hn
        have e1 : ((ti.bytes : Int) * (n : Int)) = ((ti.bytes * n : Nat) : Int) := by simp
        rw [e1]
        have : (2 : Int) ^ 48 = 281474976710656 := by decide
        omega
      have hb1 : (decide ((c' : Int) < 0) || decide ((ti.bytes : Int) * (c' : Int) > 2 ^ 48)) = false := by
        simp only [Bool.or_eq_false_iff, decide_eq_false_iff_not]
        exact ⟨by omega, hbytes c' b2⟩
      simp only [execOp, hs1, hs2, Instr.makeSlice, Sem.run_bind, run_und (hL.und hu), Result.andThen_ok, asInt, asIntOf, Sem.run_pure, run_info hi1, Int.ofNat_eq_natCast, hwl, hwc, hb1, Bool.false_or]
      rw [if_neg (by simp; omega)]
      simp only [Sem.run_bind, run_askRoom, Result.andThen_ok, Int.toNat_natCast, run_size hi1, hi2]
      by_cases h0 : c' * esz = 0
      · have hc0 : c' = 0 := by
          rcases Nat.mul_eq_zero.mp h0 with h | h
          · exact h
          · omega
        subst hc0
        have : l' = 0 := by omega
        subst this
        simp [newRow, newObj, Sem.run, reps]
        congr 2
        apply Array.ext'; simp
      · rw [if_neg h0]
        simp only [Sem.run_bind, run_zero hi1 hz2, Result.andThen_ok, Sem.run_pure, newRow, newObj, Sem.run]
        congr 4
        apply Array.ext'; rw [hcells]
    · simp only [List.getElem?_toArray]
      rw [hsum, List.getElem?_append_left (List.getElem?_eq_some_iff.mp ho).1]
      obtain ⟨c, q1, q2⟩ := ((hz4 μ).reps l').get ho
      exact ⟨c, q1, q2⟩
    · refine .slice (a := ⟨h.next, 0, some (reps z l').length⟩) (L := ⟨w.heap.size, 0, 0, _⟩) rfl hm (Nat.le_refl _) ?_
      by_cases hlc : l' = c'
      · rw [beqT hlc]; exact .inl ⟨rfl, hlc.symm, .inr rfl⟩
      · rw [beqF hlc]
        refine .inr (.inl ⟨esz, b3, hbig, rfl, b1, .inr ⟨rfl, ?_⟩⟩)
        simp [reps_length, hzl]
  case slice t x lo hi mx =>
    simp only [Option.map_eq_some_iff] at ha
    obtain ⟨v, hv, rfl⟩ := ha
    have hopt : ∀ y : Option Operand, (∀ z, y = some z → z ∈ (Op.slice t x lo hi mx).operands.toList) → OptRel μ (y.map ρ) (y.map σ) := fun y hy => optMap_rel fun z hz => hR z (hy z hz)
    obtain ⟨u, h1, h2⟩ := sliceV_run (P := P) (w := w) hL hv (hR x (by simp [Op.operands])) (hopt lo (fun z hz => by subst hz; simp [Op.operands])) (hopt hi (fun z hz => by subst hz; simp [Op.operands])) (hopt mx (fun z hz => by subst hz; simp [Op.operands]))
    exact .pure hr (c := u) (by simp [execOp, h1]) h2
  case fieldAddr t x k =>
    have hx := hR x (by simp [Op.operands])
    split at ha
    case h_2 => cases ha
    rename_i fs a hu heq
    rw [heq] at hx
    generalize hs : σ x = u at hx
    cases hx with | ptr k1 k2 k3 =>
    rename_i e Lc
    split at ha
    case h_2 => cases ha
    rename_i f hf
    split at ha
    case h_2 => cases ha
    rename_i n hn
    obtain ⟨ti, hi1, hi2, _⟩ := hL.size hn
    cases ha
    refine .pure hr (c := .pointer (some ((Lc.at a.off).add f.offset))) ?_ ?_
    · simp [execOp, hs, Instr.fieldAt, run_und (hL.und hu), hf, Instr.sureAddr, fieldPlace_run hi1 (by omega)]
    · rw [at_add Lc k3]
      exact .ptr (a := addrAdd a f.offset) k1 k2 (by simp [addrAdd]; omega)
  case field t x k =>
    have hx := hR x (by simp [Op.operands])
    split at ha
    case h_2 => cases ha
    rename_i fs cs hu heq
    rw [heq] at hx
    generalize hs : σ x = u at hx
    cases hx with | agg hx =>
    rename_i as bs
    split at ha
    case h_2 => cases ha
    rename_i f hf
    split at ha
    case h_2 => cases ha
    rename_i n g hn hg
    simp only [Option.map_eq_some_iff] at ha
    obtain ⟨v, hv, rfl⟩ := ha
    obtain ⟨c, m1, m2⟩ := mk_rel ((hx.drop f.offset).take (bif g then n else 1)) hv
    refine .pure hr (c := c) ?_ m2
    simp only [execOp, hs, Instr.field, Sem.run_bind, run_und (hL.und hu), Result.andThen_ok, hf, asAgg, Sem.run_pure]
    rw [part_run hL hg hn m1]
    rfl
  case indexAddr t x ix =>
    have hx := hR x (by simp [Op.operands])
    have hi := hR ix (by simp [Op.operands])
    split at ha
    case h_2 => cases ha
    rename_i k n heq
    rw [heq] at hi
    generalize hsi : σ ix = ui at hi
    cases hi
    split at ha
    · rename_i e a len cap hu heqx
      rw [heqx] at hx
      generalize hs : σ x = u at hx
      split at ha
      case h_2 => cases ha
      rename_i esz hsz
      cases hb : Nat.blt n len with
      | false => rw [hb] at ha; simp at ha
      | true =>
      rw [hb] at ha
      simp only [cond_true, Option.some.injEq] at ha
      subst ha
      have hb : n < len := Nat.ble_eq.mp hb
      obtain ⟨ti, hi1, hi2, _⟩ := hL.size hsz
      cases hx with | slice k1 k2 k3 k4 =>
      rename_i e' Lc ccap c
      have hc : c = Lc.at a.off := by
        rcases cap_at k4 with h0 | h0
        · have := cap_le k4; omega
        · exact h0
      subst hc
      refine .pure hr (c := .pointer (some ((Lc.at a.off).add (n * esz)))) ?_ ?_
      · simp [execOp, hs, hsi, Instr.indexAt, asIntOf, run_und (hL.und hu), hb, run_size hi1, hi2]
      · rw [at_add Lc k3]
        exact .ptr (a := addrAdd a (n * esz)) k1 k2 (by simp [addrAdd]; omega)
    · rename_i len e a hu heqx
      rw [heqx] at hx
      generalize hs : σ x = u at hx
      split at ha
      case h_2 => cases ha
      rename_i esz hsz
      cases hb : Nat.blt n len with
      | false => rw [hb] at ha; simp at ha
      | true =>
      rw [hb] at ha
      simp only [cond_true, Option.some.injEq] at ha
      subst ha
      have hb : n < len := Nat.ble_eq.mp hb
      obtain ⟨ti, hi1, hi2, _⟩ := hL.size hsz
      cases hx with | ptr k1 k2 k3 =>
      rename_i e' Lc
      refine .pure hr (c := .pointer (some ((Lc.at a.off).add (n * esz)))) ?_ ?_
      · simp [execOp, hs, hsi, Instr.indexAt, asIntOf, run_und (hL.und hu), hb, run_size hi1, hi2, Instr.sureAddr]
      · rw [at_add Lc k3]
        exact .ptr (a := addrAdd a (n * esz)) k1 k2 (by simp [addrAdd]; omega)
    · cases ha
  case index t x ix =>
    have hx := hR x (by simp [Op.operands])
    have hi := hR ix (by simp [Op.operands])
    split at ha
    case h_2 => cases ha
    rename_i k n heq
    rw [heq] at hi
    generalize hsi : σ ix = ui at hi
    cases hi
    split at ha
    · rename_i s hu heqx
      rw [heqx] at hx
      generalize hs : σ x = u at hx
      cases hx
      split at ha
      · rename_i b hb
        cases ha
        refine .pure hr (c := .int .u8 b.toNat) ?_ (.int _ _)
        have hsz : n < s.size := (List.getElem?_eq_some_iff.mp hb).1
        have hget : s[n]? = some b := by
          have h1 : s[n]? = some s[n] := getElem?_pos s n hsz
          rw [h1]; congr 1
          exact (List.getElem?_eq_some_iff.mp hb).2
        simp [execOp, hs, hsi, Instr.index, asIntOf, run_und (hL.und hu), hget]
      · cases ha
    · rename_i len e cs hu heqx
      rw [heqx] at hx
      generalize hs : σ x = u at hx
      cases hx with | agg hx =>
      split at ha
      case h_2 => cases ha
      rename_i esz g hsz hg
      cases hb : Nat.blt n len with
      | false => rw [hb] at ha; simp at ha
      | true =>
      rw [hb] at ha
      simp only [cond_true, Option.map_eq_some_iff] at ha
      obtain ⟨v, hv, rfl⟩ := ha
      have hb : n < len := Nat.ble_eq.mp hb
      obtain ⟨ti, hi1, hi2, _⟩ := hL.size hsz
      obtain ⟨c, m1, m2⟩ := mk_rel ((hx.drop (n * esz)).take (bif g then esz else 1)) hv
      refine .pure hr (c := c) ?_ m2
      have hp := part_run (w := w) hL hg hsz m1
      simp [execOp, hs, hsi, Instr.index, asIntOf, run_und (hL.und hu), hb, run_size hi1, hi2, hp]
    · cases ha
  case typeAssert x xt t ok =>
    simp only [Option.map_eq_some_iff] at ha
    obtain ⟨v, hv, rfl⟩ := ha
    obtain ⟨u, h1, h2⟩ := assertV_run (P := P) (w := w) (xt := xt) hL hv (hR x (by simp [Op.operands]))
    exact .pure hr (c := u) (by simp [execOp, h1]) h2
  case extract t k =>
    have hx := hR t (by simp [Op.operands])
    split at ha
    case h_2 => cases ha
    rename_i vs heq
    rw [heq] at hx
    generalize hs : σ t = u at hx
    cases hx with | tuple hx =>
    simp only [Option.map_eq_some_iff] at ha
    obtain ⟨v, hv, rfl⟩ := ha
    obtain ⟨c, h1, h2⟩ := hx.get (by simpa using hv)
    exact .pure hr (c := c) (by simp [execOp, hs, Instr.extract, h1]) h2
  case call c =>
    have hargs : VsRel μ (c.args.toList.map ρ) (c.args.toList.map σ) := map_rel fun x hx => hR x (by
      simp only [Op.operands, Call.operands, Array.toList_append, List.mem_append]; exact .inr hx)
    split at ha
    · rename_i f hcal
      have hf := hR f (by simp [Op.operands, Call.operands, hcal])
      obtain ⟨d, h1, h2⟩ := callee_run (P := P) (w := w) ha hf hargs (c := c) (ty := ty) hcal rfl
      rcases h2 with ⟨g, as, rfl, cap, h3, h4⟩ | ⟨l, Lc, rfl, h3, rfl⟩
      · refine ⟨d.args.toList ++ cap.toList, h4, fun hcb => ?_⟩
        have e : d.args ++ cap = ⟨d.args.toList ++ cap.toList⟩ := by apply Array.ext'; simp
        simp [execOp, h1, invoke, h3, e, callFunc_run hcb]
      · refine ⟨Lc, _, h3, hargs, ?_⟩
        simp [execOp, h1, invoke]
    · rename_i r m hcal
      have hr' := hR r (by simp [Op.operands, Call.operands, hcal])
      split at ha
      case h_2 => cases ha
      rename_i t v heq
      rw [heq] at hr'
      generalize hs : σ r = u at hr'
      cases hr' with | iface _ hv =>
      rename_i cv
      simp only [Option.map_eq_some_iff] at ha
      obtain ⟨f, hm, rfl⟩ := ha
      refine ⟨cv :: c.args.toList.map σ, .cons hv hargs, fun hcb => ?_⟩
      have hmeth := hL.meth hm cv w
      have e : #[cv] ++ c.args.map σ = ⟨cv :: c.args.toList.map σ⟩ := by apply Array.ext'; simp
      have e2 : (#[Value.iface t cv] ++ c.args.map σ).extract 1 (#[Value.iface t cv] ++ c.args.map σ).size = c.args.map σ := by
        apply Array.ext'
        rw [Array.toList_extract]
        simp
        first | done | (rw [List.take_of_length_le]; simp)
      have e3 : (#[Value.iface t cv] ++ c.args.map σ)[0]? = some (.iface t cv) := by
        rw [Array.getElem?_append_left (by simp)]; rfl
      have h1 : (callMethod (.iface t cv) m (c.args.map σ)).run P w = .ok (.enter f ⟨cv :: c.args.toList.map σ⟩) w := by
        unfold callMethod
        simp only [Sem.run_bind, program, Sem.run, Result.andThen_ok]
        rw [hmeth]
        simp only [Result.andThen_ok, e, callFunc_run hcb]
      have h2 : (invoke (.fn (.method m) #[]) (#[Value.iface t cv] ++ c.args.map σ)).run P w = .ok (.enter f ⟨cv :: c.args.toList.map σ⟩) w := by
        unfold invoke
        simp only [e3, e2]
        exact h1
      simp only [execOp, resolve, hcal, hs, Sem.run_bind, Sem.run_pure, Result.andThen_ok, h2]
    · rename_i b hcal
      have e : c.args.map σ = ⟨c.args.toList.map σ⟩ := by apply Array.ext'; simp
      simp only [execOp, resolve, hcal, Sem.run_bind, Sem.run_pure, Result.andThen_ok, invoke, e]
      exact (builtin_run (P := P) hL hr hlow ha hargs).elim fun _ hh => hh.elim fun _ hh => hh.2
  case defer c =>
    have hargs : VsRel μ (c.args.toList.map ρ) (c.args.toList.map σ) := map_rel fun x hx => hR x (by
      simp only [Op.operands, Call.operands, Array.toList_append, List.mem_append]; exact .inr hx)
    split at ha
    case h_2 => cases ha
    rename_i f hcal
    have hf := hR f (by simp [Op.operands, Call.operands, hcal])
    split at ha
    case h_2 => cases ha
    rename_i g as hce
    cases ha
    obtain ⟨d, h1, h2⟩ := callee_run (P := P) (w := w) hce hf hargs (c := c) (ty := ty) hcal rfl
    rcases h2 with ⟨g', as', heq, cap, h3, h4⟩ | ⟨l, Lc, heq, _⟩
    · cases heq
      exact ⟨d, cap, by simp [execOp, h1], h3, h4⟩
    · cases heq
  case makeMap t rv =>
    cases rv with
    | some _ => cases ha
    | none =>
      cases ha
      refine .new hr hlow (O := .map #[] 0) (c := .map (some w.heap.size)) ?_ (.map .none) fun μ' hm => .map hm
      simp [execOp, Instr.makeMap, newObj, Sem.run]
  case mapUpdate t m k v =>
    have hm := hR m (by simp [Op.operands])
    have hk := hR k (by simp [Op.operands])
    have hv := hR v (by simp [Op.operands])
    split at ha
    case h_2 => cases ha
    rename_i r ki n e1 e2
    rw [e1] at hm
    rw [e2] at hk
    generalize hs1 : σ m = u1 at hm
    generalize hs2 : σ k = u2 at hk
    cases hk
    cases hm with | map hmu =>
    rename_i Lc
    split at ha
    case h_2 => cases ha
    rename_i kt et hu
    split at ha
    case h_2 => cases ha
    rename_i kd hkd
    have hu' := hL.und hu
    have hk' := hL.und hkd
    split at ha
    · rename_i ck hg
      cases hbb : (low.ok r && decide (kd = ki)) with
      | false => rw [hbb] at ha; simp at ha
      | true =>
        rw [hbb] at ha
        simp only [cond_true, Option.some.injEq] at ha
        subst ha
        simp only [Bool.and_eq_true, decide_eq_true_eq] at hbb
        obtain ⟨hlo, rfl⟩ := hbb
        obtain ⟨_, O, h1, h2⟩ := hr.oth _ _ _ _ hmu hg
        cases h2 with | map h3 =>
        cases h3
        obtain ⟨t1, t2, t3⟩ := turn_oth hr hg hmu h1 (.map .none) hlo (x' := .map (some (.int kd n, ρ v, ck)) (ck + 1)) (O' := .map #[⟨.int kd n, σ v, ck⟩] (ck + 1)) (.map (.some (.int _ _) hv))
        refine ⟨t1, μ, _, ?_, t2, t3⟩
        simp [execOp, hs1, hs2, update_none hu' hk' h1]
    · rename_i kj m' x b ck hg
      cases hbb : (low.ok r && decide (kd = ki) && decide (kd = kj) && (n == m')) with
      | false => rw [hbb] at ha; simp at ha
      | true =>
        rw [hbb] at ha
        simp only [cond_true, Option.some.injEq] at ha
        subst ha
        simp only [Bool.and_eq_true, decide_eq_true_eq, beq_iff_eq] at hbb
        obtain ⟨⟨⟨hlo, rfl⟩, rfl⟩, rfl⟩ := hbb
        obtain ⟨_, O, h1, h2⟩ := hr.oth _ _ _ _ hmu hg
        cases h2 with | map h3 =>
        cases h3 with | some q1 q2 =>
        cases q1
        obtain ⟨t1, t2, t3⟩ := turn_oth hr hg hmu h1 (.map (.some (.int _ _) q2)) hlo (x' := .map (some (.int kd n, ρ v, b)) ck) (O' := .map #[⟨.int kd n, σ v, b⟩] ck) (.map (.some (.int _ _) hv))
        refine ⟨t1, μ, _, ?_, t2, t3⟩
        simp [execOp, hs1, hs2, update_same hu' hk' h1]
    · cases ha
  case range t m =>
    have hm := hR m (by simp [Op.operands])
    split at ha
    case h_2 => cases ha
    rename_i r e1
    rw [e1] at hm
    generalize hs1 : σ m = u1 at hm
    cases hm with | map hmu =>
    rename_i Lc
    split at ha
    case h_2 => cases ha
    rename_i kt et hu
    have hu' := hL.und hu
    split at ha
    case h_2 => cases ha
    rename_i e ck hg
    cases ha
    obtain ⟨_, O, h1, h2⟩ := hr.oth _ _ _ _ hmu hg
    cases h2 with | map h3 =>
    refine .new hr hlow (O := .mapIter (some Lc.blk) ck #[] ck) (c := .pointer (some ⟨w.heap.size, 0, none⟩)) ?_ (.iter hmu) fun μ' hm => .iter hm
    simp [execOp, hs1, run_range_map w t _ _ _ _ _ hu' h1]
  case next it isS =>
    cases isS with
    | true => cases ha
    | false =>
    have hi := hR it (by simp [Op.operands])
    dsimp only at ha
    split at ha
    case h_2 => cases ha
    rename_i i e1
    rw [e1] at hi
    generalize hs1 : σ it = u1 at hi
    cases hi with | iter hmu =>
    rename_i Li
    split at ha
    case h_2 => cases ha
    rename_i r since last seen hg
    obtain ⟨_, O, h1, h2⟩ := hr.oth _ _ _ _ hmu hg
    cases h2 with | iter hmr =>
    rename_i Lr
    split at ha
    · rename_i ck hgr
      cases ha
      obtain ⟨_, O2, h3, h4⟩ := hr.oth _ _ _ _ hmr hgr
      cases h4 with | map h5 =>
      cases h5
      refine .pure hr (c := .tuple #[.bool false]) ?_ (.tuple (.cons (.bool _) .nil))
      simp [execOp, hs1, Instr.next, getObj, Sem.run, h1, h3, Result.andThen, choose, Question.forced]
    · rename_i k v b ck hgr
      obtain ⟨_, O2, h3, h4⟩ := hr.oth _ _ _ _ hmr hgr
      cases h4 with | map h5 =>
      cases h5 with | some q1 q2 =>
      rename_i k' v'
      cases seen with
      | none =>
        dsimp only at ha
        cases hbb : (Nat.blt b since && low.ok i) with
        | false => rw [hbb] at ha; simp at ha
        | true =>
          rw [hbb] at ha
          simp only [cond_true, Option.some.injEq] at ha
          subst ha
          simp only [Bool.and_eq_true] at hbb
          obtain ⟨hbs, hlo⟩ := hbb
          have hbs : b < since := Nat.ble_eq.mp hbs
          obtain ⟨t1, t2, t3⟩ := turn_oth hr hg hmu h1 (.iter hmr) hlo (x' := .iter r since ck (some b)) (O' := .mapIter (some Lr.blk) since #[b] ck) (.iter hmr)
          refine ⟨t1, μ, _, .tuple #[.bool true, k', v'], ?_, t2, t3, .tuple (.cons (.bool _) (.cons q1 (.cons q2 .nil)))⟩
          have h00 : ¬ (since ≤ b) := by omega
          have hset := setObj_run (P := P) (O' := .mapIter (some Lr.blk) since #[b] ck) h1 (fun _ _ _ h => by cases h)
          simp [execOp, hs1, Instr.next, getObj, Sem.run, h1, h3, Result.andThen, choose, Question.forced, hbs, h00]
          rw [hset]
      | some s =>
        dsimp only at ha
        cases hbb : (Nat.beq s b && Nat.blt b since && Nat.ble since last) with
        | false => rw [hbb] at ha; simp at ha
        | true =>
          rw [hbb] at ha
          simp only [cond_true, Option.some.injEq] at ha
          subst ha
          simp only [Bool.and_eq_true] at hbb
          obtain ⟨⟨hsb, hbs⟩, hsl⟩ := hbb
          have hsb := Nat.eq_of_beq_eq_true hsb
          subst hsb
          have hbs : s < since := Nat.ble_eq.mp hbs
          have hsl : since ≤ last := Nat.ble_eq.mp hsl
          refine .pure hr (c := .tuple #[.bool false]) ?_ (.tuple (.cons (.bool _) .nil))
          have h0 : ¬ (last ≤ s) := by omega
          simp [execOp, hs1, Instr.next, getObj, Sem.run, h1, h3, Result.andThen, choose, Question.forced, h0]
    · cases ha
  case entry it =>
    have hi := hR it (by simp [Op.operands])
    split at ha
    case h_2 => cases ha
    rename_i i e1
    rw [e1] at hi
    generalize hs1 : σ it = u1 at hi
    cases hi with | iter hmu =>
    rename_i Li
    split at ha
    case h_2 => cases ha
    rename_i r since last s hg
    obtain ⟨_, O, h1, h2⟩ := hr.oth _ _ _ _ hmu hg
    cases h2 with | iter hmr =>
    rename_i Lr
    split at ha
    case h_2 => cases ha
    rename_i k v b ck hgr
    obtain ⟨_, O2, h3, h4⟩ := hr.oth _ _ _ _ hmr hgr
    cases h4 with | map h5 =>
    cases h5 with | some q1 q2 =>
    rename_i k' v'
    cases hbb : (Nat.beq s b && Nat.beq ck last) with
    | false => rw [hbb] at ha; simp at ha
    | true =>
      rw [hbb] at ha
      simp only [cond_true, Option.some.injEq] at ha
      subst ha
      simp only [Bool.and_eq_true] at hbb
      have e1 := Nat.eq_of_beq_eq_true hbb.1
      have e2 := Nat.eq_of_beq_eq_true hbb.2
      subst e1 e2
      refine .pure hr (c := .tuple #[k', v']) ?_ (.tuple (.cons q1 (.cons q2 .nil)))
      have := run_entry_at (P := P) w Li.blk Lr.blk since #[] #[⟨k', v', s⟩] ck ⟨k', v', s⟩ (by simpa using h1) h3 (by simp) (by simp)
      simp [execOp, hs1, this]
  all_goals (cases ha)

end Go.AM

namespace Go.AM
variable {P : Program} {L : Ty} {low : Lw} {μ : Mu} {h : AH} {w : World}

inductive PureRes (P : Program) (μ : Mu) (h : AH) (w : World) : ARes → Result Next → Prop
  | mk {v c : Value} {r : Result Next} : r = .ok (.value c) w → VRel μ v c → PureRes P μ h w (.val v h) r

theorem pop_sound (hL : L.Ok P) {o : Oper} (hp : pureOp o.op = true) (hok : opOk o.op = true) {ρ σ : Operand → Value} (hR : ∀ x ∈ o.op.operands.toList, VRel μ (ρ x) (σ x))
    {res : ARes} (ha : aop L low ρ h o.op = some res) : PureRes P μ h w res ((execOp σ o).run P w) := by
  obtain ⟨dst, op, ty, ps, after, guard⟩ := o
  simp only [opOk, Bool.and_eq_true, List.all_eq_true] at hok ha hR hp ⊢
  have hops := hok
  cases op <;> simp only [aop] at ha
  case move x => cases ha; exact .mk rfl (hR x (by simp [Op.operands]))
  case assign x => cases ha; exact .mk rfl (hR x (by simp [Op.operands]))
  case pick c a b =>
    have hc := hR c (by simp [Op.operands])
    have h1 := hR a (by simp [Op.operands])
    have h2 := hR b (by simp [Op.operands])
    split at ha
    · rename_i heq; rw [heq] at hc; generalize hs : σ c = u at hc; cases hc; cases ha
      exact .mk (by simp [execOp, hs, asBool]) h1
    · rename_i heq; rw [heq] at hc; generalize hs : σ c = u at hc; cases hc; cases ha
      exact .mk (by simp [execOp, hs, asBool]) h2
    · cases ha
  case build t ps =>
    have hps : ∀ x ∈ ps.toList.map (·.2), VRel μ (ρ x) (σ x) := fun x hx => hR x (by simpa [Op.operands] using hx)
    split at ha
    · rename_i z fs hz hu
      obtain ⟨i, zv, h1, h2, h3, h4, _⟩ := hL.zero hz
      cases hall : (!(fs.toList.all fun f => (L.size f.type).isSome)) with
      | true => rw [hall] at ha; simp at ha
      | false =>
      rw [hall] at ha
      simp only [cond_false, Option.map_eq_some_iff] at ha
      obtain ⟨cs, hf, rfl⟩ := ha
      simp only [Bool.not_eq_false', List.all_eq_true] at hall
      obtain ⟨pl, p1, p2⟩ := places_run (P := P) (w := w) hL fs.toList hall
      obtain ⟨cc, q1, q2⟩ := fill_places (pl' := fun i => (⟨pl⟩ : Array (Nat × Nat))[i]?) (zv := zv.cells) (fun i x hx => by
        simp only [List.getElem?_toArray]
        exact p2 i x hx) (by rw [h3]; exact h4 μ) hps hf
      refine PureRes.mk (c := .agg cc) ?_ (by have := VRel.agg q2; simpa using this)
      have hm : (fs.mapM (fun (f : Field) => do pure (f.offset, ← sizeOf f.type)) : Sem (Array (Nat × Nat))).run P w = .ok ⟨pl⟩ w := by
        rw [Array.mapM_eq_mapM_toList, Sem.run_map, p1]; rfl
      simp only [execOp, Instr.build, Sem.run_bind, run_zero h1 h2, Result.andThen_ok, run_und (hL.und hu), hm, q1, Sem.run_pure]
    · rename_i z n e hz hu
      obtain ⟨i, zv, h1, h2, h3, h4, _⟩ := hL.zero hz
      split at ha
      · rename_i sz hsz
        obtain ⟨ti, hi1, hi2, _⟩ := hL.size hsz
        simp only [Option.map_eq_some_iff] at ha
        obtain ⟨cs, hf, rfl⟩ := ha
        obtain ⟨cc, q1, q2⟩ := fill_places (pl' := fun i => some (i * sz, sz)) (zv := zv.cells) (fun i x hx => hx) (by rw [h3]; exact h4 μ) hps hf
        refine PureRes.mk (c := .agg cc) ?_ (by have := VRel.agg q2; simpa using this)
        simp only [execOp, Instr.build, Sem.run_bind, run_zero h1 h2, Result.andThen_ok, run_und (hL.und hu), run_size hi1, hi2, q1, Sem.run_pure]
      · cases ha
    · cases ha
  case nilCheck x =>
    have hx := hR x (by simp [Op.operands])
    split at ha
    · rename_i heq; cases ha; rw [heq] at hx
      generalize hs : σ x = u at hx
      cases hx with | ptr k1 k2 k3 => exact .mk (by simp [execOp, hs]) (.ptr k1 k2 k3)
    · rename_i heq; cases ha; rw [heq] at hx
      generalize hs : σ x = u at hx
      cases hx with | iface t hh => exact .mk (by simp [execOp, hs]) (.iface _ hh)
    · rename_i heq; cases ha; rw [heq] at hx
      generalize hs : σ x = u at hx
      cases hx with | func f h1 h2 => exact .mk (by simp [execOp, hs]) (.func _ h1 h2)
    · cases ha
  case binOp op t x y yt =>
    cases hc : nilPair x y (ρ x) (ρ y) with
    | false => rw [hc] at ha; simp at ha
    | true =>
    rw [hc] at ha
    simp only [cond_true, Option.map_eq_some_iff] at ha
    obtain ⟨v, hv, rfl⟩ := ha
    obtain ⟨u, h1, h2, h3⟩ := binV_run (P := P) (w := w) hL hv (hR x (by simp [Op.operands])) (hR y (by simp [Op.operands])) (t' := yt) hc
    exact PureRes.mk (c := u) (by simp [execOp, h1, h2]) h3
  case unOp op t x =>
    simp only [Option.map_eq_some_iff] at ha
    obtain ⟨v, hv, rfl⟩ := ha
    obtain ⟨u, h1, h2⟩ := unV_run (P := P) (w := w) hv (hR x (by simp [Op.operands]))
    exact PureRes.mk (c := u) (by simp [execOp, h1]) h2
  case makeInterface t x =>
    have hx := hR x (by simp [Op.operands])
    split at ha
    · cases ha
    · rename_i d hd hu
      cases ha
      refine PureRes.mk (c := .iface t (σ x)) ?_ (.iface t hx)
      have hu := hL.und hu
      simp only [execOp, Instr.makeInterface, Sem.run_bind, run_und hu, Result.andThen_ok]
      cases d <;> first | exact (hd _ rfl).elim | rfl
    · cases ha
  case makeFunc f a b =>
    split at ha
    · cases ha
      refine PureRes.mk (c := .func (.func _) (a.map σ) (b.map σ)) rfl ?_
      have e : ∀ (l : Array Operand), l.map σ = ⟨l.toList.map σ⟩ := fun l => by apply Array.ext'; simp
      rw [e, e]
      exact .func _ (map_rel fun x hx => hR x (by simp [Op.operands, Array.toList_append]; exact .inl (by simpa using hx))) (map_rel fun x hx => hR x (by simp [Op.operands, Array.toList_append]; exact .inr (by simpa using hx)))
    · cases ha
  case slice t x lo hi mx =>
    simp only [Option.map_eq_some_iff] at ha
    obtain ⟨v, hv, rfl⟩ := ha
    have hopt : ∀ y : Option Operand, (∀ z, y = some z → z ∈ (Op.slice t x lo hi mx).operands.toList) → OptRel μ (y.map ρ) (y.map σ) := fun y hy => optMap_rel fun z hz => hR z (hy z hz)
    obtain ⟨u, h1, h2⟩ := sliceV_run (P := P) (w := w) hL hv (hR x (by simp [Op.operands])) (hopt lo (fun z hz => by subst hz; simp [Op.operands])) (hopt hi (fun z hz => by subst hz; simp [Op.operands])) (hopt mx (fun z hz => by subst hz; simp [Op.operands]))
    exact PureRes.mk (c := u) (by simp [execOp, h1]) h2
  case fieldAddr t x k =>
    have hx := hR x (by simp [Op.operands])
    split at ha
    case h_2 => cases ha
    rename_i fs a hu heq
    rw [heq] at hx
    generalize hs : σ x = u at hx
    cases hx with | ptr k1 k2 k3 =>
    rename_i e Lc
    split at ha
    case h_2 => cases ha
    rename_i f hf
    split at ha
    case h_2 => cases ha
    rename_i n hn
    obtain ⟨ti, hi1, hi2, _⟩ := hL.size hn
    cases ha
    refine PureRes.mk (c := .pointer (some ((Lc.at a.off).add f.offset))) ?_ ?_
    · simp [execOp, hs, Instr.fieldAt, run_und (hL.und hu), hf, Instr.sureAddr, fieldPlace_run hi1 (by omega)]
    · rw [at_add Lc k3]
      exact .ptr (a := addrAdd a f.offset) k1 k2 (by simp [addrAdd]; omega)
  case field t x k =>
    have hx := hR x (by simp [Op.operands])
    split at ha
    case h_2 => cases ha
    rename_i fs cs hu heq
    rw [heq] at hx
    generalize hs : σ x = u at hx
    cases hx with | agg hx =>
    rename_i as bs
    split at ha
    case h_2 => cases ha
    rename_i f hf
    split at ha
    case h_2 => cases ha
    rename_i n g hn hg
    simp only [Option.map_eq_some_iff] at ha
    obtain ⟨v, hv, rfl⟩ := ha
    obtain ⟨c, m1, m2⟩ := mk_rel ((hx.drop f.offset).take (bif g then n else 1)) hv
    refine PureRes.mk (c := c) ?_ m2
    simp only [execOp, hs, Instr.field, Sem.run_bind, run_und (hL.und hu), Result.andThen_ok, hf, asAgg, Sem.run_pure]
    rw [part_run hL hg hn m1]
    rfl
  case indexAddr t x ix =>
    have hx := hR x (by simp [Op.operands])
    have hi := hR ix (by simp [Op.operands])
    split at ha
    case h_2 => cases ha
    rename_i k n heq
    rw [heq] at hi
    generalize hsi : σ ix = ui at hi
    cases hi
    split at ha
    · rename_i e a len cap hu heqx
      rw [heqx] at hx
      generalize hs : σ x = u at hx
      split at ha
      case h_2 => cases ha
      rename_i esz hsz
      cases hb : Nat.blt n len with
      | false => rw [hb] at ha; simp at ha
      | true =>
      rw [hb] at ha
      simp only [cond_true, Option.some.injEq] at ha
      subst ha
      have hb : n < len := Nat.ble_eq.mp hb
      obtain ⟨ti, hi1, hi2, _⟩ := hL.size hsz
      cases hx with | slice k1 k2 k3 k4 =>
      rename_i e' Lc ccap c
      have hc : c = Lc.at a.off := by
        rcases cap_at k4 with h0 | h0
        · have := cap_le k4; omega
        · exact h0
      subst hc
      refine PureRes.mk (c := .pointer (some ((Lc.at a.off).add (n * esz)))) ?_ ?_
      · simp [execOp, hs, hsi, Instr.indexAt, asIntOf, run_und (hL.und hu), hb, run_size hi1, hi2]
      · rw [at_add Lc k3]
        exact .ptr (a := addrAdd a (n * esz)) k1 k2 (by simp [addrAdd]; omega)
    · rename_i len e a hu heqx
      rw [heqx] at hx
      generalize hs : σ x = u at hx
      split at ha
      case h_2 => cases ha
      rename_i esz hsz
      cases hb : Nat.blt n len with
      | false => rw [hb] at ha; simp at ha
      | true =>
      rw [hb] at ha
      simp only [cond_true, Option.some.injEq] at ha
      subst ha
      have hb : n < len := Nat.ble_eq.mp hb
      obtain ⟨ti, hi1, hi2, _⟩ := hL.size hsz
      cases hx with | ptr k1 k2 k3 =>
      rename_i e' Lc
      refine PureRes.mk (c := .pointer (some ((Lc.at a.off).add (n * esz)))) ?_ ?_
      · simp [execOp, hs, hsi, Instr.indexAt, asIntOf, run_und (hL.und hu), hb, run_size hi1, hi2, Instr.sureAddr]
      · rw [at_add Lc k3]
        exact .ptr (a := addrAdd a (n * esz)) k1 k2 (by simp [addrAdd]; omega)
    · cases ha
  case index t x ix =>
    have hx := hR x (by simp [Op.operands])
    have hi := hR ix (by simp [Op.operands])
    split at ha
    case h_2 => cases ha
    rename_i k n heq
    rw [heq] at hi
    generalize hsi : σ ix = ui at hi
    cases hi
    split at ha
    · rename_i s hu heqx
      rw [heqx] at hx
      generalize hs : σ x = u at hx
      cases hx
      split at ha
      · rename_i b hb
        cases ha
        refine PureRes.mk (c := .int .u8 b.toNat) ?_ (.int _ _)
        have hsz : n < s.size := (List.getElem?_eq_some_iff.mp hb).1
        have hget : s[n]? = some b := by
          have h1 : s[n]? = some s[n] := getElem?_pos s n hsz
          rw [h1]; congr 1
          exact (List.getElem?_eq_some_iff.mp hb).2
        simp [execOp, hs, hsi, Instr.index, asIntOf, run_und (hL.und hu), hget]
      · cases ha
    · rename_i len e cs hu heqx
      rw [heqx] at hx
      generalize hs : σ x = u at hx
      cases hx with | agg hx =>
      split at ha
      case h_2 => cases ha
      rename_i esz g hsz hg
      cases hb : Nat.blt n len with
      | false => rw [hb] at ha; simp at ha
      | true =>
      rw [hb] at ha
      simp only [cond_true, Option.map_eq_some_iff] at ha
      obtain ⟨v, hv, rfl⟩ := ha
      have hb : n < len := Nat.ble_eq.mp hb
      obtain ⟨ti, hi1, hi2, _⟩ := hL.size hsz
      obtain ⟨c, m1, m2⟩ := mk_rel ((hx.drop (n * esz)).take (bif g then esz else 1)) hv
      refine PureRes.mk (c := c) ?_ m2
      have hp := part_run (w := w) hL hg hsz m1
      simp [execOp, hs, hsi, Instr.index, asIntOf, run_und (hL.und hu), hb, run_size hi1, hi2, hp]
    · cases ha
  case typeAssert x xt t ok =>
    simp only [Option.map_eq_some_iff] at ha
    obtain ⟨v, hv, rfl⟩ := ha
    obtain ⟨u, h1, h2⟩ := assertV_run (P := P) (w := w) (xt := xt) hL hv (hR x (by simp [Op.operands]))
    exact PureRes.mk (c := u) (by simp [execOp, h1]) h2
  case extract t k =>
    have hx := hR t (by simp [Op.operands])
    split at ha
    case h_2 => cases ha
    rename_i vs heq
    rw [heq] at hx
    generalize hs : σ t = u at hx
    cases hx with | tuple hx =>
    simp only [Option.map_eq_some_iff] at ha
    obtain ⟨v, hv, rfl⟩ := ha
    obtain ⟨c, h1, h2⟩ := hx.get (by simpa using hv)
    exact PureRes.mk (c := c) (by simp [execOp, hs, Instr.extract, h1]) h2
  case call c =>
    have hargs : VsRel μ (c.args.toList.map ρ) (c.args.toList.map σ) := map_rel fun x hx => hR x (by
      simp only [Op.operands, Call.operands, Array.toList_append, List.mem_append]; exact .inr hx)
    simp only [pureOp] at hp
    split at ha
    · rename_i f hcal; rw [hcal] at hp; simp at hp
    · rename_i r m hcal; rw [hcal] at hp; simp at hp
    · rename_i b hcal
      rw [hcal] at hp
      have e : c.args.map σ = ⟨c.args.toList.map σ⟩ := by apply Array.ext'; simp
      simp only [execOp, resolve, hcal, Sem.run_bind, Sem.run_pure, Result.andThen_ok, invoke, e]
      generalize c.args.toList.map ρ = as at *
      generalize c.args.toList.map σ = cs at *
      unfold builtinV at ha
      split at ha
      · rename_i x
        obtain ⟨c1, rfl, a1⟩ := hargs.inv1
        split at ha
        · rename_i t ht
          split at ha
          · rename_i e a n cp hu
            cases ha
            refine PureRes.mk (c := .int .i64 n) ?_ (.int _ _)
            cases a1 <;> simp [builtin, Builtin.len_, ht, run_und (hL.und hu), goInt]
          · rename_i s hu
            cases ha
            refine PureRes.mk (c := .int .i64 s.size) ?_ (.int _ _)
            cases a1; simp [builtin, Builtin.len_, ht, run_und (hL.und hu), goInt]
          · rename_i n e hu
            cases ha
            refine PureRes.mk (c := .int .i64 n) ?_ (.int _ _)
            simp [builtin, Builtin.len_, ht, run_und (hL.und hu), goInt]
          · cases ha
        · cases ha
      · simp at hp
      · obtain ⟨c1, d1, rfl, a1, a2⟩ := hargs.inv2
        cases a1; cases a2; cases ha
        exact .mk (by simp [builtin, Builtin.min_, Builtin.min2]) (.int _ _)
      · obtain ⟨c1, d1, rfl, a1, a2⟩ := hargs.inv2
        cases a1; cases a2; cases ha
        exact .mk (by simp [builtin, Builtin.max_, Builtin.max2]) (.int _ _)
      · simp at hp
      · simp at hp
      · simp at hp
      · cases ha
  all_goals (simp [pureOp] at hp)

end Go.AM

namespace Go.AM
variable {P : Program} {L : Ty}

structure Wd (F : Fence) : Prop where
  fn : ∀ f, F.fn f
  depth : F.depth = none

theorem Wd.one {F : Fence} (h : Wd F) {n : Nat} : F.depth.isSome = true → 1 ≤ n := fun x => by rw [h.depth] at x; cases x
theorem Wd.room {F : Fence} (h : Wd F) (n : Nat) : F.room n := fun d x => by rw [h.depth] at x; cases x
theorem Wd.inRound {F : Fence} (h : Wd F) (l : Nat) : Wd (F.inRound l) := ⟨h.fn, h.depth⟩
theorem Wd.plain {F : Fence} (h : Wd F) : Wd F.plain := ⟨h.fn, h.depth⟩
theorem Wd.wide : Wd Fence.wide := ⟨fun _ => trivial, rfl⟩

inductive RoundRel (μ : Mu) : Option Nat → Option Nat → Prop
  | none : RoundRel μ none none
  | some {l : Nat} {Lc : Loc} : μ l 0 = some Lc → RoundRel μ (some l) (some Lc.blk)

inductive DefRel (μ : Mu) : ADef → Deferred → Prop
  | call {f : FuncId} {args : List Value} {d : Deferred} {cap : Array Value} : d.target = .fn (.func f) cap → VsRel μ args (d.args.toList ++ cap.toList) → DefRel μ (.call f args) d
  | mark {i : Nat} {Lc : Loc} {d : Deferred} : μ i 0 = some Lc → d.target = .collected Lc.blk → DefRel μ (.mark i) d

inductive DefsRel (μ : Mu) : List ADef → List Deferred → Prop
  | nil : DefsRel μ [] []
  | cons {a : ADef} {d : Deferred} {as : List ADef} {ds : List Deferred} : DefRel μ a d → DefsRel μ as ds → DefsRel μ (a :: as) (d :: ds)

theorem RoundRel.mono {μ μ' : Mu} (h : μ.le μ') {a b : Option Nat} (k : RoundRel μ a b) : RoundRel μ' a b := by
  cases k with
  | none => exact .none
  | some x => exact .some (h _ _ _ x)
theorem DefRel.mono {μ μ' : Mu} (h : μ.le μ') {a : ADef} {b : Deferred} (k : DefRel μ a b) : DefRel μ' a b := by
  cases k with
  | call x y => exact .call x (y.mono h)
  | mark x y => exact .mark (h _ _ _ x) y
theorem DefsRel.mono {μ μ' : Mu} (h : μ.le μ') : ∀ {a : List ADef} {b : List Deferred}, DefsRel μ a b → DefsRel μ' a b
  | _, _, .nil => .nil
  | _, _, .cons x y => .cons (x.mono h) (DefsRel.mono h y)
theorem DefsRel.append {μ : Mu} : ∀ {a : List ADef} {b : List Deferred} {c : List ADef} {d : List Deferred}, DefsRel μ a b → DefsRel μ c d → DefsRel μ (a ++ c) (b ++ d)
  | _, _, _, _, .nil, y => y
  | _, _, _, _, .cons x z, y => .cons x (z.append y)

inductive ExitRel : AExit → Exit → Prop
  | normal : ExitRel .normal .normal
  | exit (id : Nat) : ExitRel (.exit id) (.exit id)
  | goto (l : Nat) : ExitRel (.goto l) (.goto l)
  | ret : ExitRel .ret .ret

/-- What holds of a state of an activation. -/
structure St (μ : Mu) (fr : Fr) (h : AH) (a : Act) (w : World) : Prop where
  rel : Rel μ h w
  env : EnvRel μ fr.env a.tmps
  defs : DefsRel μ fr.defers a.defers

def CPost (low : Lw) (μ : Mu) (w : World) (out : Out) (sz : Nat) : Exit → Act → World → Prop := fun e a' w' =>
  ExitRel out.exit e ∧ ∃ μ', Step low μ μ' w w' ∧ St μ' out.fr out.h a' w' ∧ a'.tmps.size = sz

def KPost (low : Lw) (μ : Mu) (w : World) (v : Value) (h' : AH) : Ending → World → Prop := fun e w' =>
  ∃ c μ', e = .returned c ∧ Step low μ μ' w w' ∧ Rel μ' h' w' ∧ VRel μ' v c

/-- The steps of '.code c' ahead of '.inScope body'. -/
def wpWithin (F : Fence) (n : Nat) (P : Program) (body c : Code) (Q : Exit → Act → World → Prop) (a : Act) (w : World) : Prop :=
  ∀ (b : Frame) (k : List Item) (cs : List Frame), b.roundOf = F.round → F.fn b.fn → F.room (cs.length + 1 + n) →
    ∃ e a' w', Q e a' w' ∧ ArrivesIn (Machine.fenced P F) P (lone (b.atR a (.code c :: .inScope body :: k)) cs w) b k cs e a' w'

/-- The steps from a loop's round on. -/
def wpLoop (F : Fence) (n : Nat) (P : Program) (body : Code) (Q : Exit → Act → World → Prop) (a : Act) (w : World) : Prop :=
  ∀ (b : Frame) (k : List Item) (cs : List Frame), b.roundOf = F.round → F.fn b.fn → F.room (cs.length + 1 + n) →
    ∃ e a' w', Q e a' w' ∧ ArrivesIn (Machine.fenced P F) P (lone (b.atR a (.code body :: .inLoop body :: k)) cs w) b k cs e a' w'

structure SimRec (P : Program) (r : Rec) : Prop where
  loop : ∀ low c fr h out, r.code low (.loop c) fr h = some out → low.le h.next →
    ∀ N F n μ w a, codeOk N c = true → Wd F → RoundRel μ fr.round F.round → St μ fr h a w → N ≤ a.tmps.size → wpLoop F n P c (CPost low μ w out a.tmps.size) a w
  code : ∀ low c fr h out, r.code low c fr h = some out → low.le h.next → AKept low h out.h ∧ out.fr.round = fr.round ∧
    ∀ N F n μ w a, codeOk N c = true → Wd F → RoundRel μ fr.round F.round → St μ fr h a w → N ≤ a.tmps.size → c.wpIn F n P (CPost low μ w out a.tmps.size) a w
  within : ∀ low body c fr h out, r.within low body c fr h = some out → low.le h.next → AKept low h out.h ∧ out.fr.round = fr.round ∧
    ∀ N F n μ w a, codeOk N body = true → codeOk N c = true → Wd F → RoundRel μ fr.round F.round → St μ fr h a w → N ≤ a.tmps.size → wpWithin F n P body c (CPost low μ w out a.tmps.size) a w
  call : ∀ low f args h v h', r.call low f args h = some (v, h') → low.le h.next → Callable P f ∧ AKept low h h' ∧
    ∀ F n μ w cs, Wd F → Rel μ h w → VsRel μ args cs → CallsIn F n P f ⟨cs⟩ w (KPost low μ w v h') ∧ CallsDIn F n P f ⟨cs⟩ .returning w (fun e u w' => u = .returning ∧ KPost low μ w v h' e w')

theorem EnvRel.set {μ : Mu} {e : Env} {t : Array Value} (h : EnvRel μ e t) {d : Tmp} (hd : d < t.size) {v c : Value} (hv : VRel μ v c) : EnvRel μ (e.set d v) (t.setIfInBounds d c) := fun i => by
  rw [Env.get_set]
  by_cases hi : i = d
  · subst hi; simp [Array.getD, hd]; exact hv
  · rw [if_neg hi]
    have : (t.setIfInBounds d c).getD i undef = t.getD i undef := by
      simp only [Array.getD_eq_getD_getElem?]
      rw [Array.getElem?_setIfInBounds_ne (fun e => hi e.symm)]
    rw [this]; exact h i

theorem EnvRel.put {μ : Mu} {e : Env} {a : Act} (h : EnvRel μ e a.tmps) {d : Option Tmp} (hd : ∀ t, d = some t → t < a.tmps.size) {v c : Value} (hv : VRel μ v c) : EnvRel μ (e.put d v) (a.put d c).tmps := by
  cases d with
  | none => exact h
  | some t => exact h.set (hd t rfl) hv

theorem put_size (a : Act) (d : Option Tmp) (v : Value) : (a.put d v).tmps.size = a.tmps.size := by cases d <;> simp [Act.put]
theorem put_defers' (a : Act) (d : Option Tmp) (v : Value) : (a.put d v).defers = a.defers := by cases d <;> rfl

theorem guard_eq {μ : Mu} {e : Env} {t : Array Value} (h : EnvRel μ e t) (ops : Array Oper) (o : Oper) : guardV ops e o = Region.wanted o (yielded ops t) := by
  unfold guardV Region.wanted
  cases o.guard with
  | none => rfl
  | some g =>
    obtain ⟨j, want⟩ := g
    simp only [yielded]
    cases hd : (ops[j]?).bind (·.dst) with
    | none => simp
    | some d =>
      simp only [Option.bind_some]
      have hv := h d
      simp only [Array.getD_eq_getD_getElem?] at hv
      cases ht : t[d]? with
      | none =>
        rw [ht] at hv
        simp only [Option.getD_none, undef_eq] at hv
        generalize e.get d = u at hv
        cases hv; simp
      | some c =>
        rw [ht] at hv
        simp only [Option.getD_some] at hv
        generalize e.get d = u at hv
        cases hv <;> simp

theorem eval_rel {μ : Mu} {e : Env} {a : Act} (he : EnvRel μ e a.tmps) : ∀ x, opdOk x = true → VRel μ (e.eval x) (a.eval x) := fun _ hx => opd_rel he hx

end Go.AM

namespace Go.AM
variable {P : Program} {L : Ty}

/-- The loop's record, read. -/
theorem getLoop_run {w : World} {b : Nat} {Pl : Loop} (h : w.heap[b]? = some (.loop Pl)) : (Instr.getLoop b).run P w = .ok Pl w := by
  simp [Instr.getLoop, getObj, Sem.run, h]
theorem foldl_env {μ : Mu} {sz : Nat} : ∀ (ps : List Tmp) (as cs : List Value) {e : Env} {t : Array Value}, EnvRel μ e t → VsRel μ as cs → ps.all (Nat.blt · sz) = true → sz ≤ t.size →
    EnvRel μ ((ps.zip as).foldl (fun e p => e.set p.1 p.2) e) ((ps.zip cs).foldl (fun (t : Array Value) (p : Tmp × Value) => t.setIfInBounds p.1 p.2) t) ∧ ((ps.zip cs).foldl (fun (t : Array Value) (p : Tmp × Value) => t.setIfInBounds p.1 p.2) t).size = t.size
  | [], as, cs, e, t, he, _, _, _ => ⟨by simpa using he, rfl⟩
  | p :: ps, as, cs, e, t, he, hr, hp, hs => by
    cases hr with
    | nil => exact ⟨by simpa using he, by simp⟩
    | cons h1 h2 =>
      simp only [List.all_cons, Bool.and_eq_true] at hp
      have hp1 : p < sz := Nat.ble_eq.mp hp.1
      obtain ⟨q1, q2⟩ := foldl_env ps _ _ (he.set (d := p) (Nat.lt_of_lt_of_le hp1 hs) h1) h2 hp.2 (by simpa using hs)
      exact ⟨by simpa using q1, by simpa using q2⟩

theorem yield_sim {r : Rec} (hsim : SimRec P r) {low : Lw} {l : Nat} {args : List Value} {h h' : AH} {v : Value} (hy : yieldV r low l args h = some (v, h')) (hlow : low.le h.next) :
    AKept low h h' ∧ ∀ (F : Fence) n μ w cs Lc, Wd F → Rel μ h w → VsRel μ args cs → μ l 0 = some Lc →
      ∃ fn tmps assign body, (Instr.yield Lc.blk ⟨cs⟩).run P w = .ok (.round Lc.blk fn tmps assign body) w ∧ RoundIn F n P Lc.blk fn tmps assign body w (KPost low μ w v h') := by
  unfold yieldV at hy
  split at hy
  case h_2 => cases hy
  rename_i y hg
  split at hy
  case h_2 => cases hy
  rename_i hstate
  cases hb : (low.ok l && Nat.beq args.length y.params.size) with
  | false => rw [hb] at hy; simp at hy
  | true =>
  rw [hb] at hy
  simp only [cond_true] at hy
  simp only [Bool.and_eq_true, Nat.ble_eq] at hb
  obtain ⟨hll, hlen⟩ := hb
  have hlen := Nat.eq_of_beq_eq_true hlen
  split at hy
  case h_2 => cases hy
  rename_i fr1 h1 hassign
  split at hy
  case h_2 => cases hy
  rename_i y1 hg1
  split at hy
  case h_2 => cases hy
  rename_i hstate1
  split at hy
  case h_2 => cases hy
  rename_i o hbody
  split at hy
  case h_2 => cases hy
  rename_i y2 hg2
  obtain ⟨a1, a2, a3⟩ := hsim.code _ _ _ _ _ hassign hlow
  have hf1 := AH.lt_of_get hg1
  obtain ⟨b1, b2, b3⟩ := hsim.code _ _ _ _ _ hbody (by simp; exact Lw.le.mono hlow a1.next)
  have hf2 := AH.lt_of_get hg2
  have hk12 : AKept low h o.h := (a1.trans (.put _ _ hf1 hll)).trans b1
  -- the end, by the way the body is left
  have hend : ∃ (st : LoopState) (pend : Option Code) (bv : Bool), (st = if pend.isNone then .ready else .done) ∧ bv = pend.isNone ∧ v = .bool bv ∧ h' = o.h.put l (.loop { y2 with state := st, pending := pend }) ∧
      ∀ e, ExitRel o.exit e → (match e with | .normal => pend = none | .ret => pend = some .ret | .exit id => pend = some (.exit id) | .goto t => pend = some (.goto t) | _ => False) := by
    split at hy
    · rename_i he; cases hy; exact ⟨_, _, _, rfl, rfl, rfl, rfl, fun e hr => by rw [he] at hr; cases hr; rfl⟩
    · rename_i he; cases hy; exact ⟨_, _, _, rfl, rfl, rfl, rfl, fun e hr => by rw [he] at hr; cases hr; rfl⟩
    · rename_i he; cases hy; exact ⟨_, _, _, rfl, rfl, rfl, rfl, fun e hr => by rw [he] at hr; cases hr; rfl⟩
    · rename_i he; cases hy; exact ⟨_, _, _, rfl, rfl, rfl, rfl, fun e hr => by rw [he] at hr; cases hr; rfl⟩
  obtain ⟨st, pend, bv, hst, hbv, rfl, rfl, hpend⟩ := hend
  refine ⟨hk12.trans (.put _ _ hf2 hll), fun F n μ w cs Lc hF hr hcs hm => ?_⟩
  obtain ⟨_, Pl, q1, q2, q3, q4, q5, q6, q7, Ld, q8, q9, N, n1, n2, n3, n4⟩ := hr.loops _ _ _ _ hm hg
  refine ⟨Pl.fn, (Pl.params.zip ⟨cs⟩).foldl (fun tmps (t, a) => tmps.setIfInBounds t a) Pl.tmps, Pl.assign, Pl.body, ?_, ?_⟩
  · have hsz : (⟨cs⟩ : Array Value).size = Pl.params.size := by rw [q4, ← hlen, hcs.length]; rfl
    simp only [Instr.yield, Sem.run_bind, getLoop_run q1, Result.andThen_ok]
    rw [if_neg (by simpa using hsz)]
    rfl
  · have hfold : ((Pl.params.zip ⟨cs⟩).foldl (fun tmps (t, a) => tmps.setIfInBounds t a) Pl.tmps) = ((y.params.toList.zip cs).foldl (fun (t : Array Value) (p : Tmp × Value) => t.setIfInBounds p.1 p.2) Pl.tmps) := by
      rw [← Array.foldl_toList, q4]
      simp
    obtain ⟨e1, e2⟩ := foldl_env y.params.toList args cs q7 hcs n3 n4
    rw [hfold, q5, q6]
    refine roundIn_of_wpIn (hF.fn _) ?_
    have hA := a3 N (F.inRound Lc.blk) n μ w { tmps := (y.params.toList.zip cs).foldl (fun (t : Array Value) (p : Tmp × Value) => t.setIfInBounds p.1 p.2) Pl.tmps, defers := [] } n1 (hF.inRound _) (.some hm) ⟨hr, e1, .nil⟩ (by simp only; omega)
    refine wpIn_mono hA fun e a' w1 hpost => ?_
    obtain ⟨he, μ1, hs1, ⟨hr1, hen1, hde1⟩, hsz1⟩ := hpost
    cases he
    simp only [Exit.then]
    have hm1 := hs1.sub _ _ _ hm
    obtain ⟨_, P1, p1, p2, p3, p4, p5, p6, p7, L1, p8, p9, p10⟩ := hr1.loops _ _ _ _ hm1 hg1
    have hbegin : (Instr.beginRound Lc.blk).run P w1 = .ok () { w1 with heap := w1.heap.setIfInBounds Lc.blk (.loop { P1 with state := .busy }) } := by
      simp only [Instr.beginRound, Sem.run_bind, getLoop_run p1, Result.andThen_ok, setObj_run (O' := .loop { P1 with state := .busy }) p1 (fun _ _ _ h => by cases h), p2, hstate1, Sem.run_pure]
    refine ⟨_, hbegin, ?_⟩
    have hr2 : Rel μ1 (h1.put l (.loop { y1 with state := .busy })) { w1 with heap := w1.heap.setIfInBounds Lc.blk (.loop { P1 with state := .busy }) } :=
      hr1.putObj hg1 hm1 p1 (fun _ _ _ h => by cases h) (fun _ _ _ h => by cases h) (fun _ _ _ h => by cases h)
        (fun y' hy' => by cases hy'; exact ⟨_, rfl, rfl, p3, p4, p5, p6, p7, L1, p8, p9, p10⟩) (fun _ h => by cases h)
    have hB := b3 N (F.inRound Lc.blk) n μ1 _ a' n2 (hF.inRound _) (by rw [a2]; exact .some hm1) ⟨hr2, hen1, hde1⟩ (by rw [hsz1]; simp only; omega)
    refine wpIn_mono hB fun e a2' w2 hpost => ?_
    obtain ⟨he, μ2, hs2, ⟨hr2', hen2, hde2⟩, hsz2⟩ := hpost
    have hm2 := hs2.sub _ _ _ hm1
    obtain ⟨_, P2, s1, s2, s3, s4, s5, s6, s7, L2, s8, s9, s10⟩ := hr2'.loops _ _ _ _ hm2 hg2
    have hR : KPost low μ w (.bool bv) (o.h.put l (.loop { y2 with state := st, pending := pend })) (.returned (.bool pend.isNone)) { w2 with heap := w2.heap.setIfInBounds Lc.blk (.loop { P2 with state := st, pending := pend }) } := by
      refine ⟨.bool bv, μ2, by rw [hbv], ?_, ?_, .bool _⟩
      · exact ((hs1.trans (Step.putObj hm1 hll _)).trans hs2).trans (Step.putObj hm2 hll _)
      · exact hr2'.putObj hg2 hm2 s1 (fun _ _ _ h => by cases h) (fun _ _ _ h => by cases h) (fun _ _ _ h => by cases h)
          (fun y' hy' => by cases hy'; exact ⟨_, rfl, rfl, rfl, s4, s5, s6, s7, L2, s8, s9, s10⟩) (fun _ h => by cases h)
    have hendr : ∀ jump, pend = jump → (Instr.endRound Lc.blk jump).run P w2 = .ok (.bool pend.isNone) { w2 with heap := w2.heap.setIfInBounds Lc.blk (.loop { P2 with state := st, pending := pend }) } := fun jump hj => by
      subst hj
      rw [hst]
      simp only [Instr.endRound, Sem.run_bind, getLoop_run s1, Result.andThen_ok, setObj_run (O' := .loop { P2 with state := if pend.isNone then .ready else .done, pending := pend }) s1 (fun _ _ _ h => by cases h), Sem.run_pure]
    have hp := hpend e he
    cases e <;> first | exact hp.elim | exact ⟨_, _, hendr _ hp, hR⟩

end Go.AM

