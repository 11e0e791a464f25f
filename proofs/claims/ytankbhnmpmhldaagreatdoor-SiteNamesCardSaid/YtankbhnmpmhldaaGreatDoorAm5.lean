/- An abstract machine for programs of this language, part 5: what it computes is what a call of the program does. Holds: AmQuick2: operations, strict.; AmQuick3: an operation, strict.; AmQuick4: each operation's strict form is the operation.; AmQuick5: regions, code and calls, strict.; AmQuick6: code and calls, strict; the whole machine.; AmRec: panics that a deferred closure takes up: functions that panic, and functions that recover.. -/
import Derived.Test.YtankbhnmpmhldaaGreatDoorAm4
import Derived.RecoverIn

set_option linter.unusedSectionVars false
set_option linter.unusedSimpArgs false
set_option linter.unusedVariables false

namespace Go.AM

inductive FOp where
  | move (x : FO)
  | pick (c a b : FO)
  | load1 (x : FO)
  | loadN (n : Nat) (x : FO)
  | store (n : Nat) (x v : FO)
  | bin (op : BinOp) (t : TypeId) (c : Bool) (x y : FO)
  | idxS (e : Nat) (x i : FO)
  | idxA (e n : Nat) (x i : FO)
  | fAddr (off : Nat) (x : FO)
  | field1 (off : Nat) (x : FO)
  | fieldN (off n : Nat) (x : FO)
  | extract (x : FO) (i : Nat)
  | lenS (x : FO)
  | conv (k : IntKind) (x : FO)
  | call (f : FO) (args : List FO)
  | inv (x : FO) (m : String) (args : List FO)
  | slow (hint : Option FO)
  | gen (a : Ty → Lw → (Operand → Value) → AH → Option ARes) (hint : Option FO)

noncomputable def f_alloc (t : TypeId) (L : Ty) (low : Lw) (ρ : Operand → Value) (h : AH) : Option ARes := (L.zero t).map fun z => .val (.pointer (some ⟨h.next, 0, some z.length⟩)) (h.push (.cells z 0 false))
noncomputable def f_box (x : Operand) (L : Ty) (low : Lw) (ρ : Operand → Value) (h : AH) : Option ARes := let cs := cellsOf (ρ x)
  some (.val (.pointer (some ⟨h.next, 0, some cs.length⟩)) (h.push (.cells cs 0 false)))
noncomputable def f_build (t : TypeId) (ps : Array (Nat × Operand)) (L : Ty) (low : Lw) (ρ : Operand → Value) (h : AH) : Option ARes := match L.zero t, L.und t with
  | some z, some (.struct fs) => bif !(fs.toList.all fun f => (L.size f.type).isSome) then none else (fill (place fs L) z (ps.toList.map fun (i, x) => (i, ρ x))).map fun cs => .val (.agg ⟨cs⟩) h
  | some z, some (.array _ e) => match L.size e with
    | some n => (fill (fun i => some (i * n, n)) z (ps.toList.map fun (i, x) => (i, ρ x))).map fun cs => .val (.agg ⟨cs⟩) h
    | none => none
  | _, _ => none
noncomputable def f_buildSlice (t : TypeId) (n : Nat) (ps : Array (Nat × Operand)) (L : Ty) (low : Lw) (ρ : Operand → Value) (h : AH) : Option ARes := match L.und t with
  | some (.slice e) => match L.size e, L.zero e with
    | some esz, some z => bif Nat.ble (n * esz) (2 ^ 24) && !(Nat.beq esz 0) then
        (fill (fun i => some (i * esz, esz)) (reps z n) (ps.toList.map fun (i, x) => (i, ρ x))).map fun cs =>
          .val (.slice (some ⟨h.next, 0, some cs.length⟩) n n) (h.push (.cells cs 0 false))
      else none
    | _, _ => none
  | _ => none
noncomputable def f_nilCheck (x : Operand) (L : Ty) (low : Lw) (ρ : Operand → Value) (h : AH) : Option ARes := match ρ x with
  | .pointer (some a) => some (.val (.pointer (some a)) h)
  | .iface t v => some (.val (.iface t v) h)
  | .func (.func f) a b => some (.val (.func (.func f) a b) h)
  | _ => none
noncomputable def f_unOp (op : UnOp) (x : Operand) (L : Ty) (low : Lw) (ρ : Operand → Value) (h : AH) : Option ARes := (unV op (ρ x)).map fun v => .val v h
noncomputable def f_convert (s d : TypeId) (x : Operand) (L : Ty) (low : Lw) (ρ : Operand → Value) (h : AH) : Option ARes := convV L h s d (ρ x)
noncomputable def f_makeInterface (t : TypeId) (x : Operand) (L : Ty) (low : Lw) (ρ : Operand → Value) (h : AH) : Option ARes := match L.und t with
  | some (.interface _) => none
  | some _ => some (.val (.iface t (ρ x)) h)
  | none => none
noncomputable def f_makeFunc (f : Fn) (a b : Array Operand) (L : Ty) (low : Lw) (ρ : Operand → Value) (h : AH) : Option ARes := match f with
  | .func g => some (.val (.func (.func g) ⟨a.toList.map ρ⟩ ⟨b.toList.map ρ⟩) h)
  | _ => none
noncomputable def f_makeSlice (t : TypeId) (l c : Operand) (L : Ty) (low : Lw) (ρ : Operand → Value) (h : AH) : Option ARes := match L.und t with
  | some (.slice e) => match L.size e, L.zero e, ρ l, ρ c with
    | some esz, some z, .int .i64 (.ofNat l), .int .i64 (.ofNat c) =>
      bif Nat.ble l c && Nat.ble c (2 ^ 24) && !(Nat.beq esz 0) && Nat.blt esz big then
        some (.val (.slice (some ⟨h.next, 0, some (l * z.length)⟩) l (bif Nat.beq l c then l else l + esz)) (h.push (.cells (reps z l) 0 false)))
      else none
    | _, _, _, _ => none
  | _ => none
noncomputable def f_slice (t : TypeId) (x : Operand) (a b c : Option Operand) (L : Ty) (low : Lw) (ρ : Operand → Value) (h : AH) : Option ARes := (sliceV L t (ρ x) (a.map ρ) (b.map ρ) (c.map ρ)).map fun v => .val v h
noncomputable def f_index (t : TypeId) (x i : Operand) (L : Ty) (low : Lw) (ρ : Operand → Value) (h : AH) : Option ARes := match ρ i with
  | .int _ (.ofNat i) => match L.und t, ρ x with
    | some .string, .string s => match s.data.toList[i]? with
      | some b => some (.val (.int .u8 b.toNat) h)
      | none => none
    | some (.array n e), .agg cs => match L.size e, L.agg e with
      | some esz, some g => bif Nat.blt i n then (mk g ((cs.toList.drop (i * esz)).take (bif g then esz else 1))).map fun v => .val v h else none
      | _, _ => none
    | _, _ => none
  | _ => none
noncomputable def f_typeAssert (x : Operand) (t : TypeId) (ok : Bool) (L : Ty) (low : Lw) (ρ : Operand → Value) (h : AH) : Option ARes := (assertV L (ρ x) t ok).map fun v => .val v h
noncomputable def f_mapUpdate (t : TypeId) (m k v : Operand) (L : Ty) (low : Lw) (ρ : Operand → Value) (h : AH) : Option ARes := match ρ m, ρ k with
  | .map (some r), .int ki n => match L.und t with
    | some (.map kt _) => match L.und kt with
      | some (.int kd) => match h.get r with
        | some (.oth (.map none ck)) => bif low.ok r && decide (kd = ki) then some (.skip (h.put r (.oth (.map (some (.int ki n, ρ v, ck)) (ck + 1))))) else none
        | some (.oth (.map (some (.int kj m, _, b)) ck)) => bif low.ok r && decide (kd = ki) && decide (kd = kj) && (n == m) then
            some (.skip (h.put r (.oth (.map (some (.int ki n, ρ v, b)) ck)))) else none
        | _ => none
      | _ => none
    | _ => none
  | _, _ => none
noncomputable def f_range (t : TypeId) (m : Operand) (L : Ty) (low : Lw) (ρ : Operand → Value) (h : AH) : Option ARes := match ρ m with
  | .map (some r) => match L.und t with
    | some (.map _ _) => match h.get r with
      | some (.oth (.map _ ck)) => some (.val (.chan (some h.next)) (h.push (.oth (.iter r ck ck none))))
      | _ => none
    | _ => none
  | _ => none
noncomputable def f_entry (it : Operand) (L : Ty) (low : Lw) (ρ : Operand → Value) (h : AH) : Option ARes := match ρ it with
  | .chan (some i) => match h.get i with
    | some (.oth (.iter r _ last (some s))) => match h.get r with
      | some (.oth (.map (some (k, v, b)) ck)) => bif Nat.beq s b && Nat.beq ck last then some (.val (.tuple #[k, v]) h) else none
      | _ => none
    | _ => none
  | _ => none
noncomputable def f_builtin (b : Builtin) (ts : Array TypeId) (args : List Operand) (L : Ty) (low : Lw) (ρ : Operand → Value) (h : AH) : Option ARes := builtinV L low h b ts (args.map ρ)

noncomputable def compO (L : Ty) (o : Op) : FOp := match o with
  | .move x => .move (foOf x)
  | .assign x => .move (foOf x)
  | .pick c a b => .pick (foOf c) (foOf a) (foOf b)
  | .load t a => match L.agg t with
    | some true => match L.size t with
      | some (n + 1) => .loadN (n + 1) (foOf a)
      | _ => .slow none
    | some false => .load1 (foOf a)
    | none => .slow none
  | .store t a x => match L.size t with
    | some n => .store n (foOf a) (foOf x)
    | none => .slow none
  | .binOp op t x y _ => .bin op t (isC x || isC y) (foOf x) (foOf y)
  | .indexAddr t x i => match L.und t with
    | some (.slice e) => match L.size e with
      | some esz => .idxS esz (foOf x) (foOf i)
      | none => .slow none
    | some (.array n e) => match L.size e with
      | some esz => .idxA esz n (foOf x) (foOf i)
      | none => .slow none
    | _ => .slow none
  | .fieldAddr t x i => match L.und t with
    | some (.struct fs) => match fs[i]? with
      | some f => match L.size f.type with
        | some (_ + 1) => .fAddr f.offset (foOf x)
        | _ => .slow none
      | none => .slow none
    | _ => .slow none
  | .field t x i => match L.und t with
    | some (.struct fs) => match fs[i]? with
      | some f => match L.size f.type, L.agg f.type with
        | some n, some true => .fieldN f.offset n (foOf x)
        | some _, some false => .field1 f.offset (foOf x)
        | _, _ => .slow none
      | none => .slow none
    | _ => .slow none
  | .extract t i => .extract (foOf t) i
  | .convert s d x => match L.und s, L.und d with
    | some _, some (.int k) => .conv k (foOf x)
    | _, _ => .gen (f_convert s d x) none
  | .call c => match c.callee with
    | .value f => .call (foOf f) (c.args.toList.map foOf)
    | .invoke x m => .inv (foOf x) m (c.args.toList.map foOf)
    | .builtin b => .gen (f_builtin b c.argTypes c.args.toList) ((c.args.toList.map foOf)[0]?)
  | .mapUpdate t m k v => .gen (f_mapUpdate t m k v) (some (foOf m))
  | .next it _ => .slow (some (foOf it))
  | .alloc t => .gen (f_alloc t) none
  | .box _ x => .gen (f_box x) none
  | .build t ps => .gen (f_build t ps) none
  | .buildSlice t n ps => .gen (f_buildSlice t n ps) none
  | .nilCheck x => .gen (f_nilCheck x) none
  | .unOp op _ x => .gen (f_unOp op x) none
  | .makeInterface t x => .gen (f_makeInterface t x) none
  | .makeFunc f a b => .gen (f_makeFunc f a b) none
  | .makeSlice t l c => .gen (f_makeSlice t l c) none
  | .slice t x a b c => .gen (f_slice t x a b c) none
  | .index t x i => .gen (f_index t x i) none
  | .typeAssert x _ t ok => .gen (f_typeAssert x t ok) none
  | .range t m => .gen (f_range t m) none
  | .entry it => .gen (f_entry it) none
  | _ => .slow none

section op
variable {R : Type}

noncomputable def lim (k : IntKind) : Nat := IntKind.rec (motive := fun _ => Nat) 128 32768 2147483648 9223372036854775808 256 65536 4294967296 18446744073709551616 k
noncomputable def kix (k : IntKind) : Nat := IntKind.rec (motive := fun _ => Nat) 0 1 2 3 4 5 6 7 k

theorem kix_eq (k k' : IntKind) : Nat.beq (kix k) (kix k') = decide (k = k') := by cases k <;> cases k' <;> rfl
theorem wrap_lim {k : IntKind} {n : Nat} (h : n < lim k) : wrapK k (Int.ofNat n) = Int.ofNat n := by
  unfold wrapK IntKind.wrap
  cases k <;> simp only [lim] at h <;> simp [IntKind.bits, IntKind.signed] <;> omega

noncomputable def iteN (b : Bool) (x y : R) : R := Bool.rec (motive := fun _ => R) y x b
theorem iteN_eq (b : Bool) (x y : R) : iteN b x y = bif b then x else y := by cases b <;> rfl

/-- a number that is small goes fast -/
noncomputable def smallK (kd : IntKind) (s : Nat) (slow : R) (k : Value → R) : R := iteN (Nat.ble (Nat.succ s) (lim kd)) (fN s fun s => k (.int kd (.ofNat s))) slow
theorem smallK_eq (kd : IntKind) (s : Nat) (slow : R) (k : Value → R) (h : slow = k (.int kd (wrapK kd (Int.ofNat s)))) : smallK kd s slow k = slow := by
  unfold smallK
  rw [iteN_eq, fN_eq]
  cases hb : Nat.ble (Nat.succ s) (lim kd) with
  | false => rfl
  | true =>
    rw [h, wrap_lim (Nat.ble_eq.mp hb)]; rfl

noncomputable def fb_add (k1 : IntKind) (m n : Nat) (same : Bool) (slow : R) (k : Value → R) : R := iteN same (smallK k1 (Nat.add m n) slow k) slow
noncomputable def fb_sub (k1 : IntKind) (m n : Nat) (same : Bool) (slow : R) (k : Value → R) : R := iteN same (iteN (Nat.ble n m) (smallK k1 (Nat.sub m n) slow k) slow) slow
noncomputable def fb_mul (k1 : IntKind) (m n : Nat) (same : Bool) (slow : R) (k : Value → R) : R := iteN same (smallK k1 (Nat.mul m n) slow k) slow
noncomputable def fb_quo (k1 : IntKind) (m n : Nat) (same : Bool) (slow : R) (k : Value → R) : R := iteN same (iteN (Nat.beq n 0) slow (smallK k1 (Nat.div m n) slow k)) slow
noncomputable def fb_rem (k1 : IntKind) (m n : Nat) (same : Bool) (slow : R) (k : Value → R) : R := iteN same (iteN (Nat.beq n 0) slow (fN (Nat.mod m n) fun s => k (.int k1 (.ofNat s)))) slow
noncomputable def fb_and (k1 : IntKind) (m n : Nat) (same : Bool) (slow : R) (k : Value → R) : R := iteN same (iteN (Nat.ble (Nat.succ m) (lim k1)) (iteN (Nat.ble (Nat.succ n) (lim k1)) (fN (Nat.land m n) fun s => k (.int k1 (.ofNat s))) slow) slow) slow
noncomputable def fb_or (k1 : IntKind) (m n : Nat) (same : Bool) (slow : R) (k : Value → R) : R := iteN same (iteN (Nat.ble (Nat.succ m) (lim k1)) (iteN (Nat.ble (Nat.succ n) (lim k1)) (fN (Nat.lor m n) fun s => k (.int k1 (.ofNat s))) slow) slow) slow
noncomputable def fb_xor (k1 : IntKind) (m n : Nat) (same : Bool) (slow : R) (k : Value → R) : R := iteN same (iteN (Nat.ble (Nat.succ m) (lim k1)) (iteN (Nat.ble (Nat.succ n) (lim k1)) (fN (Nat.xor m n) fun s => k (.int k1 (.ofNat s))) slow) slow) slow
noncomputable def fb_shl (k1 : IntKind) (m n : Nat) (same : Bool) (slow : R) (k : Value → R) : R := iteN (Nat.ble n k1.bits) (smallK k1 (Nat.mul m (Nat.pow 2 n)) slow k) slow
noncomputable def fb_shr (k1 : IntKind) (m n : Nat) (same : Bool) (slow : R) (k : Value → R) : R := iteN (Nat.ble n k1.bits) (fN (Nat.div m (Nat.pow 2 n)) fun s => k (.int k1 (.ofNat s))) slow
noncomputable def fb_andNot (k1 : IntKind) (m n : Nat) (same : Bool) (slow : R) (k : Value → R) : R := slow
noncomputable def fb_eql (k1 : IntKind) (m n : Nat) (same : Bool) (slow : R) (k : Value → R) : R := iteN same (fB (Nat.beq m n) fun b => k (.bool b)) slow
noncomputable def fb_neq (k1 : IntKind) (m n : Nat) (same : Bool) (slow : R) (k : Value → R) : R := iteN same (fB (Nat.beq m n) fun b => k (.bool (Bool.rec (motive := fun _ => Bool) true false b))) slow
noncomputable def fb_lss (k1 : IntKind) (m n : Nat) (same : Bool) (slow : R) (k : Value → R) : R := iteN same (fB (Nat.ble (Nat.succ m) n) fun b => k (.bool b)) slow
noncomputable def fb_leq (k1 : IntKind) (m n : Nat) (same : Bool) (slow : R) (k : Value → R) : R := iteN same (fB (Nat.ble m n) fun b => k (.bool b)) slow
noncomputable def fb_gtr (k1 : IntKind) (m n : Nat) (same : Bool) (slow : R) (k : Value → R) : R := iteN same (fB (Nat.ble (Nat.succ n) m) fun b => k (.bool b)) slow
noncomputable def fb_geq (k1 : IntKind) (m n : Nat) (same : Bool) (slow : R) (k : Value → R) : R := iteN same (fB (Nat.ble n m) fun b => k (.bool b)) slow
noncomputable def fastBin (op : BinOp) (k1 : IntKind) (m n : Nat) (same : Bool) (slow : R) (k : Value → R) : R :=
  BinOp.rec (motive := fun _ => IntKind → Nat → Nat → Bool → R → (Value → R) → R) fb_add fb_sub fb_mul fb_quo fb_rem fb_and fb_or fb_xor fb_shl fb_shr fb_andNot fb_eql fb_neq fb_lss fb_leq fb_gtr fb_geq op k1 m n same slow k

noncomputable def slowBin (L : Ty) (op : BinOp) (t : TypeId) (x y : Value) (k : Value → R) (d : R) : R :=
  Option.rec (motive := fun _ => R) d (fun v => fV v k) (binV L op t x y)

theorem slowBin_eq (L : Ty) (op : BinOp) (t : TypeId) (x y : Value) (k : Value → R) (d : R) : slowBin L op t x y k d = (binV L op t x y).elim d k := by
  unfold slowBin
  cases binV L op t x y with
  | none => rfl
  | some v => exact fV_eq _ _

theorem lim_le (k : IntKind) : lim k ≤ 2 ^ k.bits := by cases k <;> simp [lim, IntKind.bits]

theorem ofInt_toNat {k : IntKind} {m : Nat} (h : m < lim k) : (BitVec.ofInt k.bits (Int.ofNat m)).toNat = m := by
  rw [BitVec.toNat_ofInt]
  have := lim_le k
  have h1 : (Int.ofNat m) % ((2 ^ k.bits : Nat) : Int) = Int.ofNat m := Int.emod_eq_of_lt (Int.natCast_nonneg m) (by show ((m : Nat) : Int) < _; omega)
  rw [h1]; rfl

theorem fastBin_eq (L : Ty) (op : BinOp) (t : TypeId) (k1 k2 : IntKind) (m n : Nat) (k : Value → R) (d : R) :
    fastBin op k1 m n (Nat.beq (kix k1) (kix k2)) (slowBin L op t (.int k1 (.ofNat m)) (.int k2 (.ofNat n)) k d) k = slowBin L op t (.int k1 (.ofNat m)) (.int k2 (.ofNat n)) k d := by
  rw [kix_eq]
  generalize hs : slowBin L op t (.int k1 (.ofNat m)) (.int k2 (.ofNat n)) k d = s
  rw [slowBin_eq] at hs
  by_cases he : k1 = k2
  case neg =>
    cases op
    case shl =>
      show iteN (Nat.ble n k1.bits) (smallK k1 (m * 2 ^ n) s k) s = s
      rw [iteN_eq]
      cases hb : Nat.ble n k1.bits with
      | false => rfl
      | true =>
        refine smallK_eq _ _ _ _ ?_
        rw [← hs]
        simp only [binV, Nat.min_eq_left (Nat.ble_eq.mp hb), Option.elim_some]
        simp
    case shr =>
      show iteN (Nat.ble n k1.bits) (fN (m / 2 ^ n) fun s => k (.int k1 (.ofNat s))) s = s
      rw [iteN_eq, fN_eq]
      cases hb : Nat.ble n k1.bits with
      | false => rfl
      | true =>
        rw [← hs]
        simp only [binV, Nat.min_eq_left (Nat.ble_eq.mp hb), Option.elim_some, cond_true]
        have : (Int.ofNat m).fdiv (2 ^ n) = Int.ofNat (m / 2 ^ n) := by
          rw [show ((2 : Int) ^ n) = ((2 ^ n : Nat) : Int) from by simp, Int.fdiv_eq_ediv_of_nonneg _ (Int.natCast_nonneg _)]; rfl
        rw [this]
    all_goals (rw [show decide (k1 = k2) = false from by simp [he]]; rfl)
  subst he
  rw [show decide (k1 = k1) = true from by simp]
  cases op
  case add =>
    show smallK k1 (m + n) s k = s
    refine smallK_eq _ _ _ _ ?_
    rw [← hs]; simp [binV]
  case sub =>
    show iteN (Nat.ble n m) (smallK k1 (m - n) s k) s = s
    rw [iteN_eq]
    cases hb : Nat.ble n m with
    | false => rfl
    | true =>
      have := Nat.ble_eq.mp hb
      refine smallK_eq _ _ _ _ ?_
      rw [← hs]; simp only [binV, if_pos, Option.elim_some]
      rw [show (Int.ofNat m - Int.ofNat n) = Int.ofNat (m - n) from (Int.ofNat_sub this).symm]
  case mul =>
    show smallK k1 (m * n) s k = s
    refine smallK_eq _ _ _ _ ?_
    rw [← hs]; simp [binV]
  case quo =>
    show iteN (Nat.beq n 0) s (smallK k1 (m / n) s k) = s
    rw [iteN_eq]
    cases hb : Nat.beq n 0 with
    | true => rfl
    | false =>
      have hn : n ≠ 0 := fun e => by subst e; cases hb
      refine smallK_eq _ _ _ _ ?_
      rw [← hs]; simp only [binV, if_pos]
      rw [if_neg (by simpa using hn)]
      rfl
  case rem =>
    show iteN (Nat.beq n 0) s (fN (m % n) fun s => k (.int k1 (.ofNat s))) = s
    rw [iteN_eq, fN_eq]
    cases hb : Nat.beq n 0 with
    | true => rfl
    | false =>
      have hn : n ≠ 0 := fun e => by subst e; cases hb
      rw [← hs]; simp only [binV, if_pos, cond_false]
      rw [if_neg (by simpa using hn)]
      rfl
  case and =>
    show iteN _ (iteN _ (fN (Nat.land m n) fun s => k (.int k1 (.ofNat s))) s) s = s
    rw [iteN_eq, iteN_eq, fN_eq]
    cases hb : Nat.ble (Nat.succ m) (lim k1) with
    | false => rfl
    | true =>
      cases hb' : Nat.ble (Nat.succ n) (lim k1) with
      | false => rfl
      | true =>
        have h1 := Nat.ble_eq.mp hb
        have h2 := Nat.ble_eq.mp hb'
        rw [← hs]; simp only [binV, if_pos, cond_true, Option.elim_some, BitVec.toNat_and, ofInt_toNat h1, ofInt_toNat h2]
        have : m &&& n < lim k1 := Nat.lt_of_le_of_lt Nat.and_le_left h1
        rw [show ((m &&& n : Nat) : Int) = Int.ofNat (m &&& n) from rfl, wrap_lim this]; rfl
  case or =>
    show iteN _ (iteN _ (fN (Nat.lor m n) fun s => k (.int k1 (.ofNat s))) s) s = s
    rw [iteN_eq, iteN_eq, fN_eq]
    cases hb : Nat.ble (Nat.succ m) (lim k1) with
    | false => rfl
    | true =>
      cases hb' : Nat.ble (Nat.succ n) (lim k1) with
      | false => rfl
      | true =>
        have h1 := Nat.ble_eq.mp hb
        have h2 := Nat.ble_eq.mp hb'
        rw [← hs]; simp only [binV, if_pos, cond_true, Option.elim_some, BitVec.toNat_or, ofInt_toNat h1, ofInt_toNat h2]
        have : m ||| n < lim k1 := by
          obtain ⟨b, hb⟩ : ∃ b, lim k1 = 2 ^ b := by cases k1 <;> first | exact ⟨7, rfl⟩ | exact ⟨15, rfl⟩ | exact ⟨31, rfl⟩ | exact ⟨63, rfl⟩ | exact ⟨8, rfl⟩ | exact ⟨16, rfl⟩ | exact ⟨32, rfl⟩ | exact ⟨64, rfl⟩
          rw [hb] at h1 h2 ⊢; exact Nat.or_lt_two_pow h1 h2
        rw [show ((m ||| n : Nat) : Int) = Int.ofNat (m ||| n) from rfl, wrap_lim this]; rfl
  case xor =>
    show iteN _ (iteN _ (fN (Nat.xor m n) fun s => k (.int k1 (.ofNat s))) s) s = s
    rw [iteN_eq, iteN_eq, fN_eq]
    cases hb : Nat.ble (Nat.succ m) (lim k1) with
    | false => rfl
    | true =>
      cases hb' : Nat.ble (Nat.succ n) (lim k1) with
      | false => rfl
      | true =>
        have h1 := Nat.ble_eq.mp hb
        have h2 := Nat.ble_eq.mp hb'
        rw [← hs]; simp only [binV, if_pos, cond_true, Option.elim_some, BitVec.toNat_xor, ofInt_toNat h1, ofInt_toNat h2]
        have : m ^^^ n < lim k1 := by
          obtain ⟨b, hb⟩ : ∃ b, lim k1 = 2 ^ b := by cases k1 <;> first | exact ⟨7, rfl⟩ | exact ⟨15, rfl⟩ | exact ⟨31, rfl⟩ | exact ⟨63, rfl⟩ | exact ⟨8, rfl⟩ | exact ⟨16, rfl⟩ | exact ⟨32, rfl⟩ | exact ⟨64, rfl⟩
          rw [hb] at h1 h2 ⊢; exact Nat.xor_lt_two_pow h1 h2
        rw [show ((m ^^^ n : Nat) : Int) = Int.ofNat (m ^^^ n) from rfl, wrap_lim this]; rfl
  case shl =>
    show iteN (Nat.ble n k1.bits) (smallK k1 (m * 2 ^ n) s k) s = s
    rw [iteN_eq]
    cases hb : Nat.ble n k1.bits with
    | false => rfl
    | true =>
      refine smallK_eq _ _ _ _ ?_
      rw [← hs]
      simp only [binV, Nat.min_eq_left (Nat.ble_eq.mp hb), Option.elim_some]
      simp
  case shr =>
    show iteN (Nat.ble n k1.bits) (fN (m / 2 ^ n) fun s => k (.int k1 (.ofNat s))) s = s
    rw [iteN_eq, fN_eq]
    cases hb : Nat.ble n k1.bits with
    | false => rfl
    | true =>
      rw [← hs]
      simp only [binV, Nat.min_eq_left (Nat.ble_eq.mp hb), Option.elim_some, cond_true]
      have : (Int.ofNat m).fdiv (2 ^ n) = Int.ofNat (m / 2 ^ n) := by
        rw [show ((2 : Int) ^ n) = ((2 ^ n : Nat) : Int) from by simp, Int.fdiv_eq_ediv_of_nonneg _ (Int.natCast_nonneg _)]; rfl
      rw [this]
  case andNot => rfl
  case eql =>
    show fB (Nat.beq m n) (fun b => k (.bool b)) = s
    rw [fB_eq, ← hs]
    simp only [binV, if_pos, Option.elim_some]
    congr 2
    rw [Bool.eq_iff_iff]; simp [Nat.beq_eq]; omega
  case neq =>
    show fB (Nat.beq m n) (fun b => k (.bool (Bool.rec (motive := fun _ => Bool) true false b))) = s
    rw [fB_eq, ← hs]
    simp only [binV, if_pos, Option.elim_some]
    congr 2
    cases hb : Nat.beq m n with
    | false => have : m ≠ n := fun e => by subst e; simp at hb
               simp [bne]; omega
    | true => have := Nat.eq_of_beq_eq_true hb
              subst this; simp [bne]
  case lss =>
    show fB (Nat.ble (m + 1) n) (fun b => k (.bool b)) = s
    rw [fB_eq, ← hs]
    simp only [binV, if_pos, Option.elim_some]
    congr 2
    rw [Bool.eq_iff_iff, Nat.ble_eq]; simp; omega
  case leq =>
    show fB (Nat.ble m n) (fun b => k (.bool b)) = s
    rw [fB_eq, ← hs]
    simp only [binV, if_pos, Option.elim_some]
    congr 2
    rw [Bool.eq_iff_iff, Nat.ble_eq]; simp
  case gtr =>
    show fB (Nat.ble (n + 1) m) (fun b => k (.bool b)) = s
    rw [fB_eq, ← hs]
    simp only [binV, if_pos, Option.elim_some]
    congr 2
    rw [Bool.eq_iff_iff, Nat.ble_eq]; simp; omega
  case geq =>
    show fB (Nat.ble n m) (fun b => k (.bool b)) = s
    rw [fB_eq, ← hs]
    simp only [binV, if_pos, Option.elim_some]
    congr 2
    rw [Bool.eq_iff_iff, Nat.ble_eq]; simp

noncomputable def nilP (c : Bool) (a b : Value) : Bool := match a with
  | .nilIface => match b with
    | .nilIface => c
    | _ => true
  | _ => true

noncomputable def ib_o (n : Nat) (i : IntKind) (k : IntKind → Nat → R) (_ : R) : R := k i n
noncomputable def ib_n (_ : Nat) (_ : IntKind) (_ : IntKind → Nat → R) (d : R) : R := d
noncomputable def ib_y (i : IntKind) (n : Int) (k : IntKind → Nat → R) (d : R) : R := Int.rec (motive := fun _ => IntKind → (IntKind → Nat → R) → R → R) ib_o ib_n n i k d
noncomputable def ib_d (_ : IntKind → Nat → R) (d : R) : R := d
noncomputable def ib (v : Value) (k : IntKind → Nat → R) (d : R) : R := Value.casesOn (motive_1 := fun _ => (IntKind → Nat → R) → R → R) v (fun _ => ib_d) ib_y (fun _ _ => ib_d) (fun _ _ _ => ib_d) (fun _ => ib_d) (fun _ => ib_d) (fun _ _ _ => ib_d) (fun _ => ib_d) (fun _ => ib_d) (fun _ _ _ => ib_d) ib_d (fun _ _ => ib_d) ib_d (fun _ => ib_d) (fun _ => ib_d) k d
noncomputable def bk_2 (L : Ty) (op : BinOp) (t : TypeId) (k1 : IntKind) (m : Nat) (k : Value → R) (d : R) (k2 : IntKind) (n : Nat) : R :=
  fastBin op k1 m n (Nat.beq (kix k1) (kix k2)) (slowBin L op t (.int k1 (.ofNat m)) (.int k2 (.ofNat n)) k d) k
noncomputable def bk_1 (L : Ty) (op : BinOp) (t : TypeId) (c : Bool) (x y : Value) (k : Value → R) (d : R) (k1 : IntKind) (m : Nat) : R :=
  ib y (bk_2 L op t k1 m k d) (iteN (nilP c x y) (slowBin L op t x y k d) d)
noncomputable def binK (L : Ty) (op : BinOp) (t : TypeId) (c : Bool) (x y : Value) (k : Value → R) (d : R) : R :=
  ib x (bk_1 L op t c x y k d) (iteN (nilP c x y) (slowBin L op t x y k d) d)

theorem binK_eq (L : Ty) (op : BinOp) (t : TypeId) (a b : Operand) (x y : Value) (k : Value → R) (d : R) :
    binK L op t (isC a || isC b) x y k d = bif nilPair a b x y then (binV L op t x y).elim d k else d := by
  have hn : nilP (isC a || isC b) x y = nilPair a b x y := by
    unfold nilP nilPair; rfl
  have slow : iteN (nilP (isC a || isC b) x y) (slowBin L op t x y k d) d = bif nilPair a b x y then (binV L op t x y).elim d k else d := by
    rw [iteN_eq, slowBin_eq, hn]
  have fast : ∀ k1 m k2 n, x = .int k1 (.ofNat m) → y = .int k2 (.ofNat n) → bk_2 L op t k1 m k d k2 n = bif nilPair a b x y then (binV L op t x y).elim d k else d := fun k1 m k2 n e1 e2 => by
    unfold bk_2
    rw [fastBin_eq, slowBin_eq, e1, e2]; rfl
  unfold binK
  cases x
  case int k1 z =>
    cases z with
    | negSucc m => exact slow
    | ofNat m =>
      show ib y (bk_2 L op t k1 m k d) _ = _
      cases y
      case int k2 z2 =>
        cases z2 with
        | negSucc n => exact slow
        | ofNat n => exact fast k1 m k2 n rfl rfl
      all_goals exact slow
  all_goals exact slow

/-! memory -/
noncomputable def wK_n (_ : Nat) (_ : Lw) (_ : List Value) (_ _ : Nat) (_ : Tr AObj) (_ : Value) (_ : Tr AObj → R) (d : R) : R := d
noncomputable def wK_k (b e : Nat) (tr : Tr AObj) (k : Tr AObj → R) (cs : List Value) : R := sP (pth b) tr (.cells cs e false) k
noncomputable def wK_s (e : Nat) (b : Nat) (low : Lw) (cs : List Value) (m off : Nat) (tr : Tr AObj) (v : Value) (k : Tr AObj → R) (d : R) : R :=
  iteN (low.ok b) (iteN (Nat.beq e cs.length) (iteN (Nat.ble m e) (iteN (Nat.ble (Nat.succ off) e) (setK cs off v (wK_k b e tr k)) d) d) d) d
noncomputable def wK_c (cs : List Value) (m : Nat) (ro : Bool) (b off : Nat) (s : Option Nat) (low : Lw) (tr : Tr AObj) (v : Value) (k : Tr AObj → R) (d : R) : R :=
  iteN ro d (Option.rec (motive := fun _ => Nat → Lw → List Value → Nat → Nat → Tr AObj → Value → (Tr AObj → R) → R → R) wK_n wK_s s b low cs m off tr v k d)
noncomputable def wK_x (_ _ : Nat) (_ : Option Nat) (_ : Lw) (_ : Tr AObj) (_ : Value) (_ : Tr AObj → R) (d : R) : R := d
noncomputable def wK_o (b off : Nat) (s : Option Nat) (low : Lw) (tr : Tr AObj) (v : Value) (k : Tr AObj → R) (d : R) (o : AObj) : R :=
  AObj.rec (motive := fun _ => Nat → Nat → Option Nat → Lw → Tr AObj → Value → (Tr AObj → R) → R → R) wK_c (fun _ => wK_x) (fun _ => wK_x) o b off s low tr v k d
noncomputable def wK_a (b off : Nat) (s : Option Nat) (low : Lw) (tr : Tr AObj) (next : Nat) (v : Value) (k : Tr AObj → R) (d : R) : R :=
  iteN (Nat.ble next b) d (gP d (pth b) tr (wK_o b off s low tr v k d))
/-- write one cell -/
noncomputable def wr1K (low : Lw) (tr : Tr AObj) (next : Nat) (a : Addr) (v : Value) (k : Tr AObj → R) (d : R) : R :=
  Addr.rec (motive := fun _ => Lw → Tr AObj → Nat → Value → (Tr AObj → R) → R → R) wK_a a low tr next v k d

theorem splice_one (cs : List Value) (off : Nat) (v : Value) (h : off < cs.length) : splice cs off [v] = cs.set off v := by
  unfold splice
  rw [List.set_eq_take_append_cons_drop, if_pos h]
  simp

theorem wr1K_eq (low : Lw) (tr : Tr AObj) (next : Nat) (a : Addr) (v : Value) (k : Tr AObj → R) (d : R) (h1 : one1 v = true) :
    wr1K low tr next a v k d = (wr low ⟨next, tr⟩ a [v]).elim d fun h => k h.tr := by
  obtain ⟨b, off, s⟩ := a
  show iteN (Nat.ble next b) d (gP d (pthF b b) tr (wK_o b off s low tr v k d)) = _
  rw [iteN_eq, gP_eq _ _ b b tr (Nat.le_refl _)]
  unfold wr AH.get
  simp only
  cases Nat.ble next b with
  | true => rfl
  | false =>
    simp only [cond_false]
    cases tr.get b with
    | none => rfl
    | some o =>
      cases o with
      | loop y => rfl
      | oth b => rfl
      | cells cs m ro =>
        cases ro with
        | true => rfl
        | false =>
          cases s with
          | none => rfl
          | some e =>
            simp only [Option.elim_some]
            show iteN (low.ok b) (iteN (Nat.beq e cs.length) (iteN (Nat.ble m e) (iteN (Nat.ble (off + 1) e) (setK cs off v (fun cs => sP (pthF b b) tr (.cells cs e false) k)) d) d) d) d = _
            simp only [iteN_eq, List.length_singleton, List.all_cons, h1, List.all_nil, Bool.and_true]
            cases low.ok b with
            | false => rfl
            | true =>
              cases he : Nat.beq e cs.length with
              | false => rfl
              | true =>
                cases Nat.ble m e with
                | false => rfl
                | true =>
                  cases ho : Nat.ble (off + 1) e with
                  | false => rfl
                  | true =>
                    have e1 := Nat.eq_of_beq_eq_true he
                    have e2 := Nat.ble_eq.mp ho
                    simp only [cond_true, Bool.and_self, Option.elim_some]
                    rw [setK_eq, sP_eq _ b b tr _ (Nat.le_refl _), splice_one _ _ _ (by omega)]
                    rfl

/-- what an operation left, forced along the paths where it may have turned the heap -/
noncomputable def outK (next : Nat) (hint : Option Nat) (h : AH) (k : Tr AObj → Nat → R) : R :=
  AH.rec (motive := fun _ => R) (fun nx tr => fN nx fun nx =>
    iteN (Nat.beq nx next)
      (Option.rec (motive := fun _ => R) (k tr nx) (fun b => fP fObj (pth b) tr fun tr => k tr nx) hint)
      (fP fObj (pth next) tr fun tr => Option.rec (motive := fun _ => R) (k tr nx) (fun b => fP fObj (pth b) tr fun tr => k tr nx) hint)) h
theorem outK_eq (next : Nat) (hint : Option Nat) (h : AH) (k : Tr AObj → Nat → R) : outK next hint h k = k h.tr h.next := by
  obtain ⟨nx, tr⟩ := h
  unfold outK
  dsimp only
  rw [fN_eq, iteN_eq, fP_eq fObj_eq]
  cases hint with
  | none => cases Nat.beq nx next <;> rfl
  | some b =>
    dsimp only
    rw [fP_eq fObj_eq]
    cases Nat.beq nx next <;> rfl

noncomputable def storeK (low : Lw) (tr : Tr AObj) (next : Nat) (n : Nat) (a : Addr) (v : Value) (k : Tr AObj → R) (d : R) : R :=
  match v with
  | .agg cs => iteN (Nat.beq cs.toList.length n) (Option.rec (motive := fun _ => R) d (fun h => outK next (some a.block) h fun tr _ => k tr) (wr low ⟨next, tr⟩ a cs.toList)) d
  | .tuple _ => d
  | v => iteN (Nat.beq 1 n) (wr1K low tr next a v k d) d

theorem storeK_eq (low : Lw) (tr : Tr AObj) (next : Nat) (n : Nat) (a : Addr) (v : Value) (k : Tr AObj → R) (d : R) :
    storeK low tr next n a v k d = bif Nat.beq (cellsOf v).length n then (wr low ⟨next, tr⟩ a (cellsOf v)).elim d fun h => k h.tr else d := by
  unfold storeK
  split
  · rename_i cs
    show iteN (Nat.beq cs.toList.length n) _ d = bif Nat.beq cs.toList.length n then _ else d
    rw [iteN_eq]
    cases Nat.beq cs.toList.length n with
    | false => rfl
    | true =>
      simp only [cond_true]
      show Option.rec (motive := fun _ => R) d _ (wr low ⟨next, tr⟩ a cs.toList) = (wr low ⟨next, tr⟩ a cs.toList).elim d _
      cases wr low ⟨next, tr⟩ a cs.toList with
      | none => rfl
      | some h => exact outK_eq _ _ _ _
  · rename_i cs
    have : wr low ⟨next, tr⟩ a [Value.tuple cs] = none := by
      unfold wr
      simp only
      split
      · simp [one1]
      · rfl
    show d = bif Nat.beq 1 n then (wr low ⟨next, tr⟩ a [Value.tuple cs]).elim d _ else d
    rw [this]; cases Nat.beq 1 n <;> rfl
  · rename_i h1 h2
    have hc : cellsOf v = [v] := by cases v <;> first | rfl | exact (h1 _ rfl).elim
    have ho : one1 v = true := by cases v <;> first | rfl | exact (h1 _ rfl).elim | exact (h2 _ rfl).elim
    rw [hc, iteN_eq, wr1K_eq _ _ _ _ _ _ _ ho]; rfl

end op
end Go.AM

namespace Go.AM

section op
variable {R : Type}

noncomputable def addK (a : Addr) (n : Nat) (k : Addr → R) : R := Addr.rec (motive := fun _ => R) (fun b o s => fN (Nat.add o n) fun o => k ⟨b, o, s⟩) a
theorem addK_eq (a : Addr) (n : Nat) (k : Addr → R) : addK a n k = k (addrAdd a n) := by obtain ⟨b, o, s⟩ := a; unfold addK; exact fN_eq _ _

noncomputable def convK (kd : IntKind) (x : Value) (k : Value → R) (d : R) : R := match x with
  | .int _ (.ofNat m) => smallK kd m (fI (wrapK kd (.ofNat m)) fun n => k (.int kd n)) k
  | .int _ (.negSucc m) => fI (wrapK kd (.negSucc m)) fun n => k (.int kd n)
  | _ => d

abbrev KO (R : Type) := Value → Tr AObj → Nat → List ADef → R

noncomputable def x_move (env : Tr Value) (tr : Tr AObj) (next : Nat) (k : KO R) (x : FO) : R := ev env x fun v => k v tr next []
noncomputable def x_pick (env : Tr Value) (tr : Tr AObj) (next : Nat) (k : KO R) (d : R) (c a b : FO) : R :=
  ev env c fun c => boolK c (ev env a fun v => k v tr next []) (ev env b fun v => k v tr next []) d
noncomputable def x_load1 (env : Tr Value) (tr : Tr AObj) (next : Nat) (k : KO R) (d : R) (x : FO) : R :=
  ev env x fun p => ptrK p (fun a => load1K tr next a (fun v => k v tr next []) d) d
noncomputable def x_loadN (env : Tr Value) (tr : Tr AObj) (next : Nat) (k : KO R) (d : R) (n : Nat) (x : FO) : R :=
  ev env x fun p => ptrK p (fun a => loadNK tr next a n (fun l => k (.agg ⟨l⟩) tr next []) d) d
noncomputable def x_store (low : Lw) (env : Tr Value) (tr : Tr AObj) (next : Nat) (k : KO R) (d : R) (n : Nat) (x v : FO) : R :=
  ev env x fun p => ptrK p (fun a => ev env v fun v => storeK low tr next n a v (fun tr => k undef tr next []) d) d
noncomputable def x_bin (L : Ty) (env : Tr Value) (tr : Tr AObj) (next : Nat) (k : KO R) (d : R) (op : BinOp) (t : TypeId) (c : Bool) (x y : FO) : R :=
  ev env x fun x => ev env y fun y => binK L op t c x y (fun v => k v tr next []) d
noncomputable def x_idxS (env : Tr Value) (tr : Tr AObj) (next : Nat) (k : KO R) (d : R) (e : Nat) (x i : FO) : R :=
  ev env i fun i => natK i (fun i => ev env x fun x => slcK x (fun a n _ => Option.rec (motive := fun _ => R) d (fun a => iteN (Nat.ble (Nat.succ i) n) (addK a (Nat.mul i e) fun a => k (.pointer (some a)) tr next []) d) a) d) d
noncomputable def x_idxA (env : Tr Value) (tr : Tr AObj) (next : Nat) (k : KO R) (d : R) (e n : Nat) (x i : FO) : R :=
  ev env i fun i => natK i (fun i => ev env x fun x => ptrK x (fun a => iteN (Nat.ble (Nat.succ i) n) (addK a (Nat.mul i e) fun a => k (.pointer (some a)) tr next []) d) d) d
noncomputable def x_fAddr (env : Tr Value) (tr : Tr AObj) (next : Nat) (k : KO R) (d : R) (off : Nat) (x : FO) : R :=
  ev env x fun x => ptrK x (fun a => addK a off fun a => k (.pointer (some a)) tr next []) d
noncomputable def x_field1 (env : Tr Value) (tr : Tr AObj) (next : Nat) (k : KO R) (d : R) (off : Nat) (x : FO) : R :=
  ev env x fun x => aggK x (fun l => nthK d l off fun v => k v tr next []) d
noncomputable def x_fieldN (env : Tr Value) (tr : Tr AObj) (next : Nat) (k : KO R) (d : R) (off n : Nat) (x : FO) : R :=
  ev env x fun x => aggK x (fun l => dropK l off fun l => takeK l n fun l => k (.agg ⟨l⟩) tr next []) d
noncomputable def x_extract (env : Tr Value) (tr : Tr AObj) (next : Nat) (k : KO R) (d : R) (x : FO) (i : Nat) : R :=
  ev env x fun x => tupK x (fun l => nthK d l i fun v => k v tr next []) d
noncomputable def x_lenS (env : Tr Value) (tr : Tr AObj) (next : Nat) (k : KO R) (d : R) (x : FO) : R :=
  ev env x fun x => slcK x (fun _ n _ => k (.int .i64 (.ofNat n)) tr next []) d
noncomputable def x_conv (env : Tr Value) (tr : Tr AObj) (next : Nat) (k : KO R) (d : R) (kd : IntKind) (x : FO) : R :=
  ev env x fun x => convK kd x (fun v => k v tr next []) d

/-- what a call gave -/
noncomputable def gotK (x : Option (Value × AH)) (k : KO R) (d : R) : R :=
  Option.rec (motive := fun _ => R) d (fun x => Prod.rec (motive := fun _ => R) (fun v h => AH.rec (motive := fun _ => R) (fun next tr => k v tr next []) h) x) x
theorem gotK_eq (x : Option (Value × AH)) (k : KO R) (d : R) : gotK x k d = x.elim d fun x => k x.1 x.2.tr x.2.next [] := by
  cases x <;> rfl

/-! a yield, strict -/
noncomputable def loopK (next : Nat) (tr : Tr AObj) (l : Nat) (k : ALoop → R) (d : R) : R :=
  iteN (Nat.ble next l) d (gP d (pth l) tr fun o => AObj.rec (motive := fun _ => R) (fun _ _ _ => d) k (fun _ => d) o)
theorem loopK_eq (next : Nat) (tr : Tr AObj) (l : Nat) (k : ALoop → R) (d : R) : loopK next tr l k d = match (AH.mk next tr).get l with | some (.loop y) => k y | _ => d := by
  unfold loopK AH.get
  rw [iteN_eq]
  simp only
  cases Nat.ble next l with
  | true => rfl
  | false =>
    simp only [cond_false]
    show gP d (pthF l l) tr _ = _
    rw [gP_eq _ _ l l tr (Nat.le_refl _)]
    cases tr.get l with
    | none => rfl
    | some o => cases o <;> rfl

noncomputable def putLK (tr : Tr AObj) (l : Nat) (y : ALoop) (st : LoopState) (k : Tr AObj → R) : R :=
  ALoop.rec (motive := fun _ => R) (fun env ps as body _ pend dfr => sP (pth l) tr (.loop ⟨env, ps, as, body, st, pend, dfr⟩) k) y
theorem putLK_eq (tr : Tr AObj) (l : Nat) (y : ALoop) (st : LoopState) (k : Tr AObj → R) : putLK tr l y st k = k (tr.set l (.loop { y with state := st })) := by
  obtain ⟨env, ps, as, body, st', pend, dfr⟩ := y
  exact sP_eq _ l l tr k (Nat.le_refl _)
noncomputable def putLPK (tr : Tr AObj) (l : Nat) (y : ALoop) (st : LoopState) (pe : Option Code) (k : Tr AObj → R) : R :=
  ALoop.rec (motive := fun _ => R) (fun env ps as body _ _ dfr => sP (pth l) tr (.loop ⟨env, ps, as, body, st, pe, dfr⟩) k) y
theorem putLPK_eq (tr : Tr AObj) (l : Nat) (y : ALoop) (st : LoopState) (pe : Option Code) (k : Tr AObj → R) : putLPK tr l y st pe k = k (tr.set l (.loop { y with state := st, pending := pe })) := by
  obtain ⟨env, ps, as, body, st', pend, dfr⟩ := y
  exact sP_eq _ l l tr k (Nat.le_refl _)

noncomputable def setsK (ps : List Tmp) : List Value → Tr Value → (Tr Value → R) → R :=
  List.rec (motive := fun _ => List Value → Tr Value → (Tr Value → R) → R) (fun _ e k => k e)
    (fun p _ ih vs e k => List.rec (motive := fun _ => R) (k e) (fun v vs _ => sP (pth p) e v fun e => ih vs e k) vs) ps
theorem setsK_eq : ∀ (ps : List Tmp) (vs : List Value) (e : Tr Value) (k : Tr Value → R), setsK ps vs e k = k ((ps.zip vs).foldl (fun e p => e.set p.1 p.2) (Env.mk e)).tr
  | [], vs, e, k => rfl
  | p :: ps, [], e, k => rfl
  | p :: ps, v :: vs, e, k => by
    show sP (pthF p p) e v (fun e => setsK ps vs e k) = _
    rw [sP_eq _ p p e _ (Nat.le_refl _), setsK_eq ps vs]; rfl

noncomputable def yieldFF (r : Rec) (low : Lw) (l : Nat) (args : List Value) (next : Nat) (tr : Tr AObj) : Option (Value × AH) :=
  loopK next tr l (fun y => match y.state with
    | .ready => iteN (low.ok l) (iteN (Nat.beq args.length y.params.size)
        (setsK y.params.toList args y.env.tr fun e => match r.code low y.assign ⟨⟨e⟩, [], some l⟩ ⟨next, tr⟩ with
          | some ⟨.normal, fr, ⟨n1, t1⟩⟩ => loopK n1 t1 l (fun y1 => match y1.state with
              | .ready => putLK t1 l y1 .busy fun t1 => match r.code low y.body fr ⟨n1, t1⟩ with
                | some ⟨e, _, ⟨n2, t2⟩⟩ => loopK n2 t2 l (fun y2 => match e with
                    | .normal => putLPK t2 l y2 .ready none fun t => some (.bool true, ⟨n2, t⟩)
                    | .ret => putLPK t2 l y2 .done (some .ret) fun t => some (.bool false, ⟨n2, t⟩)
                    | .exit id => putLPK t2 l y2 .done (some (.exit id)) fun t => some (.bool false, ⟨n2, t⟩)
                    | .goto g => putLPK t2 l y2 .done (some (.goto g)) fun t => some (.bool false, ⟨n2, t⟩)) none
                | none => none
              | _ => none) none
          | _ => none) none) none
    | _ => none) none

theorem yieldFF_eq (r : Rec) (low : Lw) (l : Nat) (args : List Value) (next : Nat) (tr : Tr AObj) : yieldFF r low l args next tr = yieldV r low l args ⟨next, tr⟩ := by
  unfold yieldFF yieldV
  rw [loopK_eq]
  cases hg : (AH.mk next tr).get l with
  | none => rfl
  | some o =>
    cases o with
    | cells cs m ro => rfl
    | oth b => rfl
    | loop y =>
      simp only
      cases hst : y.state with
      | busy => rfl
      | done => rfl
      | exhausted => rfl
      | ready =>
        simp only [iteN_eq, setsK_eq]
        cases low.ok l with
        | false => rfl
        | true =>
          cases Nat.beq args.length y.params.size with
          | false => rfl
          | true =>
            simp only [cond_true, Bool.and_self]
            generalize hrc : r.code low y.assign _ _ = x
            cases x with
            | none => rfl
            | some o1 =>
              obtain ⟨e1, fr1, h1⟩ := o1
              obtain ⟨n1, t1⟩ := h1
              cases e1 with
              | exit i => rfl
              | goto i => rfl
              | ret => rfl
              | normal =>
                simp only [loopK_eq]
                cases hg1 : (AH.mk n1 t1).get l with
                | none => rfl
                | some o1 =>
                  cases o1 with
                  | cells cs m ro => rfl
                  | oth b => rfl
                  | loop y1 =>
                    simp only
                    cases hst1 : y1.state with
                    | busy => rfl
                    | done => rfl
                    | exhausted => rfl
                    | ready =>
                      simp only [putLK_eq]
                      have hp : (AH.mk n1 t1).put l (.loop { y1 with state := .busy }) = ⟨n1, t1.set l (.loop { y1 with state := .busy })⟩ := rfl
                      rw [hp]
                      generalize r.code low y.body fr1 ⟨n1, t1.set l (.loop { y1 with state := .busy })⟩ = x2
                      cases x2 with
                      | none => rfl
                      | some o2 =>
                        obtain ⟨e2, fr2, ⟨n2, t2⟩⟩ := o2
                        simp only [loopK_eq]
                        cases hg2 : (AH.mk n2 t2).get l with
                        | none => rfl
                        | some o2 =>
                          cases o2 with
                          | cells cs m ro => rfl
                          | oth b => rfl
                          | loop y2 => cases e2 <;> simp only [putLPK_eq] <;> rfl

noncomputable def callK (r : Rec) (low : Lw) (tr : Tr AObj) (next : Nat) (k : KO R) (d : R) (fv : Value) (args : List Value) : R :=
  match fv with
  | .func (.func g) first cap => appK args cap.toList fun l => appK first.toList l fun l => gotK (r.call low g l ⟨next, tr⟩) k d
  | .func (.yield l) first cap => iteN (first.toList.isEmpty && cap.toList.isEmpty) (gotK (yieldFF r low l args next tr) k d) d
  | _ => d
noncomputable def x_call (r : Rec) (low : Lw) (env : Tr Value) (tr : Tr AObj) (next : Nat) (k : KO R) (d : R) (f : FO) (args : List FO) : R :=
  ev env f fun f => evs env args fun args => callK r low tr next k d f args
noncomputable def x_inv (L : Ty) (r : Rec) (low : Lw) (env : Tr Value) (tr : Tr AObj) (next : Nat) (k : KO R) (d : R) (x : FO) (m : String) (args : List FO) : R :=
  ev env x fun x => evs env args fun args => match x with
    | .iface t v => Option.rec (motive := fun _ => R) d (fun f => gotK (r.call low f (v :: args) ⟨next, tr⟩) k d) (L.meth t m)
    | _ => d
/-- the block that a value points to -/
def hintOf (v : Value) : Option Nat := match v with
  | .slice (some a) _ _ => some a.block
  | .pointer (some a) => some a.block
  | .map (some r) => some r
  | .chan (some r) => some r
  | _ => none
noncomputable def x_slow (L : Ty) (r : Rec) (low : Lw) (ds : List ADef) (ro : Option Nat) (env : Tr Value) (tr : Tr AObj) (next : Nat) (k : KO R) (d : R) (o : Oper) (hint : Option FO) : R :=
  Option.rec (motive := fun _ => R) d (fun x => Prod.rec (motive := fun _ => R) (fun v x => Prod.rec (motive := fun _ => R) (fun h ds => fV v fun v =>
    Option.rec (motive := fun _ => R) (outK next none h fun tr next => k v tr next ds) (fun x => ev env x fun x => outK next (hintOf x) h fun tr next => k v tr next ds) hint) x) x) (opV L r low ⟨⟨env⟩, ds, ro⟩ ⟨next, tr⟩ o)

noncomputable def rhoC_i (v : Value) : Value := v
noncomputable def rhoC (env : Tr Value) (x : Operand) : Value := ev env (foOf x) rhoC_i
theorem rhoC_eq (env : Tr Value) : rhoC env = (Env.mk env).eval := by
  funext x
  exact ev_eq env x rhoC_i

noncomputable def gen_out (next : Nat) (hint : Option FO) (env : Tr Value) (h : AH) (k : Tr AObj → Nat → R) : R :=
  Option.rec (motive := fun _ => R) (outK next none h k) (fun x => ev env x fun x => outK next (hintOf x) h k) hint
noncomputable def gen_v (next : Nat) (hint : Option FO) (env : Tr Value) (h : AH) (k : KO R) (v : Value) : R := gen_out next hint env h fun tr next => k v tr next []
noncomputable def gen_r (L : Ty) (r : Rec) (low : Lw) (ds : List ADef) (ro : Option Nat) (env : Tr Value) (tr : Tr AObj) (next : Nat) (k : KO R) (d : R) (o : Oper) (hint : Option FO) (x : ARes) : R :=
  ARes.rec (motive := fun _ => R) (fun v h => fV v (gen_v next hint env h k)) (fun h => gen_out next hint env h fun tr next => k undef tr next [])
    (fun _ _ => x_slow L r low ds ro env tr next k d o hint) (fun _ _ => x_slow L r low ds ro env tr next k d o hint) (fun _ _ => x_slow L r low ds ro env tr next k d o hint) x
noncomputable def x_gen (L : Ty) (r : Rec) (low : Lw) (ds : List ADef) (ro : Option Nat) (env : Tr Value) (tr : Tr AObj) (next : Nat) (k : KO R) (d : R) (o : Oper) (a : Ty → Lw → (Operand → Value) → AH → Option ARes) (hint : Option FO) : R :=
  Option.rec (motive := fun _ => R) d (gen_r L r low ds ro env tr next k d o hint) (a L low (rhoC env) ⟨next, tr⟩)

noncomputable def exK (L : Ty) (r : Rec) (low : Lw) (ds : List ADef) (ro : Option Nat) (env : Tr Value) (tr : Tr AObj) (next : Nat) (o : Oper) (k : KO R) (d : R) (f : FOp) : R :=
  FOp.rec (motive := fun _ => R)
    (x_move env tr next k) (x_pick env tr next k d) (x_load1 env tr next k d) (x_loadN env tr next k d) (x_store low env tr next k d)
    (x_bin L env tr next k d) (x_idxS env tr next k d) (x_idxA env tr next k d) (x_fAddr env tr next k d) (x_field1 env tr next k d) (x_fieldN env tr next k d)
    (x_extract env tr next k d) (x_lenS env tr next k d) (x_conv env tr next k d) (x_call r low env tr next k d) (x_inv L r low env tr next k d) (x_slow L r low ds ro env tr next k d o) (x_gen L r low ds ro env tr next k d o) f

noncomputable def resK (x : Option (Value × AH × List ADef)) (k : KO R) (d : R) : R := match x with
  | some (v, h, ds) => k v h.tr h.next ds
  | none => d

theorem slow_eq (L : Ty) (r : Rec) (low : Lw) (ds : List ADef) (ro : Option Nat) (env : Tr Value) (tr : Tr AObj) (next : Nat) (k : KO R) (d : R) (o : Oper) (hint : Option FO) :
    x_slow L r low ds ro env tr next k d o hint = resK (opV L r low ⟨⟨env⟩, ds, ro⟩ ⟨next, tr⟩ o) k d := by
  unfold x_slow resK
  cases opV L r low ⟨⟨env⟩, ds, ro⟩ ⟨next, tr⟩ o with
  | none => rfl
  | some x =>
    obtain ⟨v, h, ds'⟩ := x
    simp only [fV_eq]
    cases hint with
    | none => exact outK_eq _ _ _ _
    | some x =>
      show ev env x _ = _
      cases x with
      | c v => unfold ev; exact outK_eq _ _ _ _
      | t p =>
        show gP _ p env _ = _
        have : ∀ (p : Pth) (t : Tr Value) (c : R) (K : Value → R), (∀ v, K v = c) → gP c p t K = c := by
          intro p
          induction p with
          | z => intro t c K hK; cases t with
            | leaf => rfl
            | node l v r => cases v with
              | none => rfl
              | some v => exact hK v
          | l p ih => intro t c K hK; cases t with
            | leaf => rfl
            | node l v r => exact ih l c K hK
          | r p ih => intro t c K hK; cases t with
            | leaf => rfl
            | node l v r => exact ih r c K hK
        simp only [outK_eq]
        exact this p env _ _ fun _ => rfl

theorem gen_out_eq (next : Nat) (hint : Option FO) (env : Tr Value) (h : AH) (k : Tr AObj → Nat → R) : gen_out next hint env h k = k h.tr h.next := by
  unfold gen_out
  cases hint with
  | none => exact outK_eq _ _ _ _
  | some x =>
    dsimp only
    simp only [outK_eq]
    have : ∀ (p : Pth) (t : Tr Value) (c : R) (K : Value → R), (∀ v, K v = c) → gP c p t K = c := by
      intro p
      induction p with
      | z => intro t c K hK; cases t with
        | leaf => rfl
        | node l v r => cases v with
          | none => rfl
          | some v => exact hK v
      | l p ih => intro t c K hK; cases t with
        | leaf => rfl
        | node l v r => exact ih l c K hK
      | r p ih => intro t c K hK; cases t with
        | leaf => rfl
        | node l v r => exact ih r c K hK
    cases x with
    | c v => rfl
    | t p => exact this p env _ _ fun _ => rfl

theorem wr_next {low : Lw} {h h' : AH} {a : Addr} {vs : List Value} (e : wr low h a vs = some h') : h'.next = h.next := by
  unfold wr at e
  split at e
  · cases e; rfl
  · split at e
    · rw [Bool.cond_eq_ite] at e
      split at e
      · cases e; rfl
      · cases e
    · cases e

end op
end Go.AM

namespace Go.AM

section op
variable {R : Type}

noncomputable def resA (r : Rec) (low : Lw) (h : AH) (ro : Option Nat) (x : Option ARes) (k : KO R) (d : R) : R := match x with
  | some (.val v h) => k v h.tr h.next []
  | some (.skip h) => k undef h.tr h.next []
  | some (.call f args) => (r.call low f args h).elim d fun x => k x.1 x.2.tr x.2.next []
  | some (.yield l args) => (yieldV r low l args h).elim d fun x => k x.1 x.2.tr x.2.next []
  | some (.defer f args) => match ro with
    | none => k undef h.tr h.next [.call f args]
    | some _ => d
  | none => d

theorem opV_resA (L : Ty) (r : Rec) (low : Lw) (fr : Fr) (h : AH) (o : Oper) (k : KO R) (d : R) :
    resK (opV L r low fr h o) k d = resA r low h fr.round (aop L low fr.env.eval h o.op) k d := by
  unfold opV resK resA
  cases aop L low fr.env.eval h o.op with
  | none => rfl
  | some x =>
    cases x with
    | val v h => rfl
    | skip h => rfl
    | call f args => dsimp only; cases r.call low f args h <;> rfl
    | yield l args => dsimp only; cases yieldV r low l args h <;> rfl
    | defer f args => dsimp only; cases fr.round <;> rfl

theorem callK_eq (L : Ty) (r : Rec) (low : Lw) (env : Tr Value) (tr : Tr AObj) (next : Nat) (ro : Option Nat) (k : KO R) (d : R) (f : Operand) (args : List Value) :
    callK r low tr next k d ((Env.mk env).eval f) args = resA r low ⟨next, tr⟩ ro (callee (Env.mk env).eval f args) k d := by
  unfold callK callee
  generalize (Env.mk env).eval f = fv
  cases fv
  case func fn first cap =>
    cases fn
    case func g =>
      show appK args cap.toList _ = _
      rw [appK_eq, appK_eq, gotK_eq]
      simp only [resA, List.append_assoc]
    case yield l =>
      show iteN _ _ d = _
      rw [iteN_eq]
      dsimp only
      cases first.toList.isEmpty && cap.toList.isEmpty with
      | false => rfl
      | true => simp only [cond_true]; rw [gotK_eq, yieldFF_eq]; rfl
    all_goals rfl
  all_goals rfl

theorem gen_eq (L : Ty) (r : Rec) (low : Lw) (ds : List ADef) (ro : Option Nat) (env : Tr Value) (tr : Tr AObj) (next : Nat) (o : Oper) (k : KO R) (d : R) (a : Ty → Lw → (Operand → Value) → AH → Option ARes) (hint : Option FO)
    (ha : a L low (Env.mk env).eval ⟨next, tr⟩ = aop L low (Env.mk env).eval ⟨next, tr⟩ o.op) :
    exK L r low ds ro env tr next o k d (.gen a hint) = resA r low ⟨next, tr⟩ ro (aop L low (Env.mk env).eval ⟨next, tr⟩ o.op) k d := by
  have slow : x_slow L r low ds ro env tr next k d o hint = resA r low ⟨next, tr⟩ ro (aop L low (Env.mk env).eval ⟨next, tr⟩ o.op) k d :=
    (slow_eq L r low ds ro env tr next k d o hint).trans (opV_resA L r low ⟨⟨env⟩, ds, ro⟩ ⟨next, tr⟩ o k d)
  show x_gen L r low ds ro env tr next k d o a hint = _
  unfold x_gen
  rw [rhoC_eq, ha]
  revert slow
  generalize aop L low (Env.mk env).eval ⟨next, tr⟩ o.op = x
  intro slow
  cases x with
  | none => rfl
  | some x =>
    cases x with
    | val v h =>
      show fV v (gen_v next hint env h k) = _
      rw [fV_eq]
      unfold gen_v
      rw [gen_out_eq]; rfl
    | skip h =>
      show gen_out next hint env h (fun tr next => k undef tr next []) = _
      rw [gen_out_eq]; rfl
    | call f args => exact slow
    | yield l args => exact slow
    | defer f args => exact slow

theorem exK_eq (L : Ty) (r : Rec) (low : Lw) (ds : List ADef) (ro : Option Nat) (env : Tr Value) (tr : Tr AObj) (next : Nat) (o : Oper) (k : KO R) (d : R) :
    exK L r low ds ro env tr next o k d (compO L o.op) = resK (opV L r low ⟨⟨env⟩, ds, ro⟩ ⟨next, tr⟩ o) k d := by
  have slow : ∀ hint, exK L r low ds ro env tr next o k d (.slow hint) = resA r low ⟨next, tr⟩ ro (aop L low (Env.mk env).eval ⟨next, tr⟩ o.op) k d := fun hint =>
    (slow_eq L r low ds ro env tr next k d o hint).trans (opV_resA L r low ⟨⟨env⟩, ds, ro⟩ ⟨next, tr⟩ o k d)
  have gen : ∀ a hint, a L low (Env.mk env).eval ⟨next, tr⟩ = aop L low (Env.mk env).eval ⟨next, tr⟩ o.op → exK L r low ds ro env tr next o k d (.gen a hint) = resA r low ⟨next, tr⟩ ro (aop L low (Env.mk env).eval ⟨next, tr⟩ o.op) k d := fun a hint ha =>
    gen_eq L r low ds ro env tr next o k d a hint ha
  rw [opV_resA]
  dsimp only
  revert slow gen
  generalize o.op = op
  intro slow gen
  cases op
  case move x => show x_move env tr next k (foOf x) = _; unfold x_move; rw [ev_eq]; rfl
  case assign x => show x_move env tr next k (foOf x) = _; unfold x_move; rw [ev_eq]; rfl
  case pick c a b =>
    show x_pick env tr next k d (foOf c) (foOf a) (foOf b) = _
    unfold x_pick aop
    simp only [ev_eq]
    generalize (Env.mk env).eval c = v
    unfold boolK
    cases v <;> try rfl
    rename_i b'
    cases b' <;> rfl
  case load t a =>
    unfold compO
    dsimp only [ptrK_y, ptrK_s, natK_y, natK_o, slcK_y, aggK_y, tupK_y]
    cases hg : L.agg t with
    | none => exact slow _
    | some g =>
      cases g with
      | true =>
        dsimp only [ptrK_y, ptrK_s, natK_y, natK_o, slcK_y, aggK_y, tupK_y]
        cases hs : L.size t with
        | none => exact slow _
        | some n =>
          cases n with
          | zero => exact slow _
          | succ n =>
            show x_loadN env tr next k d (n + 1) (foOf a) = _
            unfold x_loadN aop
            rw [ev_eq]
            dsimp only [ptrK_y, ptrK_s, natK_y, natK_o, slcK_y, aggK_y, tupK_y]
            generalize (Env.mk env).eval a = v
            unfold ptrK
            cases v <;> try rfl
            rename_i p
            cases p with
            | none => rfl
            | some a =>
              dsimp only [ptrK_y, ptrK_s, natK_y, natK_o, slcK_y, aggK_y, tupK_y]
              unfold loadNK loadT
              rw [hg]
              dsimp only [ptrK_y, ptrK_s, natK_y, natK_o, slcK_y, aggK_y, tupK_y]
              rw [hs, cellsK_eq]
              unfold rd
              simp only [show Nat.beq (n + 1) 0 = false from rfl, cond_false]
              cases hget : (AH.mk next tr).get a.block with
              | none => rfl
              | some o =>
                cases o with
                | loop y => rfl
                | oth b => rfl
                | cells cs m ro' =>
                  cases hsp : a.spot with
                  | none => rfl
                  | some e =>
                    dsimp only [ptrK_y, ptrK_s, natK_y, natK_o, slcK_y, aggK_y, tupK_y]
                    cases (Nat.ble m e && Nat.ble (a.off + (n + 1)) e) with
                    | false => rfl
                    | true =>
                      simp only [cond_true]
                      rw [dropK_eq, takeK_eq]; rfl
      | false =>
        show x_load1 env tr next k d (foOf a) = _
        unfold x_load1 aop
        rw [ev_eq]
        dsimp only [ptrK_y, ptrK_s, natK_y, natK_o, slcK_y, aggK_y, tupK_y]
        generalize (Env.mk env).eval a = v
        unfold ptrK
        cases v <;> try rfl
        rename_i p
        cases p with
        | none => rfl
        | some a =>
          dsimp only [ptrK_y, ptrK_s, natK_y, natK_o, slcK_y, aggK_y, tupK_y]
          unfold load1K loadT
          rw [hg]
          dsimp only [ptrK_y, ptrK_s, natK_y, natK_o, slcK_y, aggK_y, tupK_y]
          rw [cellsK_eq]
          unfold rd
          simp only [show Nat.beq 1 0 = false from rfl, cond_false]
          cases hget : (AH.mk next tr).get a.block with
          | none => rfl
          | some o =>
            cases o with
            | loop y => rfl
            | oth b => rfl
            | cells cs m ro' =>
              cases hsp : a.spot with
              | none => rfl
              | some e =>
                dsimp only [ptrK_y, ptrK_s, natK_y, natK_o, slcK_y, aggK_y, tupK_y]
                cases (Nat.ble m e && Nat.ble (a.off + 1) e) with
                | false => rfl
                | true =>
                  simp only [cond_true]
                  unfold load1_k
                  rw [nthK_eq]
                  have : (cs.drop a.off).take 1 = match cs[a.off]? with | some v => [v] | none => [] := by
                    cases hc : cs[a.off]? with
                    | none => rw [List.getElem?_eq_none_iff] at hc; simp [List.drop_eq_nil_of_le hc]
                    | some v =>
                      obtain ⟨hl, hv⟩ := List.getElem?_eq_some_iff.1 hc
                      rw [List.drop_eq_getElem_cons hl, hv]; rfl
                  rw [this]
                  cases cs[a.off]? <;> rfl
  case store t a x =>
    unfold compO
    dsimp only [ptrK_y, ptrK_s, natK_y, natK_o, slcK_y, aggK_y, tupK_y]
    cases hs : L.size t with
    | none => exact slow _
    | some n =>
      show x_store low env tr next k d n (foOf a) (foOf x) = _
      unfold x_store aop
      rw [ev_eq]
      dsimp only [ptrK_y, ptrK_s, natK_y, natK_o, slcK_y, aggK_y, tupK_y]
      rw [hs]
      generalize (Env.mk env).eval a = v
      unfold ptrK
      cases v <;> try rfl
      rename_i p
      cases p with
      | none => rfl
      | some a =>
        dsimp only [ptrK_y, ptrK_s, natK_y, natK_o, slcK_y, aggK_y, tupK_y]
        rw [ev_eq, storeK_eq]
        cases Nat.beq (cellsOf ((Env.mk env).eval x)).length n with
        | false => rfl
        | true =>
          simp only [cond_true]
          cases hw : wr low ⟨next, tr⟩ a (cellsOf ((Env.mk env).eval x)) with
          | none => rfl
          | some h' =>
            have := wr_next hw
            show k undef h'.tr next [] = k undef h'.tr h'.next []
            rw [this]
  case binOp bop t x y t' =>
    show x_bin L env tr next k d bop t (isC x || isC y) (foOf x) (foOf y) = _
    unfold x_bin aop
    rw [ev_eq, ev_eq, binK_eq]
    dsimp only [ptrK_y, ptrK_s, natK_y, natK_o, slcK_y, aggK_y, tupK_y]
    cases nilPair x y ((Env.mk env).eval x) ((Env.mk env).eval y) with
    | false => rfl
    | true =>
      simp only [cond_true]
      cases binV L bop t ((Env.mk env).eval x) ((Env.mk env).eval y) <;> rfl
  case indexAddr t x i =>
    unfold compO
    dsimp only [ptrK_y, ptrK_s, natK_y, natK_o, slcK_y, aggK_y, tupK_y]
    split
    · rename_i e hu
      cases hs : L.size e with
      | none => exact slow _
      | some esz =>
        show x_idxS env tr next k d esz (foOf x) (foOf i) = _
        unfold x_idxS aop
        rw [ev_eq]
        dsimp only [ptrK_y, ptrK_s, natK_y, natK_o, slcK_y, aggK_y, tupK_y]
        generalize (Env.mk env).eval i = iv
        unfold natK
        cases iv <;> try rfl
        rename_i kd z
        cases z with
        | negSucc n => rfl
        | ofNat i =>
          dsimp only [ptrK_y, ptrK_s, natK_y, natK_o, slcK_y, aggK_y, tupK_y]
          rw [ev_eq, hu]
          generalize (Env.mk env).eval x = xv
          unfold slcK
          cases xv <;> try rfl
          rename_i ao n c
          cases ao with
          | none => rfl
          | some a =>
            dsimp only [ptrK_y, ptrK_s, natK_y, natK_o, slcK_y, aggK_y, tupK_y]
            rw [hs, iteN_eq, addK_eq]
            show (bif Nat.ble (i + 1) n then _ else _) = resA r low _ ro (bif Nat.blt i n then _ else _) k d
            have : Nat.blt i n = Nat.ble (i + 1) n := rfl
            rw [this]
            cases Nat.ble (i + 1) n <;> rfl
    · rename_i n e hu
      cases hs : L.size e with
      | none => exact slow _
      | some esz =>
        show x_idxA env tr next k d esz n (foOf x) (foOf i) = _
        unfold x_idxA aop
        rw [ev_eq]
        dsimp only [ptrK_y, ptrK_s, natK_y, natK_o, slcK_y, aggK_y, tupK_y]
        generalize (Env.mk env).eval i = iv
        unfold natK
        cases iv <;> try rfl
        rename_i kd z
        cases z with
        | negSucc n => rfl
        | ofNat i =>
          dsimp only [ptrK_y, ptrK_s, natK_y, natK_o, slcK_y, aggK_y, tupK_y]
          rw [ev_eq, hu]
          generalize (Env.mk env).eval x = xv
          unfold ptrK
          cases xv <;> try rfl
          rename_i ao
          cases ao with
          | none => rfl
          | some a =>
            dsimp only [ptrK_y, ptrK_s, natK_y, natK_o, slcK_y, aggK_y, tupK_y]
            rw [hs, iteN_eq, addK_eq]
            show (bif Nat.ble (i + 1) n then _ else _) = resA r low _ ro (bif Nat.blt i n then _ else _) k d
            have : Nat.blt i n = Nat.ble (i + 1) n := rfl
            rw [this]
            cases Nat.ble (i + 1) n <;> rfl
    · exact slow _
  case fieldAddr t x i =>
    unfold compO
    dsimp only [ptrK_y, ptrK_s, natK_y, natK_o, slcK_y, aggK_y, tupK_y]
    split
    · rename_i fs hu
      split
      · rename_i f hf
        split
        · rename_i n hs
          show x_fAddr env tr next k d f.offset (foOf x) = _
          unfold x_fAddr aop
          rw [ev_eq]
          dsimp only [ptrK_y, ptrK_s, natK_y, natK_o, slcK_y, aggK_y, tupK_y]
          rw [hu]
          generalize (Env.mk env).eval x = xv
          unfold ptrK
          cases xv <;> try rfl
          rename_i ao
          cases ao with
          | none => rfl
          | some a =>
            dsimp only [ptrK_y, ptrK_s, natK_y, natK_o, slcK_y, aggK_y, tupK_y]
            rw [hf, addK_eq]
            dsimp only [ptrK_y, ptrK_s, natK_y, natK_o, slcK_y, aggK_y, tupK_y]
            rw [hs]; rfl
        · exact slow _
      · exact slow _
    · exact slow _
  case field t x i =>
    unfold compO
    dsimp only [ptrK_y, ptrK_s, natK_y, natK_o, slcK_y, aggK_y, tupK_y]
    split
    · rename_i fs hu
      split
      · rename_i f hf
        split
        · rename_i n hs hg
          show x_fieldN env tr next k d f.offset n (foOf x) = _
          unfold x_fieldN aop
          rw [ev_eq]
          dsimp only [ptrK_y, ptrK_s, natK_y, natK_o, slcK_y, aggK_y, tupK_y]
          rw [hu]
          generalize (Env.mk env).eval x = xv
          unfold aggK
          cases xv <;> try rfl
          rename_i cs
          dsimp only [ptrK_y, ptrK_s, natK_y, natK_o, slcK_y, aggK_y, tupK_y]
          rw [hf, dropK_eq, takeK_eq]
          dsimp only [ptrK_y, ptrK_s, natK_y, natK_o, slcK_y, aggK_y, tupK_y]
          rw [hs, hg]; rfl
        · rename_i n hs hg
          show x_field1 env tr next k d f.offset (foOf x) = _
          unfold x_field1 aop
          rw [ev_eq]
          dsimp only [ptrK_y, ptrK_s, natK_y, natK_o, slcK_y, aggK_y, tupK_y]
          rw [hu]
          generalize (Env.mk env).eval x = xv
          unfold aggK
          cases xv <;> try rfl
          rename_i cs
          dsimp only [ptrK_y, ptrK_s, natK_y, natK_o, slcK_y, aggK_y, tupK_y]
          rw [hf, nthK_eq]
          dsimp only [ptrK_y, ptrK_s, natK_y, natK_o, slcK_y, aggK_y, tupK_y]
          rw [hs, hg]
          dsimp only [ptrK_y, ptrK_s, natK_y, natK_o, slcK_y, aggK_y, tupK_y]
          have : (cs.toList.drop f.offset).take 1 = match cs.toList[f.offset]? with | some v => [v] | none => [] := by
            cases hc : cs.toList[f.offset]? with
            | none => rw [List.getElem?_eq_none_iff] at hc; simp [List.drop_eq_nil_of_le hc]
            | some v =>
              obtain ⟨hl, hv⟩ := List.getElem?_eq_some_iff.1 hc
              rw [List.drop_eq_getElem_cons hl, hv]; rfl
          simp only [cond_false]
          rw [this]
          cases cs.toList[f.offset]? <;> rfl
        · exact slow _
      · exact slow _
    · exact slow _
  case extract t i =>
    show x_extract env tr next k d (foOf t) i = _
    unfold x_extract aop
    rw [ev_eq]
    dsimp only [ptrK_y, ptrK_s, natK_y, natK_o, slcK_y, aggK_y, tupK_y]
    generalize (Env.mk env).eval t = xv
    unfold tupK
    cases xv <;> try rfl
    rename_i cs
    dsimp only [ptrK_y, ptrK_s, natK_y, natK_o, slcK_y, aggK_y, tupK_y]
    rw [nthK_eq]
    cases cs.toList[i]? <;> rfl
  case convert s dd x =>
    unfold compO
    dsimp only [ptrK_y, ptrK_s, natK_y, natK_o, slcK_y, aggK_y, tupK_y]
    split
    · rename_i u kd hu hd
      show x_conv env tr next k d kd (foOf x) = _
      unfold x_conv aop
      rw [ev_eq]
      dsimp only [ptrK_y, ptrK_s, natK_y, natK_o, slcK_y, aggK_y, tupK_y]
      unfold convV
      rw [hu, hd]
      generalize (Env.mk env).eval x = xv
      cases xv
      case int k' z =>
        cases z with
        | ofNat m =>
          unfold convK
          dsimp only [ptrK_y, ptrK_s, natK_y, natK_o, slcK_y, aggK_y, tupK_y]
          rw [smallK_eq _ _ _ _ (by rw [fI_eq]), fI_eq]; rfl
        | negSucc m =>
          unfold convK
          dsimp only [ptrK_y, ptrK_s, natK_y, natK_o, slcK_y, aggK_y, tupK_y]
          rw [fI_eq]; rfl
      all_goals rfl
    · exact gen _ _ rfl
  case call c =>
    unfold compO
    dsimp only [ptrK_y, ptrK_s, natK_y, natK_o, slcK_y, aggK_y, tupK_y]
    cases hc : c.callee with
    | value f =>
      show x_call r low env tr next k d (foOf f) (c.args.toList.map foOf) = _
      unfold x_call aop
      dsimp only [ptrK_y, ptrK_s, natK_y, natK_o, slcK_y, aggK_y, tupK_y]
      rw [hc, ev_eq, evs_eq]
      exact callK_eq L r low env tr next ro k d f _
    | invoke x m =>
      show x_inv L r low env tr next k d (foOf x) m (c.args.toList.map foOf) = _
      unfold x_inv aop
      dsimp only [ptrK_y, ptrK_s, natK_y, natK_o, slcK_y, aggK_y, tupK_y]
      rw [hc, ev_eq, evs_eq]
      dsimp only [ptrK_y, ptrK_s, natK_y, natK_o, slcK_y, aggK_y, tupK_y]
      generalize (Env.mk env).eval x = xv
      cases xv
      case iface t v =>
        dsimp only [ptrK_y, ptrK_s, natK_y, natK_o, slcK_y, aggK_y, tupK_y]
        cases L.meth t m with
        | none => rfl
        | some f => exact gotK_eq _ _ _
      all_goals rfl
    | builtin b => exact gen _ _ (by unfold aop; dsimp only; rw [hc]; rfl)
  all_goals first | exact gen _ _ rfl | exact slow _

end op
end Go.AM

namespace Go.AM

inductive FG where
  | no
  | never
  | on (p : Pth) (want : Bool)

noncomputable def guOf (ops : Array Oper) (o : Oper) : FG := match o.guard with
  | none => .no
  | some (j, want) => match (ops[j]?).bind (·.dst) with
    | some d => .on (pth d) want
    | none => .never

structure FOper where
  dst : Option Pth
  g : FG
  op : FOp
  src : Oper
  pu : Bool

noncomputable def compOper (L : Ty) (ops : Array Oper) (o : Oper) : FOper := ⟨o.dst.map pth, guOf ops o, compO L o.op, o, pureOp o.op⟩
noncomputable def compL (L : Ty) (ops : Array Oper) : List FOper := ops.toList.map (compOper L ops)

section op
variable {R : Type}

noncomputable def guardK (env : Tr Value) (g : FG) (a b : R) : R :=
  FG.rec (motive := fun _ => R) a b (fun p want => gP b p env fun v => boolK v (Bool.rec (motive := fun _ => R) b a want) (Bool.rec (motive := fun _ => R) a b want) b) g
theorem guardK_eq (env : Tr Value) (ops : Array Oper) (o : Oper) (a b : R) : guardK env (guOf ops o) a b = bif guardV ops ⟨env⟩ o then a else b := by
  unfold guOf guardV
  cases o.guard with
  | none => rfl
  | some g =>
    obtain ⟨j, want⟩ := g
    dsimp only
    cases (ops[j]?).bind (·.dst) with
    | none => rfl
    | some d =>
      dsimp only
      show gP b (pthF d d) env _ = _
      rw [gP_eq _ _ d d env (Nat.le_refl _)]
      unfold Env.get
      cases env.get d with
      | none => simp [undef]
      | some v =>
        simp only [Option.elim_some, Option.getD_some]
        unfold boolK
        cases v <;> try rfl
        rename_i b'
        cases b' <;> cases want <;> rfl

noncomputable def dstK (env : Tr Value) (dst : Option Pth) (v : Value) (k : Tr Value → R) : R := Option.rec (motive := fun _ => R) (k env) (fun p => sP p env v k) dst
theorem dstK_eq (env : Tr Value) (dst : Option Tmp) (v : Value) (k : Tr Value → R) : dstK env (dst.map pth) v k = k ((Env.mk env).put dst v).tr := by
  cases dst with
  | none => rfl
  | some t => exact sP_eq _ t t env k (Nat.le_refl _)

noncomputable def dsK (a b : List ADef) (k : List ADef → R) : R := List.rec (motive := fun _ => R) (k b) (fun x t _ => k ((x :: t) ++ b)) a
theorem dsK_eq (a b : List ADef) (k : List ADef → R) : dsK a b k = k (a ++ b) := by cases a <;> rfl

noncomputable def opsFF (L : Ty) (r : Rec) (low : Lw) (ro : Option Nat) (d : R) (l : List FOper) :
    Tr Value → List ADef → Tr AObj → Nat → (Tr Value → List ADef → Tr AObj → Nat → R) → R :=
  List.rec (motive := fun _ => Tr Value → List ADef → Tr AObj → Nat → (Tr Value → List ADef → Tr AObj → Nat → R) → R) (fun env ds tr next k => k env ds tr next)
    (fun o _ ih env ds tr next k => FOper.rec (motive := fun _ => R) (fun dst g op src _ =>
      guardK env g (exK L r low ds ro env tr next src (fun v tr next ds' => dstK env dst v fun env => dsK ds' ds fun ds => ih env ds tr next k) d op)
        (dstK env dst undef fun env => ih env ds tr next k)) o) l

theorem opsFF_eq (L : Ty) (r : Rec) (low : Lw) (ro : Option Nat) (d : R) (ops : Array Oper) : ∀ (l : List Oper) (env : Tr Value) (ds : List ADef) (tr : Tr AObj) (next : Nat) (k : Tr Value → List ADef → Tr AObj → Nat → R),
    opsFF L r low ro d (l.map (compOper L ops)) env ds tr next k = match opsV L r low ops l ⟨⟨env⟩, ds, ro⟩ ⟨next, tr⟩ with
      | some (fr, h) => k fr.env.tr fr.defers h.tr h.next
      | none => d
  | [], env, ds, tr, next, k => rfl
  | o :: l, env, ds, tr, next, k => by
    show guardK env (guOf ops o) (exK L r low ds ro env tr next o _ d (compO L o.op)) (dstK env (o.dst.map pth) undef fun env => opsFF L r low ro d (l.map (compOper L ops)) env ds tr next k) = _
    rw [guardK_eq, exK_eq, dstK_eq, opsFF_eq L r low ro d ops l]
    conv => rhs; unfold opsV
    dsimp only
    cases guardV ops ⟨env⟩ o with
    | false => rfl
    | true =>
      simp only [cond_true]
      unfold resK
      cases opV L r low ⟨⟨env⟩, ds, ro⟩ ⟨next, tr⟩ o with
      | none => rfl
      | some x =>
        obtain ⟨v, h, ds'⟩ := x
        dsimp only
        rw [dstK_eq, dsK_eq]
        exact opsFF_eq L r low ro d ops l _ _ _ _ _

theorem opV_round {L : Ty} {r : Rec} {low : Lw} {fr : Fr} {h : AH} {o : Oper} : True := trivial

theorem opsV_round {L : Ty} {r : Rec} {low : Lw} {ops : Array Oper} : ∀ {l : List Oper} {fr : Fr} {h : AH} {fr' : Fr} {h' : AH}, opsV L r low ops l fr h = some (fr', h') → fr'.round = fr.round
  | [], fr, h, fr', h', e => by cases e; rfl
  | o :: l, fr, h, fr', h', e => by
    unfold opsV at e
    cases hg : guardV ops fr.env o with
    | false => rw [hg] at e; exact opsV_round (fr := { fr with env := fr.env.put o.dst undef }) e
    | true =>
      rw [hg] at e
      simp only [cond_true] at e
      cases hv : opV L r low fr h o with
      | none => rw [hv] at e; cases e
      | some x =>
        obtain ⟨v, h1, ds⟩ := x
        rw [hv] at e
        exact opsV_round (fr := { fr with env := fr.env.put o.dst v, defers := ds ++ fr.defers }) e

/-! drawn regions -/
noncomputable def nilDs (ds : List ADef) (a b : R) : R := List.rec (motive := fun _ => R) a (fun _ _ _ => b) ds

noncomputable def drawOneK (L : Ty) (r : Rec) (low : Lw) (ds : List ADef) (ro : Option Nat) (env : Tr Value) (tr : Tr AObj) (next : Nat) (fo : FOp) (src : Oper) (pu : Bool) (k : Kind → Value → Tr AObj → Nat → R) (d : R) : R :=
  iteN pu (exK L r low ds ro env tr next src (fun v tr next ds => nilDs ds (k .pure v tr next) d) d fo)
    (Option.rec (motive := fun _ => R)
      (exK L r (.up next) ds ro env tr next src (fun v tr next ds => nilDs ds (k .reads v tr next) d)
        (exK L r low ds ro env tr next src (fun v tr next ds => nilDs ds (k .writes v tr next) d) d fo) fo)
      (fun p => Prod.rec (motive := fun _ => R) (fun Rs W => exK L r (.up next) ds ro env tr next src (fun v tr next ds => nilDs ds (k (.loc Rs none) v tr next) d)
        (Option.rec (motive := fun _ => R) d (fun f => iteN (low.ok f) (iteN (nonRo ⟨next, tr⟩ f)
          (exK L r (.one f next) ds ro env tr next src (fun v tr next ds => nilDs ds (iteN (nonRo ⟨next, tr⟩ f) (k (.loc Rs (some f)) v tr next) d) d) d fo) d) d) W) fo) p)
      (localFp (Env.mk env).eval src.op))

theorem drawOneK_eq (L : Ty) (r : Rec) (low : Lw) (ds : List ADef) (ro : Option Nat) (env : Tr Value) (tr : Tr AObj) (next : Nat) (o : Oper) (k : Kind → Value → Tr AObj → Nat → R) (d : R) :
    drawOneK L r low ds ro env tr next (compO L o.op) o (pureOp o.op) k d = match drawOp L r low ⟨⟨env⟩, ds, ro⟩ ⟨next, tr⟩ o with
      | some (kd, v, h) => k kd v h.tr h.next
      | none => d := by
  unfold drawOneK drawOp
  rw [iteN_eq]
  simp only [exK_eq]
  cases pureOp o.op with
  | true =>
    simp only [cond_true]
    unfold resK
    cases opV L r low ⟨⟨env⟩, ds, ro⟩ ⟨next, tr⟩ o with
    | none => rfl
    | some x =>
      obtain ⟨v, h, ds'⟩ := x
      cases ds' <;> rfl
  | false =>
    simp only [cond_false]
    cases localFp (Env.mk env).eval o.op with
    | none =>
      dsimp only
      unfold resK
      cases opV L r (.up next) ⟨⟨env⟩, ds, ro⟩ ⟨next, tr⟩ o with
      | none =>
        dsimp only
        cases opV L r low ⟨⟨env⟩, ds, ro⟩ ⟨next, tr⟩ o with
        | none => rfl
        | some x =>
          obtain ⟨v, h, ds'⟩ := x
          cases ds' <;> rfl
      | some x =>
        obtain ⟨v, h, ds'⟩ := x
        cases ds' <;> rfl
    | some p =>
      obtain ⟨Rs, W⟩ := p
      dsimp only
      unfold resK
      cases opV L r (.up next) ⟨⟨env⟩, ds, ro⟩ ⟨next, tr⟩ o with
      | some x =>
        obtain ⟨v, h, ds'⟩ := x
        cases ds' <;> rfl
      | none =>
        dsimp only
        cases W with
        | none => rfl
        | some f =>
          dsimp only
          rw [iteN_eq, iteN_eq]
          cases low.ok f with
          | false => rfl
          | true =>
            cases nonRo ⟨next, tr⟩ f with
            | false => rfl
            | true =>
              simp only [cond_true, Bool.and_self]
              cases opV L r (.one f next) ⟨⟨env⟩, ds, ro⟩ ⟨next, tr⟩ o with
              | none => rfl
              | some x =>
                obtain ⟨v, h, ds'⟩ := x
                cases ds' with
                | cons a t => rfl
                | nil =>
                  show iteN (nonRo h f) _ d = _
                  rw [iteN_eq]
                  dsimp only
                  cases nonRo h f <;> rfl

noncomputable def drawFF (L : Ty) (r : Rec) (low : Lw) (ds : List ADef) (ro : Option Nat) (d : R) (l : List FOper) :
    Tr Value → Tr AObj → Nat → (List Kind → Tr Value → Tr AObj → Nat → R) → R :=
  List.rec (motive := fun _ => Tr Value → Tr AObj → Nat → (List Kind → Tr Value → Tr AObj → Nat → R) → R) (fun env tr next k => k [] env tr next)
    (fun o _ ih env tr next k => FOper.rec (motive := fun _ => R) (fun dst g op src pu =>
      guardK env g (drawOneK L r low ds ro env tr next op src pu (fun kd v tr next => dstK env dst v fun env => ih env tr next fun ks => k (kd :: ks)) d)
        (dstK env dst undef fun env => ih env tr next fun ks => k (.pure :: ks))) o) l

theorem drawFF_eq (L : Ty) (r : Rec) (low : Lw) (ds : List ADef) (ro : Option Nat) (d : R) (ops : Array Oper) : ∀ (l : List Oper) (env : Tr Value) (tr : Tr AObj) (next : Nat) (k : List Kind → Tr Value → Tr AObj → Nat → R),
    drawFF L r low ds ro d (l.map (compOper L ops)) env tr next k = match drawV L r low ops l ⟨⟨env⟩, ds, ro⟩ ⟨next, tr⟩ with
      | some (ks, fr, h) => k ks fr.env.tr h.tr h.next
      | none => d
  | [], env, tr, next, k => rfl
  | o :: l, env, tr, next, k => by
    show guardK env (guOf ops o) (drawOneK L r low ds ro env tr next (compO L o.op) o (pureOp o.op) _ d) (dstK env (o.dst.map pth) undef fun env => drawFF L r low ds ro d (l.map (compOper L ops)) env tr next _) = _
    rw [guardK_eq, drawOneK_eq, dstK_eq, drawFF_eq L r low ds ro d ops l]
    conv => rhs; unfold drawV
    dsimp only
    cases guardV ops ⟨env⟩ o with
    | false =>
      simp only [cond_false]
      show _ = (match (match drawV L r low ops l ⟨(Env.mk env).put o.dst undef, ds, ro⟩ ⟨next, tr⟩ with | some (ks, fr, h) => some (Kind.pure :: ks, fr, h) | none => none) with | some (ks, fr, h) => k ks fr.env.tr h.tr h.next | none => d)
      cases drawV L r low ops l ⟨(Env.mk env).put o.dst undef, ds, ro⟩ ⟨next, tr⟩ <;> rfl
    | true =>
      simp only [cond_true]
      cases drawOp L r low ⟨⟨env⟩, ds, ro⟩ ⟨next, tr⟩ o with
      | none => rfl
      | some x =>
        obtain ⟨kd, v, h⟩ := x
        dsimp only
        rw [dstK_eq]
        have := drawFF_eq L r low ds ro d ops l ((Env.mk env).put o.dst v).tr h.tr h.next fun ks => k (kd :: ks)
        refine this.trans ?_
        show (match drawV L r low ops l ⟨(Env.mk env).put o.dst v, ds, ro⟩ h with | some (ks, fr, h) => k (kd :: ks) fr.env.tr h.tr h.next | none => d) = _
        cases drawV L r low ops l ⟨(Env.mk env).put o.dst v, ds, ro⟩ h <;> rfl

theorem drawV_kinds {L : Ty} {r : Rec} {low : Lw} {ops : Array Oper} : ∀ {l : List Oper} {fr : Fr} {h : AH} {ks : List Kind} {fr' : Fr} {h' : AH}, drawV L r low ops l fr h = some (ks, fr', h') →
    fr'.round = fr.round ∧ fr'.defers = fr.defers ∧ ks.length = l.length ∧ ∀ (j : Nat) (o : Oper), l[j]? = some o → pureOp o.op = true → ks[j]? = some Kind.pure
  | [], fr, h, ks, fr', h', e => by cases e; exact ⟨rfl, rfl, rfl, fun j o h => by simp at h⟩
  | o :: l, fr, h, ks, fr', h', e => by
    unfold drawV at e
    cases hg : guardV ops fr.env o with
    | false =>
      rw [hg] at e
      simp only [cond_false] at e
      cases hd : drawV L r low ops l { fr with env := fr.env.put o.dst undef } h with
      | none => rw [hd] at e; cases e
      | some x =>
        obtain ⟨ks1, fr1, h1⟩ := x
        rw [hd] at e; cases e
        obtain ⟨a, b, c, dd⟩ := drawV_kinds hd
        refine ⟨a, b, by simp [c], fun j o' hj hp => ?_⟩
        cases j with
        | zero => rfl
        | succ j => simpa using dd j o' (by simpa using hj) hp
    | true =>
      rw [hg] at e
      simp only [cond_true] at e
      cases ho : drawOp L r low fr h o with
      | none => rw [ho] at e; cases e
      | some y =>
        obtain ⟨kd, v, h1⟩ := y
        rw [ho] at e
        dsimp only at e
        cases hd : drawV L r low ops l { fr with env := fr.env.put o.dst v } h1 with
        | none => rw [hd] at e; cases e
        | some x =>
          obtain ⟨ks1, fr1, h2⟩ := x
          rw [hd] at e; cases e
          obtain ⟨a, b, c, dd⟩ := drawV_kinds hd
          refine ⟨a, b, by simp [c], fun j o' hj hp => ?_⟩
          cases j with
          | zero =>
            simp only [List.getElem?_cons_zero, Option.some.injEq] at hj ⊢
            subst hj
            unfold drawOp at ho
            rw [hp] at ho
            simp only [cond_true] at ho
            split at ho
            · cases ho; rfl
            · cases ho
          | succ j => simpa using dd j o' (by simpa using hj) hp

noncomputable def pairsOf (ops : Array Oper) : List (Nat × Nat) :=
  ops.toList.zipIdx.flatMap fun (o, j) => bif pureOp o.op then [] else ((ops.toList.zipIdx.take j).filter fun (p, i) => !(pureOp p.op) && !(ahead (masks ops.toList []) i j)).map fun (_, i) => (i, j)

noncomputable def drawDynF (ops : Array Oper) (ks : List Kind) : Bool := (pairsOf ops).all fun (i, j) => match ks[i]?, ks[j]? with
  | some a, some b => !(a.clash b)
  | _, _ => true

theorem drawDyn_iff (ops : Array Oper) (ks : List Kind) : drawDyn ops ks = true ↔ ∀ i j a b, i < j → ks[i]? = some a → ks[j]? = some b → a.clash b = false ∨ ahead (masks ops.toList []) i j = true := by
  unfold drawDyn
  simp only [List.all_eq_true, Bool.or_eq_true, Bool.not_eq_true']
  constructor
  · intro hd i j a b hlt hi hj
    refine hd (b, j) (by rw [List.mem_zipIdx_iff_getElem?]; simpa using hj) (a, i) ?_
    rw [List.mem_take_iff_getElem]
    obtain ⟨hil, hia⟩ := List.getElem?_eq_some_iff.1 hi
    exact ⟨i, by simp; omega, by simp [hia]⟩
  · rintro hd ⟨b, j⟩ hj ⟨a, i⟩ hi
    rw [List.mem_zipIdx_iff_getElem?] at hj
    rw [List.mem_take_iff_getElem] at hi
    obtain ⟨i', hi', e⟩ := hi
    simp only [List.getElem_zipIdx, Prod.mk.injEq, Nat.zero_add] at e
    simp only [List.length_zipIdx] at hi'
    obtain ⟨e1, rfl⟩ := e
    exact hd i' j a b (by omega) (by rw [List.getElem?_eq_some_iff]; exact ⟨by omega, e1⟩) (by simpa using hj)

theorem drawDynF_iff (ops : Array Oper) (ks : List Kind) : drawDynF ops ks = true ↔ ∀ i j o p, i < j → ops.toList[j]? = some o → ops.toList[i]? = some p → pureOp o.op = false → pureOp p.op = false → ahead (masks ops.toList []) i j = false →
    ∀ a b, ks[i]? = some a → ks[j]? = some b → a.clash b = false := by
  unfold drawDynF pairsOf
  simp only [List.all_eq_true]
  constructor
  · intro hd i j o p hlt hj hi ho hp ha a b h1 h2
    have := hd (i, j) (by
      rw [List.mem_flatMap]
      refine ⟨(o, j), by rw [List.mem_zipIdx_iff_getElem?]; simpa using hj, ?_⟩
      simp only [ho, cond_false, List.mem_map, List.mem_filter]
      refine ⟨(p, i), ⟨?_, by simp [hp, ha]⟩, rfl⟩
      rw [List.mem_take_iff_getElem]
      obtain ⟨hil, hia⟩ := List.getElem?_eq_some_iff.1 hi
      have hjl := (List.getElem?_eq_some_iff.1 hj).1
      exact ⟨i, by simp only [List.length_zipIdx]; omega, by simp [hia]⟩)
    simp only [h1, h2, Bool.not_eq_true'] at this
    exact this
  · rintro hd ⟨i, j⟩ hm
    rw [List.mem_flatMap] at hm
    obtain ⟨⟨o, j'⟩, hj, hm⟩ := hm
    rw [List.mem_zipIdx_iff_getElem?] at hj
    simp only at hj hm
    cases ho : pureOp o.op with
    | true => rw [ho] at hm; simp at hm
    | false =>
      rw [ho] at hm
      simp only [cond_false, List.mem_map, List.mem_filter] at hm
      obtain ⟨⟨p, i'⟩, ⟨h1, h2⟩, h3⟩ := hm
      simp only [Prod.mk.injEq] at h3
      obtain ⟨rfl, rfl⟩ := h3
      rw [List.mem_take_iff_getElem] at h1
      obtain ⟨i'', hi', e⟩ := h1
      simp only [List.getElem_zipIdx, Prod.mk.injEq, Nat.zero_add] at e
      simp only [List.length_zipIdx] at hi'
      obtain ⟨e1, rfl⟩ := e
      simp only [Bool.and_eq_true, Bool.not_eq_true'] at h2
      have := hd i'' j' o p (by omega) (by simpa using hj) (by rw [List.getElem?_eq_some_iff]; exact ⟨by omega, e1⟩) ho h2.1 h2.2
      cases h1 : ks[i'']? with
      | none => rfl
      | some a =>
        cases h2 : ks[j']? with
        | none => rfl
        | some b => simp only [this a b h1 h2]; rfl

theorem Kind.clash_pure (k : Kind) : k.clash .pure = false := by cases k <;> rfl

theorem drawDynF_eq {L : Ty} {r : Rec} {low : Lw} {ops : Array Oper} {fr : Fr} {h : AH} {ks : List Kind} {fr' : Fr} {h' : AH} (e : drawV L r low ops ops.toList fr h = some (ks, fr', h')) :
    drawDynF ops ks = drawDyn ops ks := by
  obtain ⟨_, _, hlen, hpure⟩ := drawV_kinds e
  rw [Bool.eq_iff_iff, drawDyn_iff, drawDynF_iff]
  constructor
  · intro hd i j a b hlt h1 h2
    have hj : j < ops.toList.length := by have := (List.getElem?_eq_some_iff.1 h2).1; omega
    have hi : i < ops.toList.length := by omega
    have hoj : ops.toList[j]? = some ops.toList[j] := List.getElem?_eq_getElem hj
    have hoi : ops.toList[i]? = some ops.toList[i] := List.getElem?_eq_getElem hi
    cases hpj : pureOp ops.toList[j].op with
    | true => have := hpure j _ hoj hpj; rw [h2] at this; cases this; exact .inl (Kind.clash_pure a)
    | false =>
      cases hpi : pureOp ops.toList[i].op with
      | true => have := hpure i _ hoi hpi; rw [h1] at this; cases this; exact .inl rfl
      | false =>
        cases ha : ahead (masks ops.toList []) i j with
        | true => exact .inr rfl
        | false => exact .inl (hd i j _ _ hlt hoj hoi hpj hpi ha a b h1 h2)
  · intro hd i j o p hlt hj hi ho hp ha a b h1 h2
    rcases hd i j a b hlt h1 h2 with h | h
    · exact h
    · rw [ha] at h; cases h

end op
end Go.AM

namespace Go.AM

section op
variable {R : Type}

noncomputable def frK (fr : Fr) (h : AH) (k : Tr Value → List ADef → Option Nat → Nat → Tr AObj → R) : R :=
  Fr.rec (motive := fun _ => R) (fun env ds ro => Env.rec (motive := fun _ => R) (fun env => AH.rec (motive := fun _ => R) (fun next tr => k env ds ro next tr) h) env) fr
theorem frK_eq (fr : Fr) (h : AH) (k : Tr Value → List ADef → Option Nat → Nat → Tr AObj → R) : frK fr h k = k fr.env.tr fr.defers fr.round h.next h.tr := rfl

noncomputable def seqK (x : Option Out) (k : Fr → AH → Option Out) : Option Out :=
  Option.rec (motive := fun _ => Option Out) none (fun o => Out.rec (motive := fun _ => Option Out) (fun e fr h => AExit.rec (motive := fun _ => Option Out) (k fr h) (fun i => some ⟨.exit i, fr, h⟩) (fun l => some ⟨.goto l, fr, h⟩) (some ⟨.ret, fr, h⟩) e) o) x
theorem seqK_eq (x : Option Out) (k : Fr → AH → Option Out) : seqK x k = match x with
    | some ⟨.normal, fr, h⟩ => k fr h
    | o => o := by
  cases x with
  | none => rfl
  | some o => obtain ⟨e, fr, h⟩ := o; cases e <;> rfl

noncomputable def blockK (id : Nat) (x : Option Out) : Option Out :=
  Option.rec (motive := fun _ => Option Out) none (fun o => Out.rec (motive := fun _ => Option Out) (fun e fr h => AExit.rec (motive := fun _ => Option Out) (some ⟨.normal, fr, h⟩) (fun i => iteN (Nat.beq i id) (some ⟨.normal, fr, h⟩) (some ⟨.exit i, fr, h⟩)) (fun l => some ⟨.goto l, fr, h⟩) (some ⟨.ret, fr, h⟩) e) o) x
theorem blockK_eq (id : Nat) (x : Option Out) : blockK id x = match x with
    | some ⟨.exit i, fr, h⟩ => bif Nat.beq i id then some ⟨.normal, fr, h⟩ else some ⟨.exit i, fr, h⟩
    | o => o := by
  cases x with
  | none => rfl
  | some o =>
    obtain ⟨e, fr, h⟩ := o
    cases e with
    | exit i => exact iteN_eq _ _ _
    | _ => rfl

noncomputable def goFF (r : Rec) (low : Lw) (g : FuncId) (first cap : Array Value) (ps : Array Tmp) (assign body : Code) (env : Tr Value) (ds : List ADef) (ro : Option Nat) (next : Nat) (tr : Tr AObj) (dd : Nat) (dsn : List ADef) : Option Out :=
  appK (first.toList ++ [.func (.yield next) #[] #[]]) cap.toList fun args =>
  sP (pth next) tr (.loop ⟨⟨env⟩, ps, assign, body, .ready, none, dd⟩) fun tr =>
  fN (Nat.succ next) fun nx =>
  match r.call low g args ⟨nx, tr⟩ with
  | some (_, ⟨n1, t1⟩) => loopK n1 t1 next (fun y => match y.state with
      | .busy => none
      | _ => putLK t1 next y .exhausted fun t2 => iteN (low.ok next) (dsK dsn ds fun ds => match y.pending with
          | none => some ⟨.normal, ⟨⟨env⟩, ds, ro⟩, ⟨n1, t2⟩⟩
          | some .ret => some ⟨.ret, ⟨⟨env⟩, ds, ro⟩, ⟨n1, t2⟩⟩
          | some (.exit id) => some ⟨.exit id, ⟨⟨env⟩, ds, ro⟩, ⟨n1, t2⟩⟩
          | some (.goto t) => some ⟨.goto t, ⟨⟨env⟩, ds, ro⟩, ⟨n1, t2⟩⟩
          | some _ => none) none) none
  | none => none

theorem goFF_eq (r : Rec) (low : Lw) (g : FuncId) (first cap : Array Value) (ps : Array Tmp) (assign body : Code) (env : Tr Value) (ds : List ADef) (ro : Option Nat) (next : Nat) (tr : Tr AObj) (dd : Nat) (dsn : List ADef) :
    goFF r low g first cap ps assign body env ds ro next tr dd dsn = goV r low g first cap ps assign body ⟨⟨env⟩, ds, ro⟩ dd ⟨next, tr⟩ dsn := by
  unfold goFF goV
  rw [appK_eq, show pth next = pthF next next from rfl, sP_eq _ next next tr _ (Nat.le_refl _), fN_eq]
  show (match r.call low g (first.toList ++ [.func (.yield next) #[] #[]] ++ cap.toList) ⟨next + 1, tr.set next (.loop ⟨⟨env⟩, ps, assign, body, .ready, none, dd⟩)⟩ with | some (_, ⟨n1, t1⟩) => _ | none => none) = (match r.call low g (first.toList ++ [.func (.yield next) #[] #[]] ++ cap.toList) ⟨next + 1, tr.set next (.loop ⟨⟨env⟩, ps, assign, body, .ready, none, dd⟩)⟩ with | some (_, h1) => _ | none => none)
  generalize r.call low g (first.toList ++ [.func (.yield next) #[] #[]] ++ cap.toList) ⟨next + 1, tr.set next (.loop ⟨⟨env⟩, ps, assign, body, .ready, none, dd⟩)⟩ = x
  cases x with
  | none => rfl
  | some x =>
    obtain ⟨v, ⟨n1, t1⟩⟩ := x
    dsimp only
    rw [loopK_eq]
    cases (AH.mk n1 t1).get next with
    | none => rfl
    | some o =>
      cases o with
      | cells cs m ro => rfl
      | oth b => rfl
      | loop y =>
        dsimp only
        cases hst : y.state with
        | busy => rfl
        | _ =>
          simp only [putLK_eq, iteN_eq, dsK_eq]
          cases low.ok next with
          | false => rfl
          | true =>
            simp only [cond_true]
            cases y.pending with
            | none => rfl
            | some c => cases c <;> rfl

noncomputable def rangeFF (r : Rec) (low : Lw) (f : Operand) (ps : Array Tmp) (assign body : Code) (env : Tr Value) (ds : List ADef) (ro : Option Nat) (next : Nat) (tr : Tr AObj) : Option Out :=
  ev env (foOf f) fun fv => match fv with
  | .func (.func g) first cap => Option.rec (motive := fun _ => Option Out)
      (sP (pth next) tr (.oth (.dfr true)) fun tr => fN (Nat.succ next) fun nx => goFF r low g first cap ps assign body env ds ro nx tr next [.mark next])
      (fun l => loopK next tr l (fun y => fN y.dfr fun dd => goFF r low g first cap ps assign body env ds ro next tr dd []) none) ro
  | _ => none

theorem rangeFF_eq (r : Rec) (low : Lw) (f : Operand) (ps : Array Tmp) (assign body : Code) (env : Tr Value) (ds : List ADef) (ro : Option Nat) (next : Nat) (tr : Tr AObj) :
    rangeFF r low f ps assign body env ds ro next tr = rangeV r low f ps assign body ⟨⟨env⟩, ds, ro⟩ ⟨next, tr⟩ := by
  unfold rangeFF rangeV
  rw [ev_eq]
  dsimp only
  generalize (Env.mk env).eval f = fv
  cases fv
  case func fn first cap =>
    cases fn
    case func g =>
      dsimp only
      cases ro with
      | none =>
        show sP (pthF next next) tr (.oth (.dfr true)) _ = _
        rw [sP_eq _ next next tr _ (Nat.le_refl _), fN_eq, goFF_eq]; rfl
      | some l =>
        show loopK next tr l _ none = _
        rw [loopK_eq]
        dsimp only
        cases (AH.mk next tr).get l with
        | none => rfl
        | some o =>
          cases o with
          | cells cs m ro => rfl
          | oth b => rfl
          | loop y => dsimp only; rw [fN_eq, goFF_eq]
    all_goals rfl
  all_goals rfl

noncomputable def codeFF (p : Pr) (r : Rec) (low : Lw) (c : Code) (fr : Fr) (h : AH) : Option Out :=
  match c with
  | .region _ ops false => frK fr h fun env ds ro next tr => opsFF p.ty r low ro none (compL p.ty ops) env ds tr next fun env ds tr next => some ⟨.normal, ⟨⟨env⟩, ds, ro⟩, ⟨next, tr⟩⟩
  | .region _ ops true => frK fr h fun env ds ro next tr => drawFF p.ty r low ds ro none (compL p.ty ops) env tr next fun ks env tr next => iteN (drawDynF ops ks) (some ⟨.normal, ⟨⟨env⟩, ds, ro⟩, ⟨next, tr⟩⟩) none
  | .seq a b => seqK (r.code low a fr h) (r.code low b)
  | .cond c a b => frK fr h fun env _ _ _ _ => ev env (foOf c) fun v => boolK v (r.code low a fr h) (r.code low b fr h) none
  | .loop b => seqK (r.code low b fr h) (r.code low (.loop b))
  | .block id b => blockK id (r.code low b fr h)
  | .rangeFunc f ps assign body => frK fr h fun env ds ro next tr => rangeFF r low f ps assign body env ds ro next tr
  | c => codeV p r low c fr h

theorem codeFF_eq (p : Pr) (r : Rec) (low : Lw) (c : Code) (fr : Fr) (h : AH) : codeFF p r low c fr h = codeV p r low c fr h := by
  obtain ⟨⟨env⟩, ds, ro⟩ := fr
  obtain ⟨next, tr⟩ := h
  cases c
  case region a ops b =>
    cases b with
    | false =>
      show opsFF p.ty r low ro none (ops.toList.map (compOper p.ty ops)) env ds tr next _ = _
      rw [opsFF_eq]
      unfold codeV
      dsimp only
      cases ho : opsV p.ty r low ops ops.toList ⟨⟨env⟩, ds, ro⟩ ⟨next, tr⟩ with
      | none => rfl
      | some x =>
        obtain ⟨fr', h'⟩ := x
        have := opsV_round ho
        dsimp only
        obtain ⟨⟨env'⟩, ds', ro'⟩ := fr'
        simp only at this
        subst this; rfl
    | true =>
      show drawFF p.ty r low ds ro none (ops.toList.map (compOper p.ty ops)) env tr next _ = _
      rw [drawFF_eq]
      unfold codeV
      dsimp only
      cases ho : drawV p.ty r low ops ops.toList ⟨⟨env⟩, ds, ro⟩ ⟨next, tr⟩ with
      | none => rfl
      | some x =>
        obtain ⟨ks, fr', h'⟩ := x
        obtain ⟨h1, h2, _, _⟩ := drawV_kinds ho
        dsimp only
        rw [drawDynF_eq ho, iteN_eq]
        obtain ⟨⟨env'⟩, ds', ro'⟩ := fr'
        simp only at h1 h2
        subst h1 h2; rfl
  case seq a b => exact seqK_eq _ _
  case cond c a b =>
    show ev env (foOf c) (fun v => boolK v (r.code low a ⟨⟨env⟩, ds, ro⟩ ⟨next, tr⟩) (r.code low b ⟨⟨env⟩, ds, ro⟩ ⟨next, tr⟩) none) = _
    rw [ev_eq]
    unfold codeV
    dsimp only
    generalize (Env.mk env).eval c = v
    unfold boolK
    cases v <;> try rfl
    rename_i b'
    cases b' <;> rfl
  case loop b => exact seqK_eq _ _
  case block id b => exact blockK_eq _ _
  case rangeFunc f ps a b => exact rangeFF_eq r low f ps a b env ds ro next tr
  all_goals rfl

/-! calls -/
noncomputable def defersFF (r : Rec) (low : Lw) (ds : List ADef) : AH → Option AH :=
  List.rec (motive := fun _ => AH → Option AH) (fun h => some h) (fun a _ ih h => match a with
    | .call f args => match r.call low f args h with
      | some (_, h) => ih h
      | none => none
    | .mark d => AH.rec (motive := fun _ => Option AH) (fun next tr => match (AH.mk next tr).get d with
      | some (.oth (.dfr true)) => iteN (low.ok d) (sP (pth d) tr (.oth (.dfr false)) fun tr => ih ⟨next, tr⟩) none
      | _ => none) h) ds
theorem defersFF_eq (r : Rec) (low : Lw) : ∀ (ds : List ADef) (h : AH), defersFF r low ds h = defersV r low ds h
  | [], h => rfl
  | .call f args :: ds, h => by
    show (match r.call low f args h with | some (_, h) => defersFF r low ds h | none => none) = _
    unfold defersV
    cases r.call low f args h with
    | none => rfl
    | some x => exact defersFF_eq r low ds _
  | .mark d :: ds, ⟨next, tr⟩ => by
    show (match (AH.mk next tr).get d with | some (.oth (.dfr true)) => iteN (low.ok d) (sP (pthF d d) tr (.oth (.dfr false)) fun tr => defersFF r low ds ⟨next, tr⟩) none | _ => none) = _
    unfold defersV
    cases (AH.mk next tr).get d with
    | none => rfl
    | some o =>
      cases o with
      | cells cs m ro => rfl
      | loop y => rfl
      | oth x =>
        cases x with
        | map e c => rfl
        | iter a b c d => rfl
        | dfr b =>
        cases b with
        | false => rfl
        | true =>
          dsimp only
          rw [iteN_eq, sP_eq _ d d tr _ (Nat.le_refl _)]
          cases low.ok d with
          | false => rfl
          | true => exact defersFF_eq r low ds _

noncomputable def argsK (vs : List Value) : Nat → Tr Value → (Tr Value → R) → R :=
  List.rec (motive := fun _ => Nat → Tr Value → (Tr Value → R) → R) (fun _ e k => k e) (fun v _ ih i e k => sP (pth i) e v fun e => fN (Nat.succ i) fun j => ih j e k) vs
theorem argsK_eq : ∀ (vs : List Value) (i : Nat) (e : Tr Value) (k : Tr Value → R), argsK vs i e k = k (Env.ofArgs i vs ⟨e⟩).tr
  | [], i, e, k => rfl
  | v :: vs, i, e, k => by
    show sP (pthF i i) e v _ = _
    rw [sP_eq _ i i e _ (Nat.le_refl _), fN_eq]
    exact argsK_eq vs _ _ k

noncomputable def resultsK (L : Ty) (env : Tr Value) (h : AH) (d : R) (rs : List ResultVar) : (List Value → R) → R :=
  List.rec (motive := fun _ => (List Value → R) → R) (fun k => k []) (fun v _ ih k => match v with
    | .tmp t => ev env (.t (pth t)) fun v => ih fun vs => k (v :: vs)
    | .cell a t => ev env (.t (pth a)) fun v => ptrK v (fun a => Option.rec (motive := fun _ => R) d (fun v => fV v fun v => ih fun vs => k (v :: vs)) (loadT L h t a)) d) rs
theorem resultsK_eq (L : Ty) (env : Tr Value) (h : AH) (d : R) : ∀ (rs : List ResultVar) (k : List Value → R), resultsK L env h d rs k = (resultsV L ⟨env⟩ h rs).elim d k
  | [], k => rfl
  | .tmp t :: rs, k => by
    show ev env (foOf (.tmp t)) (fun v => resultsK L env h d rs fun vs => k (v :: vs)) = _
    rw [ev_eq, resultsK_eq L env h d rs]
    conv => rhs; unfold resultsV
    cases resultsV L ⟨env⟩ h rs <;> rfl
  | .cell a t :: rs, k => by
    show ev env (foOf (.tmp a)) (fun v => ptrK v (fun a => Option.rec (motive := fun _ => R) d (fun v => fV v fun v => resultsK L env h d rs fun vs => k (v :: vs)) (loadT L h t a)) d) = _
    rw [ev_eq]
    conv => rhs; unfold resultsV
    show ptrK ((Env.mk env).get a) _ d = _
    generalize (Env.mk env).get a = v
    unfold ptrK
    cases v <;> try rfl
    rename_i p
    cases p with
    | none => rfl
    | some a =>
      dsimp only [ptrK_y, ptrK_s]
      cases loadT L h t a with
      | none => rfl
      | some v =>
        dsimp only
        rw [fV_eq, resultsK_eq L env h d rs]
        cases resultsV L ⟨env⟩ h rs <;> rfl

noncomputable def endFF (p : Pr) (r : Rec) (low : Lw) (rs : List ResultVar) (fr : Fr) (h : AH) : Option (Value × AH) :=
  Option.rec (motive := fun _ => Option (Value × AH)) none (fun h => resultsK p.ty fr.env.tr h none rs fun vs => some (match vs with
    | [v] => v
    | vs => .tuple ⟨vs⟩, h)) (defersFF r low fr.defers h)

noncomputable def callFF (p : Pr) (r : Rec) (low : Lw) (f : FuncId) (args : List Value) (h : AH) : Option (Value × AH) :=
  match p.nat f with
  | some g => g r low args h
  | none => match p.fn f with
    | some fn => match fn.body with
      | some c => argsK args 0 .leaf fun env => Option.rec (motive := fun _ => Option (Value × AH)) none (fun o => Out.rec (motive := fun _ => Option (Value × AH)) (fun e fr h =>
          AExit.rec (motive := fun _ => Option (Value × AH)) (endFF p r low fn.results.toList fr h) (fun _ => none) (fun _ => none) (endFF p r low fn.results.toList fr h) e) o) (r.code low c ⟨⟨env⟩, [], none⟩ h)
      | none => none
    | none => none

theorem endFF_eq (p : Pr) (r : Rec) (low : Lw) (rs : List ResultVar) (fr : Fr) (h : AH) :
    endFF p r low rs fr h = match defersV r low fr.defers h with
      | some h => (resultsV p.ty fr.env h rs).map fun vs => (oneOrTuple vs, h)
      | none => none := by
  unfold endFF
  rw [defersFF_eq]
  cases defersV r low fr.defers h with
  | none => rfl
  | some h' =>
    dsimp only
    rw [resultsK_eq]
    show (resultsV p.ty fr.env h' rs).elim none _ = _
    cases resultsV p.ty fr.env h' rs with
    | none => rfl
    | some vs =>
      simp only [Option.elim_some, Option.map_some]
      congr 2

theorem callFF_eq (p : Pr) (r : Rec) (low : Lw) (f : FuncId) (args : List Value) (h : AH) : callFF p r low f args h = callV p r low f args h := by
  unfold callFF callV
  cases p.nat f with
  | some g => rfl
  | none =>
    cases p.fn f with
    | none => rfl
    | some fn =>
      dsimp only
      cases fn.body with
      | none => rfl
      | some c =>
        dsimp only
        rw [argsK_eq]
        show Option.rec (motive := fun _ => Option (Value × AH)) none _ (r.code low c ⟨Env.ofArgs 0 args Env.empty, [], none⟩ h) = _
        generalize r.code low c ⟨Env.ofArgs 0 args Env.empty, [], none⟩ h = x
        cases x with
        | none => rfl
        | some o =>
          obtain ⟨e, fr, h'⟩ := o
          cases e with
          | exit i => rfl
          | goto i => rfl
          | normal => exact endFF_eq _ _ _ _ _ _
          | ret => exact endFF_eq _ _ _ _ _ _

noncomputable def recFF (p : Pr) (n : Nat) : Rec := Nat.rec Rec.none (fun _ r => ⟨codeFF p r, withinV r, callFF p r⟩) n

theorem recFF_eq (p : Pr) : ∀ n, recFF p n = recN p n
  | 0 => rfl
  | n + 1 => by
    show (⟨codeFF p (recFF p n), withinV (recFF p n), callFF p (recFF p n)⟩ : Rec) = stepRec p (recN p n)
    rw [recFF_eq p n]
    unfold stepRec
    congr 1
    · funext low c fr h
      exact codeFF_eq p _ low c fr h
    · funext low f args h
      exact callFF_eq p _ low f args h

end op
end Go.AM

namespace Go.AM
variable {P : Program}

/-- Code that ends in a panic: with what value; the frame then; the heap. -/
structure POut where
  v : Value
  fr : Fr
  h : AH

structure PRec where
  code : (low : Lw) → Code → Fr → AH → Option POut
  within : (low : Lw) → (body : Code) → Code → Fr → AH → Option POut
  call : (low : Lw) → FuncId → List Value → AH → Option (Value × AH)

noncomputable def opP (L : Ty) (q : PRec) (low : Lw) (fr : Fr) (h : AH) (o : Oper) : Option (Value × AH) := match o.op with
  | .panic x => match fr.env.eval x with
    | .iface t v => some (.iface t v, h)
    | _ => none
  | .call c => match aop L low fr.env.eval h (.call c) with
    | some (.call f args) => q.call low f args h
    | _ => none
  | _ => none

noncomputable def opsP (L : Ty) (r : Rec) (q : PRec) (low : Lw) (ops : Array Oper) : List Oper → Fr → AH → Option POut
  | [], _, _ => none
  | o :: rest, fr, h =>
    bif guardV ops fr.env o then
      match opV L r low fr h o with
      | some (v, h, ds) => opsP L r q low ops rest { fr with env := fr.env.put o.dst v, defers := ds ++ fr.defers } h
      | none => match opP L q low fr h o with
        | some (v, h) => some ⟨v, fr, h⟩
        | none => none
    else opsP L r q low ops rest { fr with env := fr.env.put o.dst undef } h

noncomputable def pcodeV (L : Ty) (r : Rec) (q : PRec) (low : Lw) (c : Code) (fr : Fr) (h : AH) : Option POut := match c with
  | .region _ ops false => opsP L r q low ops ops.toList fr h
  | .seq a b => match r.code low a fr h with
    | some ⟨.normal, fr, h⟩ => q.code low b fr h
    | some _ => none
    | none => q.code low a fr h
  | .cond c a b => match fr.env.eval c with
    | .bool true => q.code low a fr h
    | .bool false => q.code low b fr h
    | _ => none
  | .block _ b => q.code low b fr h
  | .loop b => match r.code low b fr h with
    | some ⟨.normal, fr, h⟩ => q.code low (.loop b) fr h
    | some _ => none
    | none => q.code low b fr h
  | .scope b => q.within low b b fr h
  | _ => none

noncomputable def pwithinV (r : Rec) (q : PRec) (low : Lw) (body c : Code) (fr : Fr) (h : AH) : Option POut := match r.code low c fr h with
  | some ⟨.goto l, fr, h⟩ => match findLabel body l with
    | some rest => q.within low body rest fr h
    | none => none
  | some _ => none
  | none => q.code low c fr h

noncomputable def pcallV (fns : FuncId → Option Func) (q : PRec) (low : Lw) (f : FuncId) (args : List Value) (h : AH) : Option (Value × AH) := match fns f with
  | some fn => match fn.body with
    | some c => match q.code low c ⟨Env.ofArgs 0 args Env.empty, [], none⟩ h with
      | some ⟨v, fr, h⟩ => match fr.defers with
        | [] => some (v, h)
        | _ => none
      | none => none
    | none => none
  | none => none

noncomputable def pRecN (L : Ty) (fns : FuncId → Option Func) (r : Rec) : Nat → PRec
  | 0 => ⟨fun _ _ _ _ => none, fun _ _ _ _ _ => none, fun _ _ _ _ => none⟩
  | n + 1 => ⟨pcodeV L r (pRecN L fns r n), pwithinV r (pRecN L fns r n), pcallV fns (pRecN L fns r n)⟩

/-! ### what it means -/
def PPost (low : Lw) (μ : Mu) (w : World) (out : POut) (sz : Nat) : Exit → Act → World → Prop := fun e a' w' =>
  ∃ c μ', e = .panic [{ v := c, recovered := false }] ∧ Step low μ μ' w w' ∧ St μ' out.fr out.h a' w' ∧ VRel μ' out.v c ∧ a'.tmps.size = sz

theorem PPost.step {low : Lw} {μ μ1 : Mu} {w w1 : World} {out : POut} {sz : Nat} {e : Exit} {a : Act} {w' : World} (h : PPost low μ1 w1 out sz e a w') (k : Step low μ μ1 w w1) : PPost low μ w out sz e a w' := by
  obtain ⟨c, μ', h1, h2, h3, h4, h5⟩ := h
  exact ⟨c, μ', h1, k.trans h2, h3, h4, h5⟩

def PGives (P : Program) (low : Lw) (fr : Fr) (h : AH) (out : POut) (ok : Nat → Prop) (W : Fence → Nat → (Exit → Act → World → Prop) → Act → World → Prop) : Prop :=
  AKept low h out.h ∧ out.fr.round = fr.round ∧
    ∀ N F n μ w a, ok N → Wd F → RoundRel μ fr.round F.round → St μ fr h a w → N ≤ a.tmps.size → W F n (PPost low μ w out a.tmps.size) a w

structure PSim (P : Program) (q : PRec) : Prop where
  loop : ∀ low c fr h out, q.code low (.loop c) fr h = some out → low.le h.next →
    ∀ N F n μ w a, codeOk N c = true → Wd F → RoundRel μ fr.round F.round → St μ fr h a w → N ≤ a.tmps.size → wpLoop F n P c (PPost low μ w out a.tmps.size) a w
  code : ∀ low c fr h out, q.code low c fr h = some out → low.le h.next → PGives P low fr h out (fun N => codeOk N c = true) fun F n Q a w => c.wpIn F n P Q a w
  within : ∀ low body c fr h out, q.within low body c fr h = some out → low.le h.next → PGives P low fr h out (fun N => codeOk N body = true ∧ codeOk N c = true) fun F n Q a w => wpWithin F n P body c Q a w
  call : ∀ low f args h v h', q.call low f args h = some (v, h') → low.le h.next → Callable P f ∧ AKept low h h' ∧
    ∀ F n μ w cs, Wd F → Rel μ h w → VsRel μ args cs → CallsIn F n P f ⟨cs⟩ w fun e w' => ∃ c μ', e = .panicked [{ v := c, recovered := false }] ∧ Step low μ μ' w w' ∧ Rel μ' h' w' ∧ VRel μ' v c

section
variable {L : Ty} (hL : L.Ok P) {r : Rec} (hsim : SimRec P r) {q : PRec} (hq : PSim P q)
include hL hsim hq

theorem opP_sim {low : Lw} {fr : Fr} {h h' : AH} {o : Oper} {v : Value} (he : opP L q low fr h o = some (v, h')) (hlow : low.le h.next) (hok : opOk o.op = true) :
    AKept low h h' ∧ ∀ (F : Fence) n μ w a (next : Act → World → Prop) (Q : Exit → Act → World → Prop), Wd F → Rel μ h w → (∀ x ∈ o.op.operands.toList, VRel μ (fr.env.eval x) (a.eval x)) →
      (∀ μ' w' c, Step low μ μ' w w' → Rel μ' h' w' → VRel μ' v c → Q (.panic [{ v := c, recovered := false }]) a w') → o.wpIn F n P a w next Q := by
  obtain ⟨dst, op, ty, ps, after, guard⟩ := o
  unfold opP at he
  dsimp only at he hok ⊢
  split at he
  · rename_i x
    split at he
    case h_2 => cases he
    rename_i t u hx
    cases he
    refine ⟨.refl _ _, fun F n μ w a next Q hF hr hR hk => ⟨fun f _ => hF.fn f, ?_⟩⟩
    rw [Oper.semAt_eq _ _ _ (fun c h => by cases h)]
    have hv := hR x (by simp [Op.operands])
    rw [hx] at hv
    generalize hs : a.eval x = cv at hv
    cases hv with | iface _ hu =>
    rename_i cu
    have : (execOp a.eval ⟨dst, .panic x, ty, ps, after, guard⟩).run P w = .halt (.panic (.iface t cu)) w := by
      have hp : (Instr.panic (.iface t cu)).run P w = .halt (.panic (.iface t cu)) w := rfl
      simp [execOp, hs, hp]
    rw [this, Oper.uponIn_panic]
    exact hk μ w _ (.refl _ _ _) hr (.iface _ hu)
  · rename_i c
    split at he
    case h_2 => cases he
    rename_i f args ha
    obtain ⟨c1, c2, c3⟩ := hq.call _ _ _ _ _ _ he hlow
    refine ⟨c2, fun F n μ w a next Q hF hr hR hk => ⟨fun f _ => hF.fn f, ?_⟩⟩
    rw [Oper.semAt_eq _ _ _ (fun c h => by cases h)]
    obtain ⟨cs, h1, h2⟩ := aop_sound hL hr hlow (o := ⟨dst, .call c, ty, ps, after, guard⟩) hok hR ha
    rw [h2 c1, Oper.uponIn_enter]
    refine ⟨hF.one, (c3 F (n - 1) μ w cs hF hr h1).mono ?_⟩
    rintro e w' ⟨cv, μ', rfl, q1, q2, q3⟩
    exact hk μ' w' cv q1 q2 q3
  · cases he

theorem opsP_sim {low : Lw} {N : Nat} {ops : Array Oper} : ∀ (rest : List Oper) (i : Nat) (fr : Fr) (h : AH) (out : POut), ops.toList.drop i = rest → rest.all (operOk N) = true →
    opsP L r q low ops rest fr h = some out → low.le h.next → AKept low h out.h ∧ out.fr.round = fr.round ∧
      ∀ (F : Fence) n μ w a (Q : Exit → Act → World → Prop), Wd F → RoundRel μ fr.round F.round → St μ fr h a w → N ≤ a.tmps.size →
        (∀ c μ' a' w', Step low μ μ' w w' → St μ' out.fr out.h a' w' → VRel μ' out.v c → a'.tmps.size = a.tmps.size → Q (.panic [{ v := c, recovered := false }]) a' w') → wpOpsIn F n P ops Q (List.range' i rest.length) a w
  | [], i, fr, h, out, _, _, he, _ => by simp [opsP] at he
  | o :: rest, i, fr, h, out, hd, hok, he, hlow => by
    simp only [List.all_cons, Bool.and_eq_true] at hok
    have hio : ops[i]? = some o := by
      have : (ops.toList.drop i)[0]? = some o := by rw [hd]; rfl
      simpa using this
    have hd' : ops.toList.drop (i + 1) = rest := by
      have : (ops.toList.drop i).drop 1 = rest := by rw [hd]; rfl
      simpa [List.drop_drop] using this
    have hdst : ∀ {a : Act}, N ≤ a.tmps.size → ∀ t, o.dst = some t → t < a.tmps.size := fun hN t ht => Nat.lt_of_lt_of_le (dst_lt hok.1 ht) hN
    have hopk : opOk o.op = true := by have := hok.1; unfold operOk at this; simp only [Bool.and_eq_true] at this; exact this.1
    unfold opsP at he
    cases hg : guardV ops fr.env o with
    | true =>
      rw [hg] at he
      simp only [cond_true] at he
      cases ho : opV L r low fr h o with
      | some x =>
        obtain ⟨v, h1, ds⟩ := x
        rw [ho] at he
        dsimp only at he
        obtain ⟨k1, k2, k3⟩ := opV_sim hL hsim ho hlow hopk
        obtain ⟨r1, r2, r3⟩ := opsP_sim (N := N) rest (i + 1) _ _ _ hd' hok.2 he (Lw.le.mono hlow k1.next)
        refine ⟨k1.trans r1, r2, fun F n μ w a Q hF hro hst hN hQ => ?_⟩
        rw [List.length_cons, List.range'_succ]
        simp only [wpOpsIn, hio]
        rw [← guard_eq hst.env ops o, hg]
        simp only [if_true]
        refine k3 F n μ w a _ _ hF hro hst.rel (fun x hx => eval_rel hst.env x (opOk_opd hopk hx)) fun μ' w' c dc q1 q2 q3 q4 => ?_
        refine r3 F n μ' w' _ Q hF (hro.mono q1.sub) ⟨q2, ?_, ?_⟩ (by rw [put_size]; exact hN) fun c μ'' a'' w'' s1 s2 s4 s3 => hQ c μ'' a'' w'' (q1.trans s1) s2 s4 (by rw [s3, put_size])
        · exact EnvRel.put (a := { a with defers := dc ++ a.defers }) (hst.env.mono q1.sub) (hdst hN) q3
        · rw [put_defers']; exact q4.append (hst.defs.mono q1.sub)
      | none =>
        rw [ho] at he
        dsimp only at he
        cases hp : opP L q low fr h o with
        | none => rw [hp] at he; cases he
        | some x =>
          obtain ⟨v, h1⟩ := x
          rw [hp] at he
          cases he
          obtain ⟨k1, k2⟩ := opP_sim hL hsim hq hp hlow hopk
          refine ⟨k1, rfl, fun F n μ w a Q hF hro hst hN hQ => ?_⟩
          rw [List.length_cons, List.range'_succ]
          simp only [wpOpsIn, hio]
          rw [← guard_eq hst.env ops o, hg]
          simp only [if_true]
          exact k2 F n μ w a _ _ hF hst.rel (fun x hx => eval_rel hst.env x (opOk_opd hopk hx)) fun μ' w' c q1 q2 q3 => hQ c μ' a w' q1 ⟨q2, hst.env.mono q1.sub, hst.defs.mono q1.sub⟩ q3 rfl
    | false =>
      rw [hg] at he
      simp only [cond_false] at he
      obtain ⟨r1, r2, r3⟩ := opsP_sim (N := N) rest (i + 1) _ _ _ hd' hok.2 he hlow
      refine ⟨r1, r2, fun F n μ w a Q hF hro hst hN hQ => ?_⟩
      rw [List.length_cons, List.range'_succ]
      simp only [wpOpsIn, hio]
      rw [← guard_eq hst.env ops o, hg]
      simp only [Bool.false_eq_true, if_false]
      refine ⟨fun f _ => hF.fn f, r3 F n μ w _ Q hF hro ⟨hst.rel, EnvRel.put hst.env (hdst hN) .undef, ?_⟩ (by rw [put_size]; exact hN) fun c μ'' a'' w'' s1 s2 s4 s3 => hQ c μ'' a'' w'' s1 s2 s4 (by rw [s3, put_size])⟩
      rw [put_defers']; exact hst.defs

theorem opP_kept {low : Lw} {fr : Fr} {h h' : AH} {o : Oper} {v : Value} (he : opP L q low fr h o = some (v, h')) (hlow : low.le h.next) : AKept low h h' := by
  unfold opP at he
  split at he
  · split at he
    · cases he; exact .refl _ _
    · cases he
  · split at he
    · exact (hq.call _ _ _ _ _ _ he hlow).2.1
    · cases he
  · cases he

theorem opsP_kept {low : Lw} {ops : Array Oper} : ∀ (rest : List Oper) (fr : Fr) (h : AH) (out : POut), opsP L r q low ops rest fr h = some out → low.le h.next → AKept low h out.h ∧ out.fr.round = fr.round
  | [], fr, h, out, he, _ => by simp [opsP] at he
  | o :: rest, fr, h, out, he, hlow => by
    unfold opsP at he
    cases hg : guardV ops fr.env o with
    | true =>
      rw [hg] at he
      simp only [cond_true] at he
      cases ho : opV L r low fr h o with
      | some x =>
        obtain ⟨v, h1, ds⟩ := x
        rw [ho] at he
        dsimp only at he
        have k1 := opV_kept hsim ho hlow
        obtain ⟨r1, r2⟩ := opsP_kept rest _ _ _ he (Lw.le.mono hlow k1.next)
        exact ⟨k1.trans r1, r2⟩
      | none =>
        rw [ho] at he
        dsimp only at he
        cases hp : opP L q low fr h o with
        | none => rw [hp] at he; cases he
        | some x =>
          obtain ⟨v, h1⟩ := x
          rw [hp] at he
          cases he
          exact ⟨opP_kept hL hsim hq hp hlow, rfl⟩
    | false =>
      rw [hg] at he
      simp only [cond_false] at he
      have := opsP_kept rest _ _ _ he hlow
      exact this

theorem pseq_sim {low : Lw} {c d : Code} {fr : Fr} {h : AH} {out : POut} (he : pcodeV L r q low (.seq c d) fr h = some out) (hlow : low.le h.next) :
    PGives P low fr h out (fun N => codeOk N (.seq c d) = true) fun F n Q a w => (Code.seq c d).wpIn F n P Q a w := by
  simp only [pcodeV] at he
  cases h1 : r.code low c fr h with
  | none =>
    rw [h1] at he
    dsimp only at he
    obtain ⟨a1, a2, a3⟩ := hq.code _ _ _ _ _ he hlow
    refine ⟨a1, a2, fun N F n μ w a hok hF hro hst hN => wpIn_seq ?_⟩
    simp only [codeOk, Bool.and_eq_true] at hok
    refine wpIn_mono (a3 N F n μ w a hok.1 hF hro hst hN) fun e a' w' hx => ?_
    obtain ⟨cv, μ', rfl, hrest⟩ := hx
    exact ⟨cv, μ', rfl, hrest⟩
  | some o =>
    obtain ⟨ex, fr1, h1'⟩ := o
    obtain ⟨a1, a2, a3⟩ := hsim.code _ _ _ _ _ h1 hlow
    rw [h1] at he
    cases ex with
    | normal =>
      dsimp only at he
      obtain ⟨b1, b2, b3⟩ := hq.code _ _ _ _ _ he (Lw.le.mono hlow a1.next)
      refine ⟨a1.trans b1, b2.trans a2, fun N F n μ w a hok hF hro hst hN => wpIn_seq ?_⟩
      simp only [codeOk, Bool.and_eq_true] at hok
      refine wpIn_mono (a3 N F n μ w a hok.1 hF hro hst hN) fun e a' w' ⟨he', μ1, q1, q2, q3⟩ => ?_
      cases he'
      refine wpIn_mono (b3 N F n μ1 w' a' hok.2 hF (by rw [show fr1.round = fr.round from a2]; exact hro.mono q1.sub) q2 (by omega)) fun e a'' w'' hx => ?_
      rw [q3] at hx
      exact hx.step q1
    | exit i => cases he
    | goto l => cases he
    | ret => cases he

theorem pcond_sim {low : Lw} {x : Operand} {c d : Code} {fr : Fr} {h : AH} {out : POut} (he : pcodeV L r q low (.cond x c d) fr h = some out) (hlow : low.le h.next) :
    PGives P low fr h out (fun N => codeOk N (.cond x c d) = true) fun F n Q a w => (Code.cond x c d).wpIn F n P Q a w := by
  simp only [pcodeV] at he
  split at he
  · rename_i hb
    obtain ⟨a1, a2, a3⟩ := hq.code _ _ _ _ _ he hlow
    refine ⟨a1, a2, fun N F n μ w a hok hF hro hst hN => ?_⟩
    simp only [codeOk, Bool.and_eq_true] at hok
    have hv := eval_rel hst.env x hok.1.1
    rw [hb] at hv
    generalize hs : a.eval x = u at hv
    cases hv
    exact wpIn_cond_true hs (a3 N F n μ w a hok.1.2 hF hro hst hN)
  · rename_i hb
    obtain ⟨a1, a2, a3⟩ := hq.code _ _ _ _ _ he hlow
    refine ⟨a1, a2, fun N F n μ w a hok hF hro hst hN => ?_⟩
    simp only [codeOk, Bool.and_eq_true] at hok
    have hv := eval_rel hst.env x hok.1.1
    rw [hb] at hv
    generalize hs : a.eval x = u at hv
    cases hv
    exact wpIn_cond_false hs (a3 N F n μ w a hok.2 hF hro hst hN)
  · cases he

theorem pblock_sim {low : Lw} {id : Nat} {c : Code} {fr : Fr} {h : AH} {out : POut} (he : pcodeV L r q low (.block id c) fr h = some out) (hlow : low.le h.next) :
    PGives P low fr h out (fun N => codeOk N (.block id c) = true) fun F n Q a w => (Code.block id c).wpIn F n P Q a w := by
  simp only [pcodeV] at he
  obtain ⟨a1, a2, a3⟩ := hq.code _ _ _ _ _ he hlow
  refine ⟨a1, a2, fun N F n μ w a hok hF hro hst hN => wpIn_block ?_⟩
  simp only [codeOk] at hok
  refine wpIn_mono (a3 N F n μ w a hok hF hro hst hN) fun e a' w' hx => ?_
  obtain ⟨cv, μ', rfl, hrest⟩ := hx
  exact ⟨cv, μ', rfl, hrest⟩

theorem ploop_round {low : Lw} {c : Code} {fr : Fr} {h : AH} {out : POut} (he : pcodeV L r q low (.loop c) fr h = some out) (hlow : low.le h.next) :
    PGives P low fr h out (fun N => codeOk N c = true) fun F n Q a w => wpLoop F n P c Q a w := by
  simp only [pcodeV] at he
  cases h1 : r.code low c fr h with
  | none =>
    rw [h1] at he
    dsimp only at he
    obtain ⟨a1, a2, a3⟩ := hq.code _ _ _ _ _ he hlow
    refine ⟨a1, a2, fun N F n μ w a hok hF hro hst hN b k cs hb0 hb hr => ?_⟩
    obtain ⟨e, a', w', hx, harr⟩ := a3 N F n μ w a hok hF hro hst hN b (.inLoop c :: k) cs hb0 hb hr
    refine ⟨e, a', w', hx, .pass (x := .inLoop c) rfl (fun _ _ => .inl ?_) harr⟩
    obtain ⟨cv, μ', rfl, _⟩ := hx
    simp
  | some o =>
    obtain ⟨ex, fr1, h1'⟩ := o
    obtain ⟨a1, a2, a3⟩ := hsim.code _ _ _ _ _ h1 hlow
    rw [h1] at he
    cases ex with
    | normal =>
      dsimp only at he
      obtain ⟨b1, b2, _⟩ := hq.code _ _ _ _ _ he (Lw.le.mono hlow a1.next)
      have b3 := hq.loop _ _ _ _ _ he (Lw.le.mono hlow a1.next)
      refine ⟨a1.trans b1, b2.trans a2, fun N F n μ w a hok hF hro hst hN b k cs hb0 hb hr => ?_⟩
      obtain ⟨e, a', w', ⟨he', μ1, q1, q2, q3⟩, harr⟩ := a3 N F n μ w a hok hF hro hst hN b (.inLoop c :: k) cs hb0 hb hr
      cases he'
      obtain ⟨e2, a2', w2, hx, harr2⟩ := b3 N F n μ1 w' a' hok hF (by rw [show fr1.round = fr.round from a2]; exact hro.mono q1.sub) q2 (by omega) b k cs hb0 hb hr
      rw [q3] at hx
      exact ⟨e2, a2', w2, hx.step q1, .of_steps (StepsIn.trans harr (.one (fenced_calm hb hr rfl) stepR_inLoop)) harr2⟩
    | exit i => cases he
    | goto l => cases he
    | ret => cases he

theorem pwithin_sim {low : Lw} {body c : Code} {fr : Fr} {h : AH} {out : POut} (he : pwithinV r q low body c fr h = some out) (hlow : low.le h.next) :
    PGives P low fr h out (fun N => codeOk N body = true ∧ codeOk N c = true) fun F n Q a w => wpWithin F n P body c Q a w := by
  unfold pwithinV at he
  cases h1 : r.code low c fr h with
  | none =>
    rw [h1] at he
    dsimp only at he
    obtain ⟨a1, a2, a3⟩ := hq.code _ _ _ _ _ he hlow
    refine ⟨a1, a2, fun N F n μ w a hok hF hro hst hN b k cs hb0 hb hr => ?_⟩
    obtain ⟨e, a', w', hx, harr⟩ := a3 N F n μ w a hok.2 hF hro hst hN b (.inScope body :: k) cs hb0 hb hr
    refine ⟨e, a', w', hx, ?_⟩
    obtain ⟨cv, μ', rfl, _⟩ := hx
    exact harr
  | some o =>
    obtain ⟨ex, fr1, h1'⟩ := o
    obtain ⟨a1, a2, a3⟩ := hsim.code _ _ _ _ _ h1 hlow
    rw [h1] at he
    cases ex with
    | normal => cases he
    | exit i => cases he
    | ret => cases he
    | goto l =>
      dsimp only at he
      cases hf : findLabel body l with
      | none => rw [hf] at he; cases he
      | some rest =>
        rw [hf] at he
        dsimp only at he
        obtain ⟨b1, b2, b3⟩ := hq.within _ _ _ _ _ _ he (Lw.le.mono hlow a1.next)
        refine ⟨a1.trans b1, b2.trans a2, fun N F n μ w a hok hF hro hst hN b k cs hb0 hb hr => ?_⟩
        obtain ⟨e, a', w', ⟨he', μ1, q1, q2, q3⟩, harr⟩ := a3 N F n μ w a hok.2 hF hro hst hN b (.inScope body :: k) cs hb0 hb hr
        cases he'
        obtain ⟨e2, a2', w2, hx, harr2⟩ := b3 N F n μ1 w' a' ⟨hok.1, findLabel_ok hok.1 hf⟩ hF (by rw [show fr1.round = fr.round from a2]; exact hro.mono q1.sub) q2 (by omega) b k cs hb0 hb hr
        rw [q3] at hx
        exact ⟨e2, a2', w2, hx.step q1, .of_steps (harr.1 (.code rest :: .inScope body :: k) (by simp [gotoIn, hf])) harr2⟩

theorem pcode_sim {low : Lw} {c : Code} {fr : Fr} {h : AH} {out : POut} (he : pcodeV L r q low c fr h = some out) (hlow : low.le h.next) :
    PGives P low fr h out (fun N => codeOk N c = true) fun F n Q a w => c.wpIn F n P Q a w := by
  cases c with
  | region id ops d =>
    cases d with
    | true => simp [pcodeV] at he
    | false =>
      simp only [pcodeV] at he
      obtain ⟨z1, z2⟩ := opsP_kept hL hsim hq _ _ _ _ he hlow
      refine ⟨z1, z2, fun N F n μ w a hok hF hro hst hN => wpIn_region ?_⟩
      · simp only [codeOk, Bool.and_eq_true] at hok
        obtain ⟨_, _, k3⟩ := opsP_sim hL hsim hq ops.toList 0 fr h out (by simp) hok.1 he hlow
        have := k3 F n μ w a (PPost low μ w out a.tmps.size) hF hro hst hN fun c μ' a' w' q1 q2 q3 q4 => ⟨c, μ', rfl, q1, q2, q3, q4⟩
        rw [List.range_eq_range']
        simpa using this
  | seq a b => exact pseq_sim hL hsim hq he hlow
  | cond x a b => exact pcond_sim hL hsim hq he hlow
  | block id b => exact pblock_sim hL hsim hq he hlow
  | loop b =>
    obtain ⟨k1, k2, k3⟩ := ploop_round hL hsim hq he hlow
    refine ⟨k1, k2, fun N F n μ w a hok hF hro hst hN b k cs hb0 hb hr => ?_⟩
    obtain ⟨e, a', w', hx, harr⟩ := k3 N F n μ w a hok hF hro hst hN b k cs hb0 hb hr
    exact ⟨e, a', w', hx, .of_steps (.one (fenced_calm hb hr rfl) stepR_loop) harr⟩
  | scope b =>
    simp only [pcodeV] at he
    obtain ⟨a1, a2, a3⟩ := hq.within _ _ _ _ _ _ he hlow
    refine ⟨a1, a2, fun N F n μ w a hok hF hro hst hN b k cs hb0 hb hr => ?_⟩
    simp only [codeOk] at hok
    obtain ⟨e, a', w', hx, harr⟩ := a3 N F n μ w a ⟨hok, hok⟩ hF hro hst hN b k cs hb0 hb hr
    exact ⟨e, a', w', hx, .of_steps (.one (fenced_calm hb hr rfl) (step_lone_go (by simp [stepG, stepG.exec, Frame.atR]))) harr⟩
  | skip => simp [pcodeV] at he
  | label l => simp [pcodeV] at he
  | rangeFunc f ps a b => simp [pcodeV] at he
  | exit i => simp [pcodeV] at he
  | goto l => simp [pcodeV] at he
  | ret => simp [pcodeV] at he
  | refuse s => simp [pcodeV] at he

end

section
variable {L : Ty} (hL : L.Ok P) {r : Rec} (hsim : SimRec P r) {fns : FuncId → Option Func}
  (hfn : ∀ f fn, fns f = some fn → P.funcs[f]? = some fn ∧ (fn.name == "runtime.NumGoroutine") = false ∧ ∀ c, fn.body = some c → codeOk fn.ntmps c = true)
include hL hsim hfn

/-- A function, entered, that panics. -/
theorem penter_sim {q : PRec} (hq : PSim P q) {low : Lw} {f : FuncId} {fn : Func} {c : Code} {args : List Value} {h : AH} {out : POut} (hf : fns f = some fn) (hb : fn.body = some c)
    (hc : q.code low c ⟨Env.ofArgs 0 args Env.empty, [], none⟩ h = some out) (hlow : low.le h.next) :
    Callable P f ∧ AKept low h out.h ∧ ∀ (F : Fence) (n : Nat) μ w cs, Wd F → Rel μ h w → VsRel μ args cs → ∀ (kind : CallKind) (bs : List Frame), ∃ cv w' fr' a' μ', Step low μ μ' w w' ∧ St μ' out.fr out.h a' w' ∧ VRel μ' out.v cv ∧
      StepsIn (Machine.fenced P F) P (lone (Frame.enter P f ⟨cs⟩ kind) bs w) (lone fr' bs w') ∧ fr'.mode = .panicking [{ v := cv, recovered := false }] ∧ fr'.defers = a'.defers ∧ fr'.tmps = a'.tmps ∧ fr'.kind = kind ∧ fr'.fn = f ∧ P.funcs[f]? = some fn := by
  obtain ⟨p1, p2, p3⟩ := hfn f fn hf
  obtain ⟨a1, a2, a3⟩ := hq.code _ _ _ _ _ hc hlow
  refine ⟨⟨fn, p1, p2, by rw [hb]; rfl⟩, a1, fun F n μ w cs hF hr hcs kind bs => ?_⟩
  let b : Frame := { (default : Frame) with fn := f, kind := kind, roundOf := none }
  have henter : Frame.enter P f ⟨cs⟩ kind = b.atR { tmps := ⟨cs⟩ ++ Array.replicate (fn.ntmps - (⟨cs⟩ : Array Value).size) undef, defers := [] } [.code c] := by
    simp [Frame.enter, Frame.atR, p1, hb, b]
  have hst : St μ ⟨Env.ofArgs 0 args Env.empty, [], none⟩ h { tmps := ⟨cs⟩ ++ Array.replicate (fn.ntmps - (⟨cs⟩ : Array Value).size) undef, defers := [] } w :=
    ⟨hr, args_env hcs _, .nil⟩
  obtain ⟨e, a', w1, ⟨cv, μ1, rfl, q1, q2, q3, q4⟩, harr⟩ := a3 fn.ntmps F.plain n μ w _ (p3 c hb) hF.plain .none hst (by simp; omega) b [] bs rfl (hF.fn _) (hF.room _)
  rw [← henter] at harr
  rw [fenced_plain] at harr
  obtain ⟨todo, hs⟩ := harr
  exact ⟨cv, w1, _, a', μ1, q1, q2, q3, hs, rfl, rfl, rfl, rfl, rfl, p1⟩

theorem pcall_sim {q : PRec} (hq : PSim P q) {low : Lw} {f : FuncId} {args : List Value} {h h' : AH} {v : Value} (he : pcallV fns q low f args h = some (v, h')) (hlow : low.le h.next) :
    Callable P f ∧ AKept low h h' ∧
    ∀ F n μ w cs, Wd F → Rel μ h w → VsRel μ args cs → CallsIn F n P f ⟨cs⟩ w fun e w' => ∃ c μ', e = .panicked [{ v := c, recovered := false }] ∧ Step low μ μ' w w' ∧ Rel μ' h' w' ∧ VRel μ' v c := by
  unfold pcallV at he
  split at he
  case h_2 => cases he
  rename_i fn hf
  split at he
  case h_2 => cases he
  rename_i c hb
  split at he
  case h_2 => cases he
  rename_i v1 fr1 h1 hc
  split at he
  case h_2 => cases he
  rename_i hd
  cases he
  obtain ⟨k1, k2, k3⟩ := penter_sim hL hsim hfn hq hf hb hc hlow
  refine ⟨k1, k2, fun F n μ w cs hF hr hcs => ⟨hF.fn _, fun bs _ => ?_⟩⟩
  obtain ⟨cv, w', fr', a', μ', s1, s2, s3, s4, s5, s6, s7, s8, s9, s10⟩ := k3 F n μ w cs hF hr hcs .normal bs
  have hd' : fr'.defers = [] := by
    have := s2.defs
    simp only [hd] at this
    rw [s6]
    generalize a'.defers = x at this
    cases this; rfl
  exact ⟨.panicked [{ v := cv, recovered := false }], w', fr', ⟨cv, μ', rfl, s1, s2.rel, s3⟩, s4, s9, s5, hd', fn, s9 ▸ s10⟩

theorem pRecN_sim : ∀ n, PSim P (pRecN L fns r n)
  | 0 => ⟨fun _ _ _ _ _ h => by simp [pRecN] at h, fun _ _ _ _ _ h => by simp [pRecN] at h, fun _ _ _ _ _ _ h => by simp [pRecN] at h, fun _ _ _ _ _ _ h => by simp [pRecN] at h⟩
  | n + 1 => by
    have ih := pRecN_sim n
    exact ⟨fun low c fr h out he hlow => (ploop_round hL hsim ih he hlow).2.2, fun low c fr h out he hlow => pcode_sim hL hsim ih he hlow,
      fun low body c fr h out he hlow => pwithin_sim hL hsim ih he hlow, fun low f args h v h' he hlow => pcall_sim hL hsim hfn ih he hlow⟩
end

end Go.AM

