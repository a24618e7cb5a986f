/- The abstract machine: operations that only read. -/
import Derived.Test.YtlegolcbjjjofaaAm3
namespace Go.AM
variable {P : Program} {tm : TM} {H : Heap}

theorem add_off (b o j : Nat) : (⟨b, o, none⟩ : Addr).add j = ⟨b, o + j, none⟩ := by
  unfold Addr.add
  split
  · rename_i h; subst h; rfl
  · rfl
theorem add_spot {a : Addr} (h : a.spot = none) (j : Nat) : a.add j = ⟨a.block, a.off + j, none⟩ := by
  obtain ⟨b, o, s⟩ := a
  simp at h; subst h
  exact add_off b o j

/-- The cells among which an address lies. -/
def locA (H : Heap) : AV → Option (List AV × Nat)
  | .ref id i f => (hget H id).bind fun k => (k.els[i]?).bind fun x => if x.cells = [] then none else some (x.cells, f)
  | .fp l f => some (l, f)
  | _ => none
theorem lies_at {g : G} {id : Nat} {k : Blk} (hg : GOk g) (hk : hget g.H id = some k) {i : Nat} {x : AV} (hx : k.els[i]? = some x) :
    g.sz id ≠ 0 ∧ ∃ c e lo hi y, g.w.heap[g.φ id]? = some (.cells c e (lo, hi)) ∧ c.size = g.sz id ∧ (lo = hi ∨ c.size ≤ lo) ∧ Rel g x y ∧ Flat y k.es ∧ (∀ j, j < k.es → c[g.bs id + (i * k.es + j)]? = y.cells[j]?) ∧ ∃ xs, RelL g k.els xs ∧ xs[i]? = some y ∧ ∀ (i : Nat) x, xs[i]? = some x → Flat x k.es ∧ ∀ j, j < k.es → c[g.bs id + (i * k.es + j)]? = x.cells[j]? := by
  have hb := hg.blk id k hk
  have hi : i < k.els.length := (List.getElem?_eq_some_iff.1 hx).1
  have h0 : g.sz id ≠ 0 := by
    have h1 := hb.fit
    have h2 := hb.pos
    have : 1 * 1 ≤ k.els.length * k.es := Nat.mul_le_mul (by omega) h2
    omega
  refine ⟨h0, ?_⟩
  obtain ⟨c, e, lo, hi, m1, m2, m3, xs, m4, m5⟩ := hb.mem h0
  obtain ⟨y, hy, hr⟩ := m4.get hx
  obtain ⟨f1, f2⟩ := m5 i y hy
  exact ⟨c, e, lo, hi, y, m1, m2, m3, hr, f1, f2, xs, m4, hy, m5⟩
theorem cellAt_row {w : World} {b : Nat} {c : Array Value} {e : TypeId} {fr : Nat × Nat} (h : w.heap[b]? = some (.cells c e fr)) (o : Nat) : cellAt w b o = c[o]? := by
  simp [cellAt, World.cell?, h]
theorem locA_sound {g : G} {x : AV} {y : Value} {cl : List AV} {f : Nat} (hg : GOk g) (h : locA g.H x = some (cl, f)) (hx : Rel g x y) :
    ∃ b o ys, y = .pointer (some ⟨b, o + f, none⟩) ∧ RelL g cl ys ∧ ∀ (j : Nat) v, ys[j]? = some v → v.oneCell' = true ∧ cellAt g.w b (o + j) = some v := by
  cases x <;> simp only [locA, reduceCtorEq] at h
  case fp l f' =>
    simp at h
    obtain ⟨rfl, rfl⟩ := h
    simp only [Rel] at hx
    obtain ⟨b, o, xs, rfl, h1, h2, h3⟩ := hx
    exact ⟨b, o, xs, rfl, h1, h3⟩
  case ref id i f' =>
    obtain ⟨k, hk, h⟩ := Option.bind_eq_some_iff.1 h
    obtain ⟨x, hxx, h⟩ := Option.bind_eq_some_iff.1 h
    split at h
    · cases h
    · rename_i hne
      simp at h
      obtain ⟨rfl, rfl⟩ := h
      simp only [Rel] at hx
      obtain ⟨_, a, rfl, h1⟩ := hx
      have e := h1 k hk
      subst e
      obtain ⟨h0, c, e, lo, hi, y, m1, m2, m3, m4, m5, m6, _⟩ := lies_at hg hk hxx
      refine ⟨g.φ id, g.bs id + i * k.es, y.cells.toList, by rw [Nat.add_assoc], cells_rel m4 hne, fun j v hv => ?_⟩
      have hv' : y.cells[j]? = some v := by simpa using hv
      refine ⟨m5.2 j v hv', ?_⟩
      have hj : j < k.es := by
        rw [← m5.1]; exact (Array.getElem?_eq_some_iff.1 hv').1
      rw [cellAt_row m1, Nat.add_assoc, m6 j hj]
      exact hv'

def loadA (i : TI) (cl : List AV) (f : Nat) : Option AV :=
  if isAggD i.desc then if f + i.size ≤ cl.length then some (.agg ((cl.drop f).take i.size)) else none
  else cl[f]?
theorem loadVar_sound {g : G} {t : TypeId} {i : TI} (ht : tyI P t = some i) {cl : List AV} {f : Nat} {r : AV} {b o : Nat} {ys : List Value} (hl : RelL g cl ys)
    (hc : ∀ (j : Nat) v, ys[j]? = some v → v.oneCell' = true ∧ cellAt g.w b (o + j) = some v) (h : loadA i cl f = some r) :
    ∃ v, (loadVar t ⟨b, o + f, none⟩).run P g.w = .ok v g.w ∧ Rel g r v := by
  obtain ⟨_, e2, _, e4, _⟩ := tyI_run ht g.w
  unfold loadA at h
  unfold loadVar
  simp only [Sem.run_bind, e4, Result.andThen_ok]
  by_cases ha : isAggD i.desc = true
  · simp only [ha, if_true] at h ⊢
    split at h
    case isFalse => cases h
    rename_i hlen
    cases h
    have hlen' : ((ys.drop f).take i.size).length = i.size := by simp [hl.length]; omega
    have hrun := run_loadCells_list (P := P) (w := g.w) ⟨b, o + f, none⟩ ((ys.drop f).take i.size) (fun j v hv => by
      rw [add_off]
      rw [List.getElem?_take] at hv
      split at hv
      · rw [List.getElem?_drop] at hv
        have := (hc (f + j) v hv).2
        rw [show o + f + j = o + (f + j) by omega]
        exact this
      · cases hv)
    rw [hlen'] at hrun
    simp only [Sem.run_bind, e2, Result.andThen_ok, hrun, Sem.run_pure]
    refine ⟨_, rfl, ?_⟩
    simp only [Rel]
    exact ⟨_, rfl, by simpa using RelL.take i.size (RelL.drop f hl)⟩
  · simp only [ha, if_false, Bool.false_eq_true] at h ⊢
    obtain ⟨v, hv, hr⟩ := hl.get h
    have := (hc f v hv).2
    refine ⟨v, ?_, hr⟩
    rw [run_load]
    simp only [cellAt] at this
    simp [this]
theorem ok_load {o : Oper} {t : TypeId} {x : Operand} (ho : o.op = .load t x) {i : TI} (hi : tyI P t = some i) {cl : List AV} {f : Nat} (hl : locA H (ev tm x) = some (cl, f)) {r : AV} (hr : loadA i cl f = some r) : OpOk P tm H o r H := by
  refine OpOk.val fun g a hH hg ht => ?_
  subst hH
  obtain ⟨b, o', ys, e1, e2, e3⟩ := locA_sound hg hl (ht x (by simp [ho, Op.operands, Call.operands]))
  obtain ⟨v, h1, h2⟩ := loadVar_sound (P := P) hi e2 e3 hr
  refine ⟨v, ?_, h2⟩
  simp only [execOp, ho, e1, Instr.loadAt, Instr.sureAddr]
  simp [h1]

theorem ok_move {o : Oper} {x : Operand} (ho : o.op = .move x ∨ o.op = .assign x) : OpOk P tm H o (ev tm x) H := by
  refine OpOk.val fun g a hH hg ht => ⟨a.eval x, ?_, ht x (by rcases ho with ho | ho <;> simp [ho, Op.operands])⟩
  rcases ho with ho | ho <;> simp [execOp, ho]
def pickA : Bool → AV → AV → AV
  | true, x, _ => x
  | false, _, y => y
theorem ok_pick {o : Oper} {c x y : Operand} {t : Bool} (ho : o.op = .pick c x y) (hc : ev tm c = .v (.bool t)) : OpOk P tm H o (pickA t (ev tm x) (ev tm y)) H := by
  refine OpOk.val fun g a hH hg ht => ?_
  have h := ht c (by simp [ho, Op.operands, Call.operands])
  rw [hc] at h
  simp only [Rel] at h
  refine ⟨if t then a.eval x else a.eval y, by simp [execOp, ho, h, asBool], ?_⟩
  cases t
  · exact ht y (by simp [ho, Op.operands, Call.operands])
  · exact ht x (by simp [ho, Op.operands, Call.operands])

def isPlace : AV → Bool
  | .ref .. => true
  | .fp .. => true
  | _ => false
theorem place_rel {g : G} {x : AV} {y : Value} (h : Rel g x y) (hx : isPlace x = true) : ∃ a, y = .pointer (some a) := by
  cases x <;> simp only [isPlace, Bool.false_eq_true, reduceCtorEq] at hx
  case fp l f => simp only [Rel] at h; obtain ⟨b, o, xs, rfl, _⟩ := h; exact ⟨_, rfl⟩
  case ref id i f => simp only [Rel] at h; obtain ⟨_, a, rfl, _⟩ := h; exact ⟨_, rfl⟩
theorem ok_nilCheck {o : Oper} {x : Operand} (ho : o.op = .nilCheck x) (hx : isPlace (ev tm x) = true) : OpOk P tm H o (ev tm x) H := by
  refine OpOk.val fun g a hH hg ht => ?_
  have h := ht x (by simp [ho, Op.operands, Call.operands])
  obtain ⟨p, hp⟩ := place_rel h hx
  exact ⟨a.eval x, by simp [execOp, ho, hp], h⟩
theorem ok_nilCheck_fn {o : Oper} {x : Operand} {f : FuncId} {l m : List AV} (ho : o.op = .nilCheck x) (hx : ev tm x = .fn (.func f) l m) : OpOk P tm H o (.fn (.func f) l m) H := by
  refine OpOk.val fun g a hH hg ht => ?_
  have h := ht x (by simp [ho, Op.operands, Call.operands])
  rw [hx] at h
  have h' := h
  simp only [Rel] at h
  obtain ⟨xs, ys, hp, _⟩ := h
  exact ⟨a.eval x, by simp [execOp, ho, hp], h'⟩

/-- A place a little farther on. -/
def shiftA (x : AV) (n : Nat) : Option AV :=
  match x with
  | .ref id i f => some (.ref id i (f + n))
  | .fp l f => some (.fp l (f + n))
  | _ => none
theorem shift_sound {g : G} {x r : AV} {y : Value} {n : Nat} (h : Rel g x y) (hx : shiftA x n = some r) : ∃ a, y = .pointer (some a) ∧ Rel g r (.pointer (some (a.add n))) := by
  cases x <;> simp only [shiftA, reduceCtorEq, Option.some.injEq] at hx
  case fp l f =>
    subst hx
    simp only [Rel] at h
    obtain ⟨b, o, xs, rfl, h1, h2, h3⟩ := h
    refine ⟨_, rfl, ?_⟩
    simp only [Rel, add_off]
    exact ⟨b, o, xs, by rw [Nat.add_assoc], h1, h2, h3⟩
  case ref id i f =>
    subst hx
    simp only [Rel] at h
    obtain ⟨h0, a, rfl, h1⟩ := h
    refine ⟨a, rfl, ?_⟩
    simp only [Rel]
    refine ⟨h0, _, rfl, fun k hk => ?_⟩
    rw [h1 k hk, add_off]
    congr 1
    omega
theorem ok_fieldAddr {o : Oper} {t : TypeId} {x : Operand} {n : Nat} (ho : o.op = .fieldAddr t x n) {i : TI} (hi : tyI P t = some i) {fs : Array Field} (hd : i.desc = .struct fs) {f : Field} (hf : fs[n]? = some f)
    {j : TI} (hj : tyI P f.type = some j) (hj0 : j.size ≠ 0) {r : AV} (hr : shiftA (ev tm x) f.offset = some r) : OpOk P tm H o r H := by
  refine OpOk.val fun g a hH hg ht => ?_
  obtain ⟨p, hp, hrel⟩ := shift_sound (ht x (by simp [ho, Op.operands, Call.operands])) hr
  obtain ⟨e1, _⟩ := tyI_run hi g.w
  obtain ⟨_, e2, _⟩ := tyI_run hj g.w
  refine ⟨_, ?_, hrel⟩
  simp [execOp, ho, Instr.fieldAt, e1, hd, hf, hp, Instr.sureAddr, fieldPlace, e2, hj0]

/-- A part of an aggregate. -/
theorem part_sound {g : G} {t : TypeId} {i : TI} (ht : tyI P t = some i) {cl : List AV} {f : Nat} {r : AV} {cs : Array Value} (hl : RelL g cl cs.toList) (h : loadA i cl f = some r) :
    ∃ v, (part t cs f).run P g.w = .ok v g.w ∧ Rel g r v := by
  obtain ⟨_, e2, _, e4, _⟩ := tyI_run ht g.w
  unfold loadA at h
  unfold part
  simp only [Sem.run_bind, e4, Result.andThen_ok]
  by_cases ha : isAggD i.desc = true
  · simp only [ha, if_true] at h ⊢
    split at h
    case isFalse => cases h
    rename_i hlen
    cases h
    simp only [Sem.run_bind, e2, Result.andThen_ok, Sem.run_pure]
    refine ⟨_, rfl, ?_⟩
    simp only [Rel]
    refine ⟨_, rfl, ?_⟩
    have := RelL.take i.size (RelL.drop f hl)
    have e : (cs.extract f (f + i.size)).toList = List.take i.size (List.drop f cs.toList) := by
      simp
    rw [e]; exact this
  · simp only [ha, if_false, Bool.false_eq_true] at h ⊢
    obtain ⟨v, hv, hr⟩ := hl.get h
    have hv' : cs[f]? = some v := by simpa using hv
    exact ⟨v, by simp [hv'], hr⟩
def aggCells : AV → Option (List AV)
  | .agg l => some l
  | .v (.agg cs) => some (cs.toList.map .v)
  | _ => none
theorem agg_rel {g : G} {x : AV} {y : Value} {l : List AV} (h : Rel g x y) (hx : aggCells x = some l) : ∃ cs, y = .agg cs ∧ RelL g l cs.toList := by
  cases x <;> simp only [aggCells, reduceCtorEq] at hx
  case agg m => simp at hx; subst hx; simpa only [Rel] using h
  case v u =>
    simp only [Rel] at h
    subst h
    cases y <;> simp only [aggCells, reduceCtorEq, Option.some.injEq] at hx
    subst hx
    exact ⟨_, rfl, RelL.vs g _⟩
theorem ok_field {o : Oper} {t : TypeId} {x : Operand} {n : Nat} (ho : o.op = .field t x n) {i : TI} (hi : tyI P t = some i) {fs : Array Field} (hd : i.desc = .struct fs) {f : Field} (hf : fs[n]? = some f)
    {j : TI} (hj : tyI P f.type = some j) {l : List AV} (hl : aggCells (ev tm x) = some l) {r : AV} (hr : loadA j l f.offset = some r) : OpOk P tm H o r H := by
  refine OpOk.val fun g a hH hg ht => ?_
  obtain ⟨cs, hcs, hrel⟩ := agg_rel (ht x (by simp [ho, Op.operands, Call.operands])) hl
  obtain ⟨v, h1, h2⟩ := part_sound (P := P) hj hrel hr
  obtain ⟨e1, _⟩ := tyI_run hi g.w
  refine ⟨v, ?_, h2⟩
  simp [execOp, ho, Instr.field, e1, hd, hf, hcs, asAgg, h1]
theorem ok_extract {o : Oper} {x : Operand} {n : Nat} (ho : o.op = .extract x n) {l : List AV} (hx : ev tm x = .tup l) {r : AV} (hr : l[n]? = some r) : OpOk P tm H o r H := by
  refine OpOk.val fun g a hH hg ht => ?_
  have h := ht x (by simp [ho, Op.operands, Call.operands])
  rw [hx] at h
  simp only [Rel] at h
  obtain ⟨cs, hcs, hl⟩ := h
  obtain ⟨v, hv, hrel⟩ := hl.get hr
  have hv' : cs[n]? = some v := by simpa using hv
  exact ⟨v, by simp [execOp, ho, hcs, Instr.extract, hv'], hrel⟩
theorem eval_list {g : G} {a : Act} : ∀ l : List Operand, (∀ y ∈ l, Rel g (ev tm y) (a.eval y)) → RelL g (l.map (ev tm)) (l.map a.eval)
  | [], _ => .nil
  | x :: l, h => .cons (h x (by simp)) (eval_list l (fun y hy => h y (by simp [hy])))
theorem ok_makeFunc {o : Oper} {fn : Fn} {l m : Array Operand} (ho : o.op = .makeFunc fn l m) : OpOk P tm H o (.fn fn (l.toList.map (ev tm)) (m.toList.map (ev tm))) H := by
  refine OpOk.val fun g a hH hg ht => ⟨.func fn (l.map a.eval) (m.map a.eval), by simp [execOp, ho, Instr.makeFunc], ?_⟩
  simp only [Rel]
  exact ⟨_, _, rfl, by simpa using eval_list (g := g) (a := a) (tm := tm) l.toList (fun y hy => ht y (by simp [ho, Op.operands]; exact .inl (by simpa using hy))), by simpa using eval_list (g := g) (a := a) (tm := tm) m.toList (fun y hy => ht y (by simp [ho, Op.operands]; exact .inr (by simpa using hy)))⟩

-- arithmetic
def binI (op : BinOp) (k : IntKind) (a b : Int) : Option Value :=
  match op with
  | .add => some (.int k (k.wrap (a + b)))
  | .sub => some (.int k (k.wrap (a - b)))
  | .mul => some (.int k (k.wrap (a * b)))
  | .quo => if b = 0 then none else some (.int k (k.wrap (a.tdiv b)))
  | .rem => if b = 0 then none else some (.int k (a.tmod b))
  | .and => some (.int k (k.wrap (BitVec.ofInt k.bits a &&& BitVec.ofInt k.bits b).toNat))
  | .or => some (.int k (k.wrap (BitVec.ofInt k.bits a ||| BitVec.ofInt k.bits b).toNat))
  | .xor => some (.int k (k.wrap (BitVec.ofInt k.bits a ^^^ BitVec.ofInt k.bits b).toNat))
  | .andNot => some (.int k (k.wrap (BitVec.ofInt k.bits a &&& ~~~ BitVec.ofInt k.bits b).toNat))
  | .eql => some (.bool (a == b))
  | .neq => some (.bool (a != b))
  | .lss => some (.bool (decide (a < b)))
  | .leq => some (.bool (decide (a ≤ b)))
  | .gtr => some (.bool (decide (a > b)))
  | .geq => some (.bool (decide (a ≥ b)))
  | .shl => none
  | .shr => none
def binV (op : BinOp) (d : TypeDesc) (x y : Value) : Option Value :=
  match x, y with
  | .int k a, .int k' b =>
    match op with
    | .shl => if b < 0 then none else some (.int k (k.wrap (a * 2 ^ (min b.toNat k.bits))))
    | .shr => if b < 0 then none else some (.int k (a.fdiv (2 ^ (min b.toNat k.bits))))
    | op => if k = k' then binI op k a b else none
  | .string a, .string b =>
    match op with
    | .eql => some (.bool (a.toList == b.toList))
    | .neq => some (.bool (!(a.toList == b.toList)))
    | .add => if ((a.size + b.size : Nat) : Int) > IntKind.i64.max then none else some (.string (a ++ b))
    | _ => none
  | .bool a, .bool b =>
    match op, d with
    | .eql, .bool => some (.bool (a == b))
    | .neq, .bool => some (.bool (!(a == b)))
    | _, _ => none
  | .pointer none, .pointer none =>
    match op, d with
    | .eql, .pointer _ => some (.bool true)
    | .neq, .pointer _ => some (.bool false)
    | _, _ => none
  | .slice none _ _, .slice none _ _ =>
    match op, d with
    | .eql, .slice _ => some (.bool true)
    | .neq, .slice _ => some (.bool false)
    | _, _ => none
  | _, _ => none
/-- Against nil. -/
def notNil (d : TypeDesc) (x : AV) : Bool :=
  match d, x with
  | .pointer _, .ref .. => true
  | .pointer _, .fp .. => true
  | .func .., .fn .. => true
  | .slice _, .fz _ l => !l.isEmpty
  | _, _ => false
def isNil (d : TypeDesc) (x : AV) : Bool :=
  match d, x with
  | .pointer _, .v (.pointer none) => true
  | .slice _, .v (.slice none _ _) => true
  | .func .., .v .nilFunc => true
  | _, _ => false
def nilEq (op : BinOp) (b : Bool) : Option Value :=
  match op with
  | .eql => some (.bool b)
  | .neq => some (.bool (!b))
  | _ => none
def binA (op : BinOp) (d : TypeDesc) (x y : AV) : Option AV :=
  match x, y with
  | .v a, .v b => (binV op d a b).map .v
  | x, y => if (notNil d x && isNil d y) || (isNil d x && notNil d y) then (nilEq op false).map .v else none
theorem binI_run {op : BinOp} {k : IntKind} {a b : Int} {v : Value} (t : TypeId) (h : binI op k a b = some v) (w : World) : (binOp op t (.int k a) (.int k b)).run P w = .ok v w := by
  cases op <;> simp only [binI, Option.some.injEq, reduceCtorEq] at h
  case quo =>
    split at h
    · cases h
    · rename_i hb
      simp at h
      subst h
      simp [binOp, Op.intDiv, hb]
  case rem =>
    split at h
    · cases h
    · rename_i hb
      simp at h
      subst h
      simp [binOp, Op.intDiv, hb]
  all_goals (subst h; simp [binOp, Op.intArith, Op.intBits, Op.intCmp])
theorem equal_run {t : TypeId} {d : TypeDesc} (hd : P.underlying t = some d) (w : World) (x y : Value) (b : Bool) (h : ∀ n, (Op.equalIn (n + 1) t x y).run P w = .ok b w) : (Op.equal t x y).run P w = .ok b w := by
  unfold Op.equal
  have : Op.maxDepth = 9999 + 1 := rfl
  rw [this]
  exact h 9999
theorem binV_run {op : BinOp} {t : TypeId} {d : TypeDesc} (hd : P.underlying t = some d) {x y v : Value} (h : binV op d x y = some v) (w : World) (p q : Operand) :
    ((do eqGuard op t p q x y; binOp op t x y) : Sem Value).run P w = .ok v w := by
  have hu : ∀ w, (underlying t).run P w = .ok d w := fun w => by simp [underlying, hd]
  have hg : (eqGuard op t p q x y).run P w = .ok () w := by
    cases x <;> cases y <;> simp only [binV, reduceCtorEq] at h <;> unfold eqGuard <;> cases op <;> simp
  simp only [Sem.run_bind, hg, Result.andThen_ok]
  cases x <;> cases y <;> try (simp only [binV, reduceCtorEq] at h)
  case int.int k a k' b =>
    cases op
    case shl =>
      simp only at h
      split at h
      · cases h
      · rename_i hb; simp at h; subst h; simp [binOp, Op.shift, hb]
    case shr =>
      simp only at h
      split at h
      · cases h
      · rename_i hb; simp at h; subst h; simp [binOp, Op.shift, hb]
    all_goals
      simp only at h
      split at h
      · rename_i hk; subst hk; exact binI_run t h w
      · cases h
  case string.string a b =>
    cases op <;> simp only [Option.some.injEq, reduceCtorEq] at h
    case add =>
      split at h
      · cases h
      · rename_i hb
        simp at h
        subst h
        simp only [binOp, Op.stringOp]
        rw [if_neg hb]
        rfl
    case eql => subst h; simp [binOp, Op.stringOp]
    case neq => subst h; simp [binOp, Op.stringOp]
  case bool.bool a b =>
    cases op <;> cases d <;> simp only [Option.some.injEq, reduceCtorEq] at h <;> subst h
    · simp only [binOp, Sem.run_bind, equal_run hd w (.bool a) (.bool b) (a == b) (fun n => by simp [Op.equalIn, hu])]; rfl
    · simp only [binOp, Sem.run_bind, equal_run hd w (.bool a) (.bool b) (a == b) (fun n => by simp [Op.equalIn, hu])]; rfl
  case pointer.pointer a b =>
    cases a <;> cases b <;> simp only [reduceCtorEq] at h
    cases op <;> cases d <;> simp only [Option.some.injEq, reduceCtorEq] at h <;> subst h
    · simp only [binOp, Sem.run_bind, equal_run hd w (.pointer none) (.pointer none) true (fun n => by simp [Op.equalIn, hu])]; rfl
    · simp only [binOp, Sem.run_bind, equal_run hd w (.pointer none) (.pointer none) true (fun n => by simp [Op.equalIn, hu])]; rfl
  case slice.slice a n c b m c' =>
    cases a <;> cases b <;> simp only [reduceCtorEq] at h
    cases op <;> cases d <;> simp only [Option.some.injEq, reduceCtorEq] at h <;> subst h
    · simp only [binOp, Sem.run_bind, equal_run hd w (.slice none n c) (.slice none m c') true (fun _ => by simp [Op.equalIn, hu])]; rfl
    · simp only [binOp, Sem.run_bind, equal_run hd w (.slice none n c) (.slice none m c') true (fun _ => by simp [Op.equalIn, hu])]; rfl
theorem notNil_rel {g : G} {d : TypeDesc} {x : AV} {y : Value} (h : Rel g x y) (hx : notNil d x = true) :
    (∃ a e, y = .pointer (some a) ∧ d = .pointer e) ∨ (∃ a n c e, y = .slice (some a) n c ∧ d = .slice e) ∨ (∃ f xs ys ps rs v, y = .func f xs ys ∧ d = .func ps rs v) := by
  cases d <;> cases x <;> simp only [notNil, Bool.false_eq_true, reduceCtorEq] at hx
  case pointer.ref e id i f => simp only [Rel] at h; obtain ⟨_, a, rfl, _⟩ := h; exact .inl ⟨_, _, rfl, rfl⟩
  case pointer.fp e l f => simp only [Rel] at h; obtain ⟨b, o, xs, rfl, _⟩ := h; exact .inl ⟨_, _, rfl, rfl⟩
  case func.fn ps rs v f a b => simp only [Rel] at h; obtain ⟨xs, ys, rfl, _⟩ := h; exact .inr (.inr ⟨_, _, _, _, _, _, rfl, rfl⟩)
  case slice.fz e es l =>
    simp only [Rel] at h
    obtain ⟨A, c, xs, rfl, hc, hl, hf, _⟩ := h
    cases xs with
    | nil => have := hl.length; simp at hx this; exact absurd this.symm (by simpa using hx)
    | cons z zs =>
      obtain ⟨_, a, rfl, _⟩ := hf 0 z rfl
      exact .inr (.inl ⟨_, _, _, _, rfl, rfl⟩)
theorem isNil_rel {g : G} {d : TypeDesc} {x : AV} {y : Value} (h : Rel g x y) (hx : isNil d x = true) :
    (∃ e, y = .pointer none ∧ d = .pointer e) ∨ (∃ n c e, y = .slice none n c ∧ d = .slice e) ∨ (∃ ps rs v, y = .nilFunc ∧ d = .func ps rs v) := by
  unfold isNil at hx
  split at hx
  · simp only [Rel] at h; exact .inl ⟨_, h, rfl⟩
  · simp only [Rel] at h; exact .inr (.inl ⟨_, _, _, h, rfl⟩)
  · simp only [Rel] at h; exact .inr (.inr ⟨_, _, _, h, rfl⟩)
  · cases hx
end Go.AM
