/- The abstract machine: operations that only read, the second part. -/
import Derived.Test.YtlegolcbjjjofaaAm4
namespace Go.AM
variable {P : Program} {tm : TM} {H : Heap}

theorem ok_binOp {o : Oper} {op : BinOp} {t : TypeId} {p q : Operand} {t' : TypeId} (ho : o.op = .binOp op t p q t') {i : TI} (hi : tyI P t = some i) {r : AV} (hr : binA op i.desc (ev tm p) (ev tm q) = some r) : OpOk P tm H o r H := by
  have hd : P.underlying t = some i.desc := by
    unfold tyI at hi
    obtain ⟨ti, h1, h⟩ := Option.bind_eq_some_iff.1 hi
    obtain ⟨d, h2, h⟩ := Option.bind_eq_some_iff.1 h
    obtain ⟨z, h3, h⟩ := Option.map_eq_some_iff.1 h
    subst h
    exact h2
  refine OpOk.val fun g a hH hg ht => ?_
  have hp := ht p (by simp [ho, Op.operands, Call.operands])
  have hq := ht q (by simp [ho, Op.operands, Call.operands])
  have hu : ∀ w, (underlying t).run P w = .ok i.desc w := fun w => by simp [underlying, hd]
  have key : ∃ v, ((do eqGuard op t p q (a.eval p) (a.eval q); binOp op t (a.eval p) (a.eval q)) : Sem Value).run P g.w = .ok v g.w ∧ Rel g r v := by
    generalize ev tm p = x at hp hr
    generalize ev tm q = y at hq hr
    have hrest : (if (notNil i.desc x && isNil i.desc y) || (isNil i.desc x && notNil i.desc y) then (nilEq op false).map AV.v else none) = some r → ∃ v, ((do eqGuard op t p q (a.eval p) (a.eval q); binOp op t (a.eval p) (a.eval q)) : Sem Value).run P g.w = .ok v g.w ∧ Rel g r v := by
      intro hr
      split at hr
      case isFalse => cases hr
      rename_i hc
      obtain ⟨v, hv, rfl⟩ := Option.map_eq_some_iff.1 hr
      refine ⟨v, ?_, by simp [Rel]⟩
      generalize hx : a.eval p = X at hp ⊢
      generalize hy : a.eval q = Y at hq ⊢
      have hE : ∀ X Y : Value, (∀ m, (Op.equalIn (m + 1) t X Y).run P g.w = .ok false g.w) → (Op.equal t X Y).run P g.w = .ok false g.w := fun X Y h => equal_run hd g.w X Y false h
      simp only [Bool.or_eq_true, Bool.and_eq_true] at hc
      rcases hc with ⟨h1, h2⟩ | ⟨h1, h2⟩
      · rcases notNil_rel hp h1 with ⟨a', e, hX, hd'⟩ | ⟨a', n, c, e, hX, hd'⟩ | ⟨f, xs, ys, ps, rs, vv, hX, hd'⟩ <;>
        rcases isNil_rel hq h2 with ⟨e2, hY, hd2⟩ | ⟨n2, c2, e2, hY, hd2⟩ | ⟨ps2, rs2, v2, hY, hd2⟩ <;>
        first
          | (rw [hd'] at hd2; cases hd2; done)
          | (have h3 := hE X Y (fun m => by rw [hX, hY]; simp only [Op.equalIn, Sem.run_bind, hu, Result.andThen_ok, hd']; rfl)
             subst hX hY
             cases op <;> simp only [nilEq, reduceCtorEq, Option.some.injEq] at hv <;> subst hv <;> simp [eqGuard, binOp, h3])
      · rcases notNil_rel hq h2 with ⟨a', e, hX, hd'⟩ | ⟨a', n, c, e, hX, hd'⟩ | ⟨f, xs, ys, ps, rs, vv, hX, hd'⟩ <;>
        rcases isNil_rel hp h1 with ⟨e2, hY, hd2⟩ | ⟨n2, c2, e2, hY, hd2⟩ | ⟨ps2, rs2, v2, hY, hd2⟩ <;>
        first
          | (rw [hd'] at hd2; cases hd2; done)
          | (have h3 := hE X Y (fun m => by rw [hX, hY]; simp only [Op.equalIn, Sem.run_bind, hu, Result.andThen_ok, hd']; rfl)
             subst hX hY
             cases op <;> simp only [nilEq, reduceCtorEq, Option.some.injEq] at hv <;> subst hv <;> simp [eqGuard, binOp, h3])
    cases x <;> cases y <;> first | exact hrest hr | skip
    case v.v u u' =>
      simp only [binA] at hr
      obtain ⟨v, hv, rfl⟩ := Option.map_eq_some_iff.1 hr
      simp only [Rel] at hp hq
      rw [hp, hq]
      exact ⟨v, binV_run hd hv g.w p q, by simp [Rel]⟩
  obtain ⟨v, h1, h2⟩ := key
  exact ⟨v, by simp only [execOp, ho]; rw [Sem.run_bind, h1]; rfl, h2⟩

def unA (op : UnOp) (x : AV) : Option AV :=
  match op, x with
  | .neg, .v (.int k n) => some (.v (.int k (k.wrap (0 - n))))
  | .not, .v (.bool b) => some (.v (.bool !b))
  | .xor, .v (.int k n) => some (.v (.int k (k.wrap (BitVec.ofInt k.bits (if k.signed then -1 else k.max) ^^^ BitVec.ofInt k.bits n).toNat)))
  | _, _ => none
theorem ok_unOp {o : Oper} {op : UnOp} {t : TypeId} {p : Operand} (ho : o.op = .unOp op t p) {r : AV} (hr : unA op (ev tm p) = some r) : OpOk P tm H o r H := by
  refine OpOk.val fun g a hH hg ht => ?_
  have h := ht p (by simp [ho, Op.operands, Call.operands])
  unfold unA at hr
  split at hr <;> first | cases hr; done | skip
  all_goals
    rename_i he
    rw [he] at h
    simp only [Rel] at h
    simp only [Option.some.injEq] at hr
    subst hr
    exact ⟨_, by simp [execOp, ho, h, Op.unary, Op.intArith, Op.intBits]; rfl, by simp [Rel]⟩

-- conversions
def byteOf : AV → Option UInt8
  | .v (.int .u8 n) => some (UInt8.ofNat n.toNat)
  | _ => none
def bytesOf : List AV → Option (List UInt8)
  | [] => some []
  | x :: l => (byteOf x).bind fun b => (bytesOf l).map (b :: ·)
theorem bytesOf_rel {g : G} : ∀ {l : List AV} {ys : List Value} {bs : List UInt8}, RelL g l ys → bytesOf l = some bs → ∃ ns : List Int, ys = ns.map (Value.int .u8) ∧ bs = ns.map fun n => UInt8.ofNat n.toNat
  | [], ys, bs, h, hb => by
    simp only [RelL] at h
    simp [bytesOf] at hb
    exact ⟨[], by simp [h], by simp [hb]⟩
  | x :: l, ys, bs, h, hb => by
    simp only [RelL] at h
    obtain ⟨z, zs, rfl, hz, hl⟩ := h
    simp only [bytesOf] at hb
    obtain ⟨b, hb1, hb⟩ := Option.bind_eq_some_iff.1 hb
    obtain ⟨bs', hb2, rfl⟩ := Option.map_eq_some_iff.1 hb
    obtain ⟨ns, rfl, rfl⟩ := bytesOf_rel hl hb2
    unfold byteOf at hb1
    split at hb1
    · rename_i n
      simp only [Rel] at hz
      simp at hb1
      exact ⟨n :: ns, by simp [hz], by simp [hb1]⟩
    · cases hb1
/-- The elements of a row, whatever it lies in. -/
def rowA (H : Heap) : AV → Option (Nat × List AV)
  | .fz es l => some (es, l)
  | .sl id off len => (hget H id).bind fun k => if off + len ≤ k.els.length then some (k.es, (k.els.drop off).take len) else none
  | .z0 => some (1, [])
  | .v (.slice none 0 0) => some (1, [])
  | _ => none
theorem rowA_sound {g : G} {x : AV} {y : Value} {es : Nat} {l : List AV} (hg : GOk g) (h : rowA g.H x = some (es, l)) (hx : Rel g x y) :
    ∃ A c xs, y = .slice A l.length c ∧ l.length ≤ c ∧ RelL g l xs ∧
      ∀ (i : Nat) x, xs[i]? = some x → Flat x es ∧ ∃ a, A = some a ∧ a.spot = none ∧ ∀ j, j < es → cellAt g.w a.block (a.off + i * es + j) = x.cells[j]? := by
  cases x <;> simp only [rowA, reduceCtorEq] at h
  case fz es' l' =>
    simp at h
    obtain ⟨rfl, rfl⟩ := h
    simp only [Rel] at hx
    obtain ⟨A, c, xs, rfl, h1, h2, h3, _⟩ := hx
    refine ⟨A, c, xs, rfl, h1, h2, fun i x hx => ?_⟩
    obtain ⟨f1, a, f2, f3, _, f4⟩ := h3 i x hx
    exact ⟨f1, a, f2, f3, f4⟩
  case z0 =>
    simp at h
    obtain ⟨rfl, rfl⟩ := h
    simp only [Rel] at hx
    obtain ⟨A, rfl⟩ := hx
    exact ⟨A, 0, [], rfl, Nat.le_refl _, .nil, by simp⟩
  case v u =>
    simp only [Rel] at hx
    subst hx
    have hh : y = .slice none 0 0 ∧ es = 1 ∧ l = [] := by
      split at h
      · rename_i e; cases e
      · rename_i e; cases e
      · rename_i e; cases e
      · rename_i e; cases e; simp at h; exact ⟨rfl, h.1.symm, h.2⟩
      · cases h
    obtain ⟨rfl, rfl, rfl⟩ := hh
    exact ⟨none, 0, [], rfl, Nat.le_refl _, .nil, by simp⟩
  case sl id off len =>
    obtain ⟨k, hk, h⟩ := Option.bind_eq_some_iff.1 h
    split at h
    case isFalse => cases h
    rename_i hlen
    simp at h
    obtain ⟨rfl, rfl⟩ := h
    simp only [Rel] at hx
    obtain ⟨_, A, c, rfl, hx⟩ := hx
    obtain ⟨h1, h2, h3⟩ := hx k hk
    have hl : ((k.els.drop off).take len).length = len := by simp; omega
    rw [hl]
    by_cases h0 : len = 0
    · subst h0
      exact ⟨A, c, [], rfl, h1, by simp [RelL], by simp⟩
    · obtain ⟨x0, hx0⟩ : ∃ x, k.els[off]? = some x := ⟨_, List.getElem?_eq_getElem (by omega)⟩
      obtain ⟨hs0, cs, e, lo, hi, y, m1, m2, m3, m4, m5, m6, xs, m7, m8, m9⟩ := lies_at hg hk hx0
      have hA := h3 (by omega)
      subst hA
      refine ⟨_, c, (xs.drop off).take len, rfl, h1, RelL.take len (RelL.drop off m7), fun i x hx => ?_⟩
      rw [List.getElem?_take] at hx
      split at hx
      case isFalse => cases hx
      rename_i hi'
      rw [List.getElem?_drop] at hx
      obtain ⟨f1, f2⟩ := m9 (off + i) x hx
      refine ⟨f1, _, rfl, rfl, fun j hj => ?_⟩
      have e : g.bs id + off * k.es + i * k.es + j = g.bs id + ((off + i) * k.es + j) := by rw [Nat.add_mul]; omega
      rw [cellAt_row m1, ← f2 j hj]
      simp only [e]
def lenA (H : Heap) (d : TypeDesc) (x : AV) : Option Nat :=
  match d, x with
  | .slice _, .fz _ l => some l.length
  | .slice _, .sl _ _ len => some len
  | .slice _, .z0 => some 0
  | .slice _, .v (.slice _ n _) => some n
  | .string, .v (.string s) => some s.size
  | .array n _, _ => some n
  | _, _ => none
theorem ok_len {o : Oper} {p : Operand} {ts : Array TypeId} (ho : o.op = .call ⟨.builtin .len, #[p], ts⟩) {t : TypeId} (ht0 : ts[0]? = some t) {i : TI} (hi : tyI P t = some i) {n : Nat} (hn : lenA H i.desc (ev tm p) = some n) : OpOk P tm H o (.v (.int .i64 n)) H := by
  refine OpOk.val fun g a hH hg ht => ?_
  have h := ht p (by simp [ho, Op.operands, Call.operands])
  obtain ⟨e1, _⟩ := tyI_run hi g.w
  refine ⟨.int .i64 n, ?_, by simp [Rel]⟩
  simp only [execOp, ho, resolve, invoke, builtin]
  unfold lenA at hn
  split at hn <;> first | cases hn; done | skip
  all_goals
    rename_i hd he
    first | rw [he] at h | skip
    simp only [Option.some.injEq] at hn
    subst hn
  · simp only [Rel] at h; obtain ⟨A, c, xs, h1, _⟩ := h; simp [Builtin.len_, ht0, h1, e1, hd, goInt]
  · simp only [Rel] at h; obtain ⟨_, A, c, h1, _⟩ := h; simp [Builtin.len_, ht0, h1, e1, hd, goInt]
  · simp only [Rel] at h; obtain ⟨A, h1⟩ := h; simp [Builtin.len_, ht0, h1, e1, hd, goInt]
  · simp only [Rel] at h; simp [Builtin.len_, ht0, h, e1, hd, goInt]
  · simp only [Rel] at h; simp [Builtin.len_, ht0, h, e1, hd, goInt]
  · simp_all [Builtin.len_, goInt]

theorem ok_index {o : Oper} {t : TypeId} {x ix : Operand} (ho : o.op = .index t x ix) {i : TI} (hi : tyI P t = some i) {n : Nat} {e : TypeId} (hd : i.desc = .array n e) {j : TI} (hj : tyI P e = some j) {l : List AV} (hl : aggCells (ev tm x) = some l)
    {kd : IntKind} {z : Int} (hz : ev tm ix = .v (.int kd z)) (h0 : 0 ≤ z) (h1 : z < n) {r : AV} (hr : loadA j l (z.toNat * j.size) = some r) : OpOk P tm H o r H := by
  refine OpOk.val fun g a hH hg ht => ?_
  obtain ⟨cs, hcs, hrel⟩ := agg_rel (ht x (by simp [ho, Op.operands, Call.operands])) hl
  obtain ⟨v, h1', h2⟩ := part_sound (P := P) hj hrel hr
  obtain ⟨e1, _⟩ := tyI_run hi g.w
  obtain ⟨_, e2, _⟩ := tyI_run hj g.w
  have hzz := ht ix (by simp [ho, Op.operands, Call.operands])
  rw [hz] at hzz
  simp only [Rel] at hzz
  refine ⟨v, ?_, h2⟩
  simp [execOp, ho, Instr.index, hzz, asIntOf, e1, hd, hcs, h0, h1, e2, h1']
theorem ok_index_str {o : Oper} {t : TypeId} {x ix : Operand} (ho : o.op = .index t x ix) {i : TI} (hi : tyI P t = some i) (hd : i.desc = .string) {s : ByteArray} (hl : ev tm x = .v (.string s))
    {kd : IntKind} {z : Int} (hz : ev tm ix = .v (.int kd z)) (h0 : 0 ≤ z) {b : UInt8} (hb : s[z.toNat]? = some b) : OpOk P tm H o (.v (.int .u8 b.toNat)) H := by
  refine OpOk.val fun g a hH hg ht => ?_
  obtain ⟨e1, _⟩ := tyI_run hi g.w
  have hzz := ht ix (by simp [ho, Op.operands, Call.operands])
  rw [hz] at hzz
  have hs := ht x (by simp [ho, Op.operands, Call.operands])
  rw [hl] at hs
  simp only [Rel] at hzz hs
  refine ⟨.int .u8 b.toNat, ?_, by simp [Rel]⟩
  simp [execOp, ho, Instr.index, hzz, hs, asIntOf, e1, hd, h0, hb]

/-- The place of an element. -/
def elemA (H : Heap) (d : TypeDesc) (x : AV) (sz z : Nat) : Option AV :=
  match d, x with
  | .slice _, .fz es l => if es = sz then (l[z]?).bind fun y => if y.cells = [] then none else some (.fp y.cells 0) else none
  | .slice _, .sl id off len => (hget H id).bind fun k => if k.es = sz ∧ z < len then some (.ref id (off + z) 0) else none
  | .array n _, x => if z < n then shiftA x (z * sz) else none
  | _, _ => none
theorem ok_indexAddr {o : Oper} {t : TypeId} {x ix : Operand} (ho : o.op = .indexAddr t x ix) {i : TI} (hi : tyI P t = some i) {e : TypeId} (hd : i.desc = .slice e ∨ ∃ n, i.desc = .array n e) {j : TI} (hj : tyI P e = some j)
    {kd : IntKind} {z : Int} (hz : ev tm ix = .v (.int kd z)) (h0 : 0 ≤ z) {r : AV} (hr : elemA H i.desc (ev tm x) j.size z.toNat = some r) : OpOk P tm H o r H := by
  refine OpOk.val fun g a hH hg ht => ?_
  subst hH
  obtain ⟨e1, _⟩ := tyI_run hi g.w
  obtain ⟨_, e2, _⟩ := tyI_run hj g.w
  have hzz := ht ix (by simp [ho, Op.operands, Call.operands])
  rw [hz] at hzz
  simp only [Rel] at hzz
  have hx := ht x (by simp [ho, Op.operands, Call.operands])
  generalize ev tm x = X at hx hr
  unfold elemA at hr
  split at hr
  · rename_i e' es l hd'
    split at hr
    case isFalse => cases hr
    rename_i hes
    obtain ⟨y, hy, hr⟩ := Option.bind_eq_some_iff.1 hr
    split at hr
    · cases hr
    rename_i hne
    simp at hr
    subst hr
    simp only [Rel] at hx
    obtain ⟨A, c, xs, hA, hc, hl, hf, _⟩ := hx
    obtain ⟨yv, hyv, hrel⟩ := hl.get hy
    obtain ⟨f1, a', rfl, f3, f4, f5⟩ := hf _ yv hyv
    have hlt : z.toNat < l.length := (List.getElem?_eq_some_iff.1 hy).1
    have hd2 : i.desc = .slice e := by
      rcases hd with h | ⟨n, h⟩
      · exact h
      · rw [h] at hd'; cases hd'
    refine ⟨.pointer (some (a'.add (z.toNat * j.size))), ?_, ?_⟩
    · have : z < (l.length : Int) := by omega
      simp [execOp, ho, Instr.indexAt, hzz, asIntOf, e1, hd2, hA, h0, this, e2]
    · simp only [Rel]
      refine ⟨a'.block, a'.off + z.toNat * j.size, yv.cells.toList, ?_, cells_rel hrel hne, f4, fun m v hv => ?_⟩
      · rw [add_spot f3]; rfl
      · have hv' : yv.cells[m]? = some v := by simpa using hv
        have hm : m < es := by rw [← f1.1]; exact (Array.getElem?_eq_some_iff.1 hv').1
        refine ⟨f1.2 m v hv', ?_⟩
        rw [← hes, f5 m hm]; exact hv'
  · rename_i e' id off len hd'
    obtain ⟨k, hk, hr⟩ := Option.bind_eq_some_iff.1 hr
    split at hr
    case isFalse => cases hr
    rename_i hes
    simp at hr
    subst hr
    simp only [Rel] at hx
    obtain ⟨hid, A, c, hA, hx⟩ := hx
    obtain ⟨g1, g2, g3⟩ := hx k hk
    have hA' := g3 (by omega)
    subst hA'
    have hd2 : i.desc = .slice e := by
      rcases hd with h | ⟨n, h⟩
      · exact h
      · rw [h] at hd'; cases hd'
    refine ⟨.pointer (some ((⟨g.φ id, g.bs id + off * k.es, none⟩ : Addr).add (z.toNat * j.size))), ?_, ?_⟩
    · have : z < (len : Int) := by omega
      simp [execOp, ho, Instr.indexAt, hzz, asIntOf, e1, hd2, hA, h0, this, e2]
    · simp only [Rel, add_off]
      refine ⟨hid, _, rfl, fun k' hk' => ?_⟩
      rw [hk] at hk'
      cases hk'
      rw [← hes.1, Nat.add_mul]
      congr 1
      omega
  · rename_i n e' hd'
    split at hr
    case isFalse => cases hr
    rename_i hlt
    obtain ⟨p, hp, hrel⟩ := shift_sound hx hr
    have hd2 : i.desc = .array n e := by
      rcases hd with h | ⟨n', h⟩
      · rw [h] at hd'; cases hd'
      · rw [h] at hd'; cases hd'; exact h
    refine ⟨_, ?_, hrel⟩
    have : z < (n : Int) := by omega
    simp [execOp, ho, Instr.indexAt, hzz, asIntOf, e1, hd2, hp, h0, this, e2, Instr.sureAddr]
  · cases hr
end Go.AM
