/- The abstract machine: cuts, conversions, the least and the greatest. -/
import Derived.Test.YtlegolcbjjjofaaAm5
import Derived.Laws.BytesString
namespace Go.AM
variable {P : Program} {tm : TM} {H : Heap}

/-- A bound of a cut that may be absent. -/
def bndA (tm : TM) (x : Option Operand) : Option (Option Int) :=
  match x with
  | none => some none
  | some x => match ev tm x with
    | .v (.int _ z) => some (some z)
    | _ => none
theorem bnd_rel {g : G} {a : Act} {x : Option Operand} (h : ∀ y, x = some y → Rel g (ev tm y) (a.eval y)) {z : Option Int} (hz : bndA tm x = some z) :
    (x.map a.eval = none ∧ z = none) ∨ ∃ k n, x.map a.eval = some (.int k n) ∧ z = some n := by
  cases x with
  | none => simp [bndA] at hz; exact .inl ⟨rfl, hz.symm⟩
  | some x =>
    have hx := h x rfl
    simp only [bndA] at hz
    split at hz
    · rename_i k n he
      rw [he] at hx
      simp only [Rel] at hx
      simp at hz
      exact .inr ⟨k, n, by simp [hx], hz.symm⟩
    · cases hz
theorem bounds_run {low high : Option Value} {lo hi : Option Int} (hlo : (low = none ∧ lo = none) ∨ ∃ k n, low = some (.int k n) ∧ lo = some n) (hhi : (high = none ∧ hi = none) ∨ ∃ k n, high = some (.int k n) ∧ hi = some n)
    (b : Bool) (len cap : Nat) (h0 : 0 ≤ lo.getD 0) (h1 : lo.getD 0 ≤ hi.getD len) (h2 : hi.getD len ≤ cap) (w : World) :
    (Instr.sliceBounds b len cap low high none).run P w = .ok ((lo.getD 0).toNat, (hi.getD len).toNat, cap) w := by
  rcases hlo with ⟨rfl, rfl⟩ | ⟨k, n, rfl, rfl⟩ <;> rcases hhi with ⟨rfl, rfl⟩ | ⟨k', m, rfl, rfl⟩
  · simp [Instr.sliceBounds]
  · simp at h1 h2
    have h3 : m ≤ (cap : Int) := h2
    simp [Instr.sliceBounds, Instr.sliceBound, asIntOf, h1, h3]
  · simp at h0 h1 h2
    simp [Instr.sliceBounds, Instr.sliceBound, asIntOf, h0, h1]
  · simp at h0 h1 h2
    have h3 : m ≤ (cap : Int) := h2
    have h4 : (0 : Int) ≤ m := by omega
    have h5 : n ≤ (m.toNat : Int) := by omega
    simp only [Instr.sliceBounds, Instr.sliceBound, asIntOf, Sem.run_bind, Sem.run_pure, Result.andThen_ok, h0, h4, h3, and_self, if_true, h5, Option.getD_some]
def sliceA (H : Heap) (d : TypeDesc) (sz : Nat) (x : AV) (lo hi mx : Option Int) : Option AV :=
  match mx with
  | some m => if lo.getD 0 = 0 ∧ hi = some 0 ∧ m = 0 then
      match d, x with
      | .slice _, .fz .. => some .z0
      | .slice _, .sl .. => some .z0
      | .slice _, .z0 => some .z0
      | .slice _, .v (.slice none 0 0) => some (.v (.slice none 0 0))
      | _, _ => none
    else none
  | none => match d, x with
    | .slice _, .fz es l => if es = sz ∧ 0 ≤ lo.getD 0 ∧ lo.getD 0 ≤ hi.getD l.length ∧ hi.getD l.length ≤ l.length then some (.fz es ((l.take (hi.getD l.length).toNat).drop (lo.getD 0).toNat)) else none
    | .slice _, .sl id off len => (hget H id).bind fun k => if k.es = sz ∧ 0 ≤ lo.getD 0 ∧ lo.getD 0 ≤ hi.getD len ∧ hi.getD len ≤ len then some (.sl id (off + (lo.getD 0).toNat) ((hi.getD len).toNat - (lo.getD 0).toNat)) else none
    | .slice _, .z0 => if lo.getD 0 = 0 ∧ hi.getD 0 = 0 then some .z0 else none
    | .slice _, .v (.slice none 0 0) => if lo.getD 0 = 0 ∧ hi.getD 0 = 0 then some (.v (.slice none 0 0)) else none
    | .string, .v (.string s) => if 0 ≤ lo.getD 0 ∧ lo.getD 0 ≤ hi.getD s.size ∧ hi.getD s.size ≤ s.size then some (.v (.string (s.extract (lo.getD 0).toNat (hi.getD s.size).toNat))) else none
    | _, _ => none
theorem bounds0_run {low : Option Value} {lo : Option Int} (hlo : (low = none ∧ lo = none) ∨ ∃ k n, low = some (.int k n) ∧ lo = some n) {k k' : IntKind} (b : Bool) (len cap : Nat) (h0 : lo.getD 0 = 0) (w : World) :
    (Instr.sliceBounds b len cap low (some (.int k 0)) (some (.int k' 0))).run P w = .ok (0, 0, 0) w := by
  rcases hlo with ⟨rfl, rfl⟩ | ⟨k, n, rfl, rfl⟩
  · simp [Instr.sliceBounds, Instr.sliceBound, asIntOf]
  · simp at h0
    subst h0
    simp [Instr.sliceBounds, Instr.sliceBound, asIntOf]
theorem ok_slice {o : Oper} {t : TypeId} {x : Operand} {lo hi mx : Option Operand} (ho : o.op = .slice t x lo hi mx) {i : TI} (hi' : tyI P t = some i) {sz : Nat} (hsz : (∃ e j, i.desc = .slice e ∧ tyI P e = some j ∧ j.size = sz) ∨ i.desc = .string)
    {zl zh zm : Option Int} (hl : bndA tm lo = some zl) (hh : bndA tm hi = some zh) (hm : bndA tm mx = some zm) {r : AV} (hr : sliceA H i.desc sz (ev tm x) zl zh zm = some r) : OpOk P tm H o r H := by
  refine OpOk.val fun g a hH hg ht => ?_
  subst hH
  obtain ⟨e1, _⟩ := tyI_run hi' g.w
  have rl := bnd_rel (fun y hy => ht y (by simp [ho, Op.operands, hy])) hl
  have rh := bnd_rel (fun y hy => ht y (by simp [ho, Op.operands, hy])) hh
  have rm := bnd_rel (fun y hy => ht y (by simp [ho, Op.operands, hy])) hm
  have hx := ht x (by simp [ho, Op.operands, Call.operands])
  generalize ev tm x = X at hx hr
  -- the run of a slice
  have runS : ∀ {A : Option Addr} {n c : Nat}, a.eval x = .slice A n c → (∃ e j, i.desc = .slice e ∧ tyI P e = some j ∧ j.size = sz) → zm = none → 0 ≤ zl.getD 0 → zl.getD 0 ≤ zh.getD n → zh.getD n ≤ c →
      (execOp a.eval o).run P g.w = .ok (.value (.slice (if c = (zl.getD 0).toNat then A else A.map (·.add ((zl.getD 0).toNat * sz))) ((zh.getD n).toNat - (zl.getD 0).toNat) (c - (zl.getD 0).toNat))) g.w := by
    rintro A n c hA ⟨e, j, hd, hj, rfl⟩ rfl h0 h1 h2
    obtain ⟨_, e2, _⟩ := tyI_run hj g.w
    have hmx : mx.map a.eval = none := by
      rcases rm with ⟨h, _⟩ | ⟨k, m, _, h⟩
      · exact h
      · cases h
    have hb := bounds_run (P := P) rl rh true n c h0 h1 h2 g.w
    simp only [execOp, ho, hmx, hA, Instr.sliceAt, Instr.slice, Sem.run_bind, e1, Result.andThen_ok, hd, hb, e2, Sem.run_pure]
  have runZ : ∀ {A : Option Addr} {n c : Nat}, a.eval x = .slice A n c → (∃ e, i.desc = .slice e) → (∃ e j, i.desc = .slice e ∧ tyI P e = some j ∧ j.size = sz) → zl.getD 0 = 0 → zh = some 0 → zm = some 0 → (execOp a.eval o).run P g.w = .ok (.value (.slice A 0 0)) g.w := by
    rintro A n c hA ⟨e, hd⟩ ⟨e', j, hd', hj, rfl⟩ h0 rfl rfl
    rw [hd] at hd'
    cases hd'
    obtain ⟨_, e2, _⟩ := tyI_run hj g.w
    obtain ⟨k, hmx⟩ : ∃ k, mx.map a.eval = some (.int k 0) := by
      rcases rm with ⟨_, h⟩ | ⟨k, m, h, h'⟩
      · cases h
      · cases h'; exact ⟨k, h⟩
    obtain ⟨k', hhx⟩ : ∃ k, hi.map a.eval = some (.int k 0) := by
      rcases rh with ⟨_, h⟩ | ⟨k, m, h, h'⟩
      · cases h
      · cases h'; exact ⟨k, h⟩
    have hb := bounds0_run (P := P) (k := k') (k' := k) rl true n c h0 g.w
    simp only [execOp, ho, hmx, hhx, hA, Instr.sliceAt, Instr.slice, Sem.run_bind, e1, Result.andThen_ok, hd, hb, e2, Sem.run_pure, if_true, Nat.sub_self]
  have hS : ∀ {e}, i.desc = .slice e → ∃ e j, i.desc = .slice e ∧ tyI P e = some j ∧ j.size = sz := fun h => by
    rcases hsz with h' | h'
    · exact h'
    · rw [h] at h'; cases h'
  unfold sliceA at hr
  split at hr
  · rename_i m
    split at hr
    case isFalse => cases hr
    rename_i hz
    obtain ⟨z1, z2, rfl⟩ := hz
    split at hr <;> first | cases hr; done | skip
    all_goals
      rename_i hd
      simp only [Option.some.injEq] at hr
      subst hr
      simp only [Rel] at hx
    · obtain ⟨A, c, xs, hA, _⟩ := hx; exact ⟨_, runZ hA ⟨_, hd⟩ (hS hd) z1 z2 rfl, by simp [Rel]⟩
    · obtain ⟨_, A, c, hA, _⟩ := hx; exact ⟨_, runZ hA ⟨_, hd⟩ (hS hd) z1 z2 rfl, by simp [Rel]⟩
    · obtain ⟨A, hA⟩ := hx; exact ⟨_, runZ hA ⟨_, hd⟩ (hS hd) z1 z2 rfl, by simp [Rel]⟩
    · exact ⟨_, runZ hx ⟨_, hd⟩ (hS hd) z1 z2 rfl, by simp [Rel]⟩
  · split at hr
    · rename_i e es l hd
      split at hr
      case isFalse => cases hr
      rename_i hc
      obtain ⟨rfl, c1, c2, c3⟩ := hc
      simp only [Option.some.injEq] at hr
      subst hr
      simp only [Rel] at hx
      obtain ⟨A, c, xs, hA, hcl, hl', hf, hAn⟩ := hx
      have hlen : ((l.take (zh.getD l.length).toNat).drop (zl.getD 0).toNat).length = (zh.getD l.length).toNat - (zl.getD 0).toNat := by
        simp; omega
      refine ⟨_, runS hA (hS hd) rfl c1 c2 (by omega), ?_⟩
      simp only [Rel]
      refine ⟨_, _, (xs.take (zh.getD l.length).toNat).drop (zl.getD 0).toNat, by rw [hlen], by rw [hlen]; omega, RelL.drop _ (RelL.take _ hl'), ?_, fun hN => ?_⟩
      rotate_left
      · have hA0 : A = none := by
          split at hN
          · exact hN
          · cases A with
            | none => rfl
            | some a => cases hN
        have := hAn hA0
        omega
      intro q y hy
      rw [List.getElem?_drop, List.getElem?_take] at hy
      split at hy
      case isFalse => cases hy
      rename_i hq
      obtain ⟨f1, a', rfl, f3, f4, f5⟩ := hf _ y hy
      have hne : ¬ c = (zl.getD 0).toNat := by omega
      refine ⟨f1, a'.add ((zl.getD 0).toNat * es), by rw [if_neg hne]; rfl, by rw [add_spot f3], by rw [add_spot f3]; exact f4, fun m hm => ?_⟩
      rw [add_spot f3]
      have := f5 m hm
      rw [← this]
      congr 1
      simp only [Nat.add_mul]
      omega
    · rename_i e id off len hd
      obtain ⟨k, hk, hr⟩ := Option.bind_eq_some_iff.1 hr
      split at hr
      case isFalse => cases hr
      rename_i hc
      obtain ⟨c0, c1, c2, c3⟩ := hc
      simp only [Option.some.injEq] at hr
      subst hr
      simp only [Rel] at hx
      obtain ⟨hid, A, c, hA, hx⟩ := hx
      obtain ⟨g1, g2, g3⟩ := hx k hk
      refine ⟨_, runS hA (hS hd) rfl c1 c2 (by omega), ?_⟩
      simp only [Rel]
      refine ⟨hid, _, _, rfl, fun k' hk' => ?_⟩
      rw [hk] at hk'
      cases hk'
      refine ⟨by omega, ?_, fun hne => ?_⟩
      · refine Nat.le_trans (Nat.add_le_add_left (Nat.mul_le_mul_right _ ?_) _) g2
        omega
      · have hne : ¬ c = (zl.getD 0).toNat := by omega
        rw [if_neg hne, g3 (by omega)]
        simp only [Option.map_some, add_off, ← c0, Nat.add_mul, Nat.add_assoc]
    · rename_i e hd
      split at hr
      case isFalse => cases hr
      rename_i hc
      obtain ⟨c1, c2⟩ := hc
      simp only [Option.some.injEq] at hr
      subst hr
      simp only [Rel] at hx
      obtain ⟨A, hA⟩ := hx
      have e2 : zh.getD ((0 : Nat) : Int) = 0 := c2
      refine ⟨_, runS hA (hS hd) rfl (by omega) (by omega) (by omega), ?_⟩
      simp only [Rel]
      refine ⟨_, by rw [c1, e2]; rfl⟩
    · rename_i e hd
      split at hr
      case isFalse => cases hr
      rename_i hc
      obtain ⟨c1, c2⟩ := hc
      simp only [Option.some.injEq] at hr
      subst hr
      simp only [Rel] at hx
      have e2 : zh.getD ((0 : Nat) : Int) = 0 := c2
      refine ⟨_, runS hx (hS hd) rfl (by omega) (by omega) (by omega), ?_⟩
      simp only [Rel]
      rw [c1, e2]; rfl
    · rename_i s hd
      split at hr
      case isFalse => cases hr
      rename_i hc
      obtain ⟨c1, c2, c3⟩ := hc
      simp only [Option.some.injEq] at hr
      subst hr
      simp only [Rel] at hx
      have hmx : mx.map a.eval = none := by
        rcases rm with ⟨h, _⟩ | ⟨k, m, _, h⟩
        · exact h
        · cases h
      have hb := bounds_run (P := P) rl rh false s.size s.size c1 c2 c3 g.w
      refine ⟨.string (s.extract (zl.getD 0).toNat (zh.getD s.size).toNat), ?_, by simp [Rel]⟩
      simp only [execOp, ho, hmx, hx, Instr.sliceAt, Instr.slice, Sem.run_bind, e1, Result.andThen_ok, hd, hb, Sem.run_pure, Option.isSome_none]
      simp [hb]
    · cases hr

-- the least and the greatest of two whole numbers
theorem ok_min {o : Oper} {p q : Operand} {ts : Array TypeId} (ho : o.op = .call ⟨.builtin .min, #[p, q], ts⟩) {k k' : IntKind} {x y : Int} (hp : ev tm p = .v (.int k x)) (hq : ev tm q = .v (.int k' y)) : OpOk P tm H o (.v (.int k (min x y))) H := by
  refine OpOk.val fun g a hH hg ht => ?_
  have h1 := ht p (by simp [ho, Op.operands, Call.operands])
  have h2 := ht q (by simp [ho, Op.operands, Call.operands])
  rw [hp] at h1
  rw [hq] at h2
  simp only [Rel] at h1 h2
  refine ⟨.int k (min x y), ?_, by simp only [Rel]⟩
  have e : (if y < x then y else x) = min x y := by
    by_cases h : y < x
    · rw [if_pos h]; omega
    · rw [if_neg h]; omega
  simp [execOp, ho, resolve, invoke, builtin, Builtin.min_, h1, h2, Builtin.min2, e]
theorem ok_max {o : Oper} {p q : Operand} {ts : Array TypeId} (ho : o.op = .call ⟨.builtin .max, #[p, q], ts⟩) {k k' : IntKind} {x y : Int} (hp : ev tm p = .v (.int k x)) (hq : ev tm q = .v (.int k' y)) : OpOk P tm H o (.v (.int k (max x y))) H := by
  refine OpOk.val fun g a hH hg ht => ?_
  have h1 := ht p (by simp [ho, Op.operands, Call.operands])
  have h2 := ht q (by simp [ho, Op.operands, Call.operands])
  rw [hp] at h1
  rw [hq] at h2
  simp only [Rel] at h1 h2
  refine ⟨.int k (max x y), ?_, by simp only [Rel]⟩
  have e : (if y > x then y else x) = max x y := by
    by_cases h : y > x
    · rw [if_pos h]; omega
    · rw [if_neg h]; omega
  simp [execOp, ho, resolve, invoke, builtin, Builtin.max_, h1, h2, Builtin.max2, e]

-- conversions
theorem ok_conv_int {o : Oper} {s d : TypeId} {p : Operand} (ho : o.op = .convert s d p) {i j : TI} (hi : tyI P s = some i) (hj : tyI P d = some j) {k : IntKind} (hk : j.desc = .int k) {k' : IntKind} {n : Int} (hp : ev tm p = .v (.int k' n)) : OpOk P tm H o (.v (.int k (k.wrap n))) H := by
  refine OpOk.val fun g a hH hg ht => ?_
  have h1 := ht p (by simp [ho, Op.operands, Call.operands])
  rw [hp] at h1
  simp only [Rel] at h1
  obtain ⟨e1, _⟩ := tyI_run hi g.w
  obtain ⟨e2, _⟩ := tyI_run hj g.w
  refine ⟨.int k (k.wrap n), ?_, by simp only [Rel]⟩
  simp only [execOp, ho, convert, Sem.run_bind, e1, e2, Result.andThen_ok, h1, hk]
  simp [Conv.intToInt]
/-- The text of bytes. -/
def strOf (bs : List UInt8) : ByteArray := ⟨bs.toArray⟩
theorem foldl_push (bs : List Int) : ∀ s : ByteArray, bs.foldl (fun r n => r.push (UInt8.ofNat n.toNat)) s = ⟨s.data ++ (bs.map fun n => UInt8.ofNat n.toNat).toArray⟩ := by
  induction bs with
  | nil => intro s; simp
  | cons b bs ih =>
    intro s
    rw [List.foldl_cons, ih]
    simp only [ByteArray.push, List.map_cons]
    congr 1
    apply Array.ext'
    simp
theorem ok_conv_str {o : Oper} {s d : TypeId} {p : Operand} (ho : o.op = .convert s d p) {i j m : TI} (hi : tyI P s = some i) (hj : tyI P d = some j) {e : TypeId} (he : i.desc = .slice e) (hm : tyI P e = some m) (hm' : m.desc = .int .u8) (hd : j.desc = .string)
    {es : Nat} {l : List AV} (hr : rowA H (ev tm p) = some (es, l)) (hes : es = 1) {bs : List UInt8} (hb : bytesOf l = some bs) : OpOk P tm H o (.v (.string (strOf bs))) H := by
  refine OpOk.val fun g a hH hg ht => ?_
  subst hH
  obtain ⟨e1, _⟩ := tyI_run hi g.w
  obtain ⟨e2, _⟩ := tyI_run hj g.w
  obtain ⟨e3, _⟩ := tyI_run hm g.w
  obtain ⟨A, c, xs, h1, h2, h3, h4⟩ := rowA_sound hg hr (ht p (by simp [ho, Op.operands, Call.operands]))
  obtain ⟨ns, rfl, rfl⟩ := bytesOf_rel h3 hb
  refine ⟨.string (strOf (ns.map fun n => UInt8.ofNat n.toNat)), ?_, by simp only [Rel]⟩
  simp only [execOp, ho, convert, Sem.run_bind, e1, e2, Result.andThen_ok, h1, he, hd, e3, hm']
  have hlen : ns.length = l.length := by simpa using h3.length
  cases A with
  | none =>
    have : ns = [] := by
      cases ns with
      | nil => rfl
      | cons n ns =>
        obtain ⟨_, a', h, _⟩ := h4 0 (.int .u8 n) rfl
        cases h
    subst this
    simp [Conv.bytesToString, strOf]
    rfl
  | some a' =>
    have hl : (loadCells a' l.length).run P g.w = .ok (ns.map (Value.int .u8)).toArray g.w := by
      have := run_loadCells_list (P := P) (w := g.w) a' (ns.map (Value.int .u8)) (fun q v hv => by
        obtain ⟨f1, a2, h, f3, f4⟩ := h4 q v hv
        cases h
        have := f4 0 (by omega)
        subst hes
        have hv1 : v.cells[0]? = some v := by
          simp only [List.getElem?_map, Option.map_eq_some_iff] at hv
          obtain ⟨n, _, rfl⟩ := hv
          rfl
        rw [hv1] at this
        rw [add_spot f3]
        simpa using this)
      rw [← hlen]
      simpa using this
    rw [run_bytesToString g.w a' l.length c ns hl]
    rw [foldl_push]
    simp [strOf]
end Go.AM
