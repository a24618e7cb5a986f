/- The abstract machine: texts as bytes, copy, an append of zeros. -/
import Derived.Test.YtlegolcbjjjofaaAm14
namespace Go.AM
variable {P : Program} {tm : TM} {H : Heap}

def bytesA (s : ByteArray) : List AV := s.data.toList.map fun b => .v (.int .u8 b.toNat)
theorem ok_bytes {o : Oper} {s d : TypeId} {p : Operand} (ho : o.op = .convert s d p) {i j m : TI} (hi : tyI P s = some i) (hj : tyI P d = some j) {e : TypeId} (hd : j.desc = .slice e) (hm : tyI P e = some m) (hm' : m.desc = .int .u8) {t : ByteArray} (hp : ev tm p = .v (.string t)) :
    OpOk P tm H o (.sl H.length 0 t.size) (H ++ [some ⟨1, true, bytesA t⟩]) := by
  intro g a hH hg ht
  subst hH
  have hpr := ht p (by simp [ho, Op.operands])
  rw [hp] at hpr
  simp only [Rel] at hpr
  have und : ∀ {t : TypeId} {i : TI}, tyI P t = some i → P.underlying t = some i.desc := by
    intro t i hi
    unfold tyI at hi
    obtain ⟨ti, h1, h⟩ := Option.bind_eq_some_iff.1 hi
    obtain ⟨d, h2, h⟩ := Option.bind_eq_some_iff.1 h
    obtain ⟨z, h3, h⟩ := Option.map_eq_some_iff.1 h
    subst h
    exact h2
  have hrun := Lib.run_convert_string_bytes (P := P) g.w s d e t (und hi) (hd ▸ und hj) (hm' ▸ und hm)
  let C := Lib.bytesCells g.w e t
  let g1 := g.push C e (C.size, C.size + 1) ⟨1, true, bytesA t⟩
  have hgr : t.size ≤ grownCap g.w t.size 0 e := cut_ge _ _ _ _
  have hCs : C.size = grownCap g.w t.size 0 e := by
    simp only [C, Lib.bytesCells, Array.size_append, Array.size_map, Array.size_replicate]
    have : t.data.size = t.size := rfl
    omega
  have hCj : ∀ m : Nat, m < t.size → C[m]? = some (.int .u8 (t.data.toList.getD m 0).toNat) := by
    intro m hm
    have hm' : m < t.data.size := hm
    simp only [C, Lib.bytesCells]
    rw [Array.getElem?_append_left (by simpa using hm')]
    rw [Array.getElem?_map, Array.getElem?_eq_getElem hm', List.getD_eq_getElem?_getD, Array.getElem?_toList, Array.getElem?_eq_getElem hm']
    rfl
  have hsz : t.data.toList.length = t.size := by simp
  have hxs : RelL g (bytesA t) (t.data.toList.map fun b => Value.int .u8 b.toNat) := by
    have := RelL.vs g (t.data.toList.map fun b => Value.int .u8 b.toNat)
    simpa [bytesA, Function.comp_def] using this
  have hg1 : GOk g1 := by
    refine push_ok hg rfl Nat.one_pos (by simp [bytesA, hCs]; omega) (.inr (Nat.le_refl _)) (fun _ => ⟨_, hxs, fun q x hx => ?_⟩)
    simp only [List.getElem?_map, Option.map_eq_some_iff] at hx
    obtain ⟨b, hb, rfl⟩ := hx
    have hq := (List.getElem?_eq_some_iff.1 hb).1
    refine ⟨⟨rfl, fun r v hv => ?_⟩, fun r hr => ?_⟩
    · cases r with
      | zero => simp [Value.cells] at hv; subst hv; rfl
      | succ r => simp [Value.cells] at hv
    · have hr' : r = 0 := by have : r < 1 := hr; omega
      subst hr'
      show C[0 + (q * 1 + 0)]? = _
      rw [Nat.zero_add, Nat.mul_one, Nat.add_zero, hCj q (by omega)]
      rw [List.getD_eq_getElem?_getD, hb]
      rfl
  have hheap : (Lib.bytesWorld g.w e t).heap = g1.w.heap := by
    apply Array.ext_getElem?
    intro q
    by_cases h1 : q < g.w.heap.size
    · rw [Lib.bytesWorld_at_old _ _ _ _ h1]
      simp only [g1, G.push, World.alloc]
      rw [Array.getElem?_push_lt h1, Array.getElem?_eq_getElem h1]
    · by_cases h2 : q = g.w.heap.size
      · subst h2
        rw [Lib.bytesWorld_at_new]
        simp only [g1, G.push, World.alloc]
        rw [Array.getElem?_push_size]
      · rw [Array.getElem?_eq_none (by rw [Lib.bytesWorld_size]; omega), Array.getElem?_eq_none (by simp [g1, G.push]; omega)]
  obtain ⟨h2, h3⟩ := reworld (w' := Lib.bytesWorld g.w e t) hheap (by show Rest (g.w.alloc _) _; unfold Lib.bytesWorld World.freeze; split <;> exact ⟨rfl, rfl, rfl⟩) hg1
  refine ⟨.slice (some ⟨g.w.heap.size, 0, none⟩) t.size (grownCap g.w t.size 0 e), { g1 with w := Lib.bytesWorld g.w e t }, .inl ?_, rfl, h2, ?_, (push_ren g _ _ _ _ hg).trans h3⟩
  · simp only [execOp, ho, hpr, Sem.run_bind, hrun, Result.andThen_ok, Sem.run_pure]
  · simp only [Rel]
    refine ⟨by simp [g1, G.push], _, _, rfl, fun k hk => ?_⟩
    have hgk := push_get g C e (C.size, C.size + 1) ⟨1, true, bytesA t⟩
    have hk' : hget (g.push C e (C.size, C.size + 1) ⟨1, true, bytesA t⟩).H g.H.length = some k := hk
    rw [hgk] at hk'
    cases hk'
    refine ⟨hgr, by simp [g1, G.push, hCs], fun _ => by simp [g1, G.push]⟩
/-- []byte of a row of bytes that the call itself has laid: the row, marked. -/
theorem ok_mark {o : Oper} {s : TypeId} {p : Operand} (ho : o.op = .convert s s p) {i m : TI} (hi : tyI P s = some i) {e : TypeId} (hd : i.desc = .slice e) (hm : tyI P e = some m) (hm' : m.desc = .int .u8) {id off len : Nat} (hp : ev tm p = .sl id off len) {k : Blk} (hk : hget H id = some k) (hown : k.own = true) (hl : off + len = k.els.length) (h0 : 0 < len) : OpOk P tm H o (.sl id off len) H := by
  intro g a hH hg ht
  subst hH
  have hpr := ht p (by simp [ho, Op.operands])
  rw [hp] at hpr
  have hpr' := hpr
  simp only [Rel] at hpr
  obtain ⟨hid, A, c, hA, hx⟩ := hpr
  obtain ⟨g1, g2, g3⟩ := hx k hk
  have hAA := g3 (by omega)
  subst hAA
  have hb := hg.blk id k hk
  have hs0 : g.sz id ≠ 0 := by
    have : 1 * 1 ≤ (off + c) * k.es := Nat.mul_le_mul (by omega) hb.pos
    omega
  obtain ⟨C, ce, lo, hi', m1, m2, m3, m4⟩ := hb.mem hs0
  let w' := g.w.freeze ⟨g.φ id, C.size, none⟩ 1
  have hlt := (Array.getElem?_eq_some_iff.1 m1).1
  have hwn : w'.heap[g.φ id]? = some (.cells C ce (if lo == hi' then (C.size, C.size + 1) else (min lo C.size, max hi' (C.size + 1)))) := by
    simp only [w', World.freeze]
    rw [if_neg (by decide)]
    simp only [Array.getElem?_modify, if_true, m1, Option.map_some]
  have hws : w'.heap.size = g.w.heap.size := by
    simp only [w', World.freeze]
    rw [if_neg (by decide)]
    simp
  have hwo : ∀ b, b ≠ g.φ id → w'.heap[b]? = g.w.heap[b]? := by
    intro b hb
    simp only [w', World.freeze]
    rw [if_neg (by decide)]
    simp only [Array.getElem?_modify]
    rw [if_neg (fun e => hb e.symm)]
  have hset : g.H.set id (some { k with els := k.els }) = g.H := by
    apply List.ext_getElem?
    intro q
    rw [List.getElem?_set]
    by_cases h : id = q
    · subst h; simp only [hid, if_true]; exact (hget_iff.1 hk).symm
    · simp only [h, if_false]
  have hfr : ∃ l h, (if lo == hi' then (C.size, C.size + 1) else (min lo C.size, max hi' (C.size + 1))) = (l, h) ∧ (l = h ∨ C.size ≤ l) := by
    by_cases h : lo = hi'
    · subst h; exact ⟨C.size, C.size + 1, by simp, .inr (Nat.le_refl _)⟩
    · have : ¬ ((lo == hi') = true) := by simpa using h
      rw [if_neg this]
      exact ⟨_, _, rfl, .inr (by omega)⟩
  obtain ⟨l', h', hf1, hf2⟩ := hfr
  rw [hf1] at hwn
  have hwr := write_okW hg hk hown hs0 m1 rfl (els := k.els) hb.fit m4 hwn hf2 hws hwo (by simp only [w', World.freeze]; split <;> exact ⟨rfl, rfl, rfl⟩)
  simp only at hwr
  rw [hset] at hwr
  refine ⟨_, { g with w := w' }, .inl ?_, rfl, hwr.1, Rel.mono hwr.2.ren hpr', hwr.2⟩
  obtain ⟨e1, _⟩ := tyI_run hi g.w
  obtain ⟨e2, _⟩ := tyI_run hm g.w
  have hsh : g.w.shape? (g.φ id) = some (ce, C.size) := by simp [World.shape?, m1]
  have hmk : (markStringish ⟨g.φ id, g.bs id + off * k.es, none⟩).run P g.w = .ok () w' := by
    simp only [markStringish, Sem.run_bind, run_shape, Result.andThen_ok, hsh, run_freeze, w']
  simp only [execOp, ho, convert, Sem.run_bind, e1, Result.andThen_ok, hA, hd, e2, hm', beq_self_eq_true, hmk, Sem.run_pure]

-- calls with lent rows
theorem Ent.nil (es : Nat) : Ent H (.v (.slice none 0 0)) (.fz es []) := by
  intro g y hH hg hx
  simp only [Rel] at hx ⊢
  subst hx
  exact ⟨none, 0, [], rfl, Nat.le_refl _, .nil, fun i x hx => by simp at hx, fun _ => rfl⟩
theorem Ent.sl0 {id len : Nat} {b : Blk} (hb : hget H id = some b) (ho : b.own = false) (hl : b.els.length = len) : Ent H (.sl id 0 len) (.fz b.es b.els) := by
  subst hl
  have := Ent.sl (H := H) (off := 0) (len := b.els.length) hb ho (by omega)
  simpa using this
/-- A row of a block that is lent. -/
theorem Ent.lent (id es : Nat) (l : List AV) {len : Nat} (hb : hget (frzH H) id = some ⟨es, false, l⟩) (hl : l.length = len) : Ent (frzH H) (.sl id 0 len) (.fz es l) := Ent.sl0 (b := ⟨es, false, l⟩) hb rfl hl
theorem mergeH_nil (H hout : Heap) : mergeH H [] hout = H ++ renH (fun j => some (H.length + j)) hout := by
  simp [mergeH, setIds, renH, back]
theorem renL_congr' {ρ ρ' : Nat → Option Nat} (h : ρ = ρ') (l : List AV) : renL ρ l = renL ρ' l := by rw [h]
/-- A call of a function that is handed no blocks: rows are lent, a plain value comes back. -/
theorem CSpec.lendV {f : FuncId} {args args' args'' : List AV} {y : Value} (h : CSpec P f [] args' [] (.v y)) (hv : EntL (frzH H) args args'') (ha : renL (pos []) args'' = args') : CallOk P f H args (.v y) H := by
  have h1 := h.pass (H := frzH H) (args := args'') [] (by decide) (by simp) rfl ha
  rw [mergeH_nil] at h1
  have h2 := (h1.view hv)
  have h3 := CallOk.lend (R := []) (h2.eq rfl (by simp [renH])) (by simp [AV.ren, AV.nofz]) rfl
  exact h3.eq (by simp [AV.ren]) (by simp)
/-- A call of a function that is handed no blocks: rows are lent, new blocks come back. -/
theorem CSpec.lendR {f : FuncId} {args args' args'' : List AV} {x : AV} {R : List Blk} (h : CSpec P f [] args' (R.map some) x) (hv : EntL (frzH H) args args'') (ha : renL (pos []) args'' = args') {R' : List Blk} {x' : AV}
    (hR : R.map (Blk.ren fun j => some (H.length + j)) = R') (hx : x.ren (fun j => some (H.length + j)) = x') (hn : x'.nofz = true) (hRn : (R'.all fun b => b.own && nofzL b.els) = true) : CallOk P f H args x' (H ++ R'.map some) := by
  have h1 := h.pass (H := frzH H) (args := args'') [] (by decide) (by simp) rfl ha
  rw [mergeH_nil, frzH_length] at h1
  have h2 := h1.view hv
  refine CallOk.lend (R := R') (h2.eq ?_ ?_) hn hRn
  · rw [← hx]; rfl
  · rw [← hR]; simp [renH, Function.comp_def]
/-- The same, where what is shown is frozen for good, and what comes back may lean on it. -/
theorem CSpec.show_ {f : FuncId} {args args' args'' : List AV} {x : AV} {hout : Heap} (h : CSpec P f [] args' hout x) (hv : EntL H args args'') (ha : renL (pos []) args'' = args') : CallOk P f H args (x.ren fun j => some (H.length + j)) (H ++ renH (fun j => some (H.length + j)) hout) := by
  have h1 := h.pass (H := H) (args := args'') [] (by decide) (by simp) rfl ha
  rw [mergeH_nil] at h1
  exact (h1.view hv).eq rfl rfl

theorem rowA_sl0 {id len : Nat} {k : Blk} (hk : hget H id = some k) (hl : k.els.length = len) : rowA H (.sl id 0 len) = some (k.es, k.els) := by
  subst hl
  simp [rowA, hk]
theorem rowA_sl {x : AV} {id len : Nat} {k : Blk} (hx : x = .sl id 0 len) (hk : hget H id = some k) (hl : k.els.length = len) : rowA H x = some (k.es, k.els) := hx ▸ rowA_sl0 hk hl
section
variable {o : Oper} {p q : Operand} {t t2 e : TypeId}
/-- Onto a row of a block. -/
theorem ok_append_sl (ho : o.op = .call ⟨.builtin .append, #[p, q], #[t, t2]⟩) {i j : TI} (hi : tyI P t = some i) (hd : i.desc = .slice e) (hj : tyI P e = some j) (hj0 : 0 < j.size) (hb0 : j.bytes ≠ 0) (hz : fits (cav j.zero) j.size = true)
    {i2 : TI} (hi2 : tyI P t2 = some i2) (hd2 : ∀ k, i2.desc ≠ .int k) {es2 : Nat} {l2 : List AV} (hq : rowA H (ev tm q) = some (es2, l2)) (hes : es2 = j.size ∨ l2 = []) {id off len : Nat} (hp : ev tm p = .sl id off len) {k : Blk} (hk : hget H id = some k) (hown : k.own = true) (hke : k.es = j.size) (hend : off + len = k.els.length)
    (hbound : (len + l2.length) * j.bytes ≤ 140737488355328) : OpOk P tm H o (.sl H.length 0 (len + l2.length)) (H.set id none ++ [some ⟨j.size, true, k.els.drop off ++ l2⟩]) :=
  ok_append ho hi hd hj hj0 hb0 hz hi2 hd2 hq hes (by rw [hp]; simp [appA, hk, hown, hke, hend]) (n1 := len) (by rw [hp, hd]; rfl) hbound
theorem ok_append_ints (ho : o.op = .call ⟨.builtin .append, #[p, q], #[t, t2]⟩) {i j : TI} (hi : tyI P t = some i) (hd : i.desc = .slice e) (hj : tyI P e = some j) (hj1 : j.size = 1) (hb0 : j.bytes ≠ 0) (hz : fits (cav j.zero) j.size = true)
    {i2 : TI} (hi2 : tyI P t2 = some i2) (hd2 : ∀ k, i2.desc ≠ .int k) {k : IntKind} {xs ys : List Int} {es2 : Nat} {l2 : List AV} (hq : rowA H (ev tm q) = some (es2, l2)) (he2 : es2 = 1) (hl2 : l2 = ints k ys) {id len : Nat} (hp : ev tm p = .sl id 0 len) {b : Blk} (hk : hget H id = some b) (hown : b.own = true) (hbe : b.es = 1) (hbl : b.els = ints k xs) (hlen : len = xs.length)
    (hbound : (xs.length + ys.length) * j.bytes ≤ 140737488355328) : OpOk P tm H o (.sl H.length 0 (xs ++ ys).length) (H.set id none ++ [some ⟨1, true, ints k (xs ++ ys)⟩]) := by
  subst hlen hl2 he2
  refine (ok_append_sl ho hi hd hj (by omega) hb0 hz hi2 hd2 hq (.inl hj1.symm) hp hk hown (by rw [hbe, hj1]) (by rw [hbl, ints_length, Nat.zero_add]) (by rw [ints_length]; exact hbound)).eq ?_ ?_
  · rw [ints_length, List.length_append]
  · rw [hbl, List.drop_zero, ints_append, hj1]
end
theorem ok_nil_no {o : Oper} {op : BinOp} {t t' : TypeId} {p q : Operand} (ho : o.op = .binOp op t p q t') {i : TI} (hi : tyI P t = some i) {e : TypeId} (hd : i.desc = .slice e) (hop : op = .eql ∨ op = .neq) {es : Nat} {l : List AV} (hp : ev tm p = .fz es l) (hl : l ≠ []) (hq : ev tm q = .v (.slice none 0 0)) : OpOk P tm H o (.v (.bool (op == .neq))) H := by
  have hd' : P.underlying t = some (.slice e) := by
    rw [← hd]
    unfold tyI at hi
    obtain ⟨ti, h1, h⟩ := Option.bind_eq_some_iff.1 hi
    obtain ⟨d, h2, h⟩ := Option.bind_eq_some_iff.1 h
    obtain ⟨z, h3, h⟩ := Option.map_eq_some_iff.1 h
    subst h
    exact h2
  refine OpOk.val fun g a hH hg ht => ?_
  have h1 := ht p (by simp [ho, Op.operands])
  have h2 := ht q (by simp [ho, Op.operands])
  rw [hp] at h1
  rw [hq] at h2
  simp only [Rel] at h1 h2
  obtain ⟨A, c, xs, hA, hc, _, _, hN⟩ := h1
  have hA' : A.isNone = false := by
    cases A with
    | none => have := hN rfl; have : l.length ≠ 0 := fun h => hl (List.length_eq_zero_iff.1 h); omega
    | some a => rfl
  have hu : ∀ w, (underlying t).run P w = .ok (.slice e) w := fun w => by simp [underlying, hd']
  have hE : (Op.equal t (.slice A l.length c) (.slice none 0 0)).run P g.w = .ok A.isNone g.w := equal_run hd' g.w _ _ _ (fun m => by cases A <;> simp [Op.equalIn, hu])
  rw [hA'] at hE
  rcases hop with rfl | rfl
  · exact ⟨.bool false, by simp [execOp, ho, hA, h2, eqGuard, binOp, hE], by simp [Rel]⟩
  · exact ⟨.bool true, by simp [execOp, ho, hA, h2, eqGuard, binOp, hE], by simp [Rel]⟩
theorem EntL.append {l l' m m' : List AV} (h : EntL H l l') (h' : EntL H m m') : EntL H (l ++ m) (l' ++ m') := by
  intro g ys hH hg hx
  have h1 := hx.take l.length
  have h2 := hx.drop l.length
  rw [List.take_left] at h1
  rw [List.drop_left] at h2
  have := (h g _ hH hg h1).append (h' g _ hH hg h2)
  rwa [List.take_append_drop] at this
/-- A new row, frozen as it comes. -/
theorem CSpec.frz {f : FuncId} {args : List AV} {es len : Nat} {own : Bool} {l : List AV} (h : CSpec P f [] args [some ⟨es, own, l⟩] (.sl 0 0 len)) (hl : l.length = len) (hr : renL (pos []) l = l) : CSpec P f [] args [] (.fz es l) := by
  refine ⟨h.1, fun g vals hH hg hx => (h.2 g vals hH hg hx).mono fun e w' ⟨v, g', h1, h2, h3, h4, h5, h6, _⟩ => ?_⟩
  have he : TEnt 0 [(0, AV.sl 0 0 len)] [some ⟨es, own, l⟩] [(0, .fz es l)] [] :=
    ((TEnt.freeze 0 (b := ⟨es, own, l⟩) rfl).trans (TEnt.put1 0 (Ent.sl0 (b := ⟨es, false, l⟩) (by rfl) rfl hl))).trans (TEnt.fin [] (by decide) (by simp) rfl ⟨by simp [normT, tget, AV.ren, hr], trivial⟩)
  obtain ⟨g2, k1, k2, k3, k4, k5, k6⟩ := he g' (fun _ => v) h3 (Nat.zero_le _) h4 (fun t => by
    simp only [tget]
    split
    · exact h5
    · simp [Rel])
  have k4' := k4 0
  simp only [tget, if_true] at k4'
  exact ⟨v, g2, h1, k1.trans h2, k2, k3, k4', h6.trans k5, ⟨Nat.zero_le _, fun i k' hi => by simp at hi⟩⟩
/-- A call of a function that is handed nothing of the call's own and makes nothing that may be written. -/
theorem CSpec.plain {f : FuncId} {args args' : List AV} {x : AV} (h : CSpec P f [] args' [] x) (ha : renL (pos []) args = args') (hx : x.ren (fun j => some (H.length + j)) = x) : CallOk P f H args x H := by
  have h1 := h.pass (H := H) (args := args) [] (by decide) (by simp) rfl ha
  rw [mergeH_nil] at h1
  refine h1.eq ?_ (by simp [renH])
  rw [← hx]
  simp only [back, List.getElem?_nil, List.length_nil, Nat.sub_zero]
  rw [hx]
  exact hx
/-- The same, with new blocks. -/
theorem CSpec.fresh {f : FuncId} {args args' : List AV} {x x' : AV} {hout H' : Heap} (h : CSpec P f [] args' hout x) (ha : renL (pos []) args = args') (hx : x.ren (fun j => some (H.length + j)) = x') (hH : renH (fun j => some (H.length + j)) hout = H') : CallOk P f H args x' (H ++ H') := by
  have h1 := h.pass (H := H) (args := args) [] (by decide) (by simp) rfl ha
  rw [mergeH_nil] at h1
  exact h1.eq hx (by rw [hH])
end Go.AM
