/- The abstract machine: copy; an append of zeros; structs and arrays compared. -/
import Derived.Test.YtlegolcbjjjofaaAm15
import Derived.Laws.StructEq
namespace Go.AM
variable {P : Program} {tm : TM} {H : Heap}

theorem flatC_take {es : Nat} (xs : List Value) (h : ∀ x ∈ xs, x.cells.size = es) (n : Nat) : flatC (xs.take n) = (flatC xs).take (n * es) := by
  by_cases hn : n ≤ xs.length
  · have h1 : flatC xs = flatC (xs.take n) ++ flatC (xs.drop n) := by rw [← flatC_append, List.take_append_drop]
    have h2 : (flatC (xs.take n)).length = n * es := by
      rw [flatC_length (es := es) _ (fun x hx => h x (List.mem_of_mem_take hx)), List.length_take, Nat.min_eq_left hn]
    exact ((congrArg (List.take (n * es)) h1).trans (List.take_left' h2)).symm
  · have h2 := flatC_length xs h
    have : xs.length * es ≤ n * es := Nat.mul_le_mul_right _ (by omega)
    rw [List.take_of_length_le (by omega), List.take_of_length_le (by omega)]
theorem flatC_drop {es : Nat} (xs : List Value) (h : ∀ x ∈ xs, x.cells.size = es) (n : Nat) : flatC (xs.drop n) = (flatC xs).drop (n * es) := by
  by_cases hn : n ≤ xs.length
  · have h1 : flatC xs = flatC (xs.take n) ++ flatC (xs.drop n) := by rw [← flatC_append, List.take_append_drop]
    have h2 : (flatC (xs.take n)).length = n * es := by
      rw [flatC_length (es := es) _ (fun x hx => h x (List.mem_of_mem_take hx)), List.length_take, Nat.min_eq_left hn]
    exact ((congrArg (List.drop (n * es)) h1).trans (List.drop_left' h2)).symm
  · have h2 := flatC_length xs h
    have : xs.length * es ≤ n * es := Nat.mul_le_mul_right _ (by omega)
    rw [List.drop_of_length_le (l := xs) (by omega), List.drop_of_length_le (by omega)]
    rfl
theorem splice_nil {α : Type} (l : List α) (o : Nat) : splice l o [] = l := by simp [splice]
/-- The elements of a block behind a write of whole elements. -/
theorem copy_lies {g : G} {k : Blk} {C : Array Value} {b off : Nat} {l2 : List AV} {xs xs2 : List Value} (hes : 0 < k.es) (hx : RelL g k.els xs) (hC : ∀ (i : Nat) x, xs[i]? = some x → Flat x k.es ∧ ∀ j, j < k.es → C[b + (i * k.es + j)]? = x.cells[j]?)
    (h2 : RelL g l2 xs2) (hf2 : ∀ x ∈ xs2, Flat x k.es) (hfit : off + xs2.length ≤ xs.length) (hsz : b + xs.length * k.es ≤ C.size) :
    let C' : Array Value := (C.toList.take (b + off * k.es + 0) ++ flatC xs2 ++ C.toList.drop (b + off * k.es + 0 + (flatC xs2).length)).toArray
    C'.size = C.size ∧ Lies g b { k with els := splice k.els off l2 } C' := by
  intro C'
  have hfx : ∀ x ∈ xs, Flat x k.es := fun x hx => by
    obtain ⟨i, hi⟩ := List.getElem?_of_mem hx
    exact (hC i x hi).1
  have hcx : ∀ x ∈ xs, x.cells.size = k.es := fun x hx => (hfx x hx).1
  have hl2 := flatC_length xs2 (fun x hx => (hf2 x hx).1)
  have hlx := flatC_length xs hcx
  have hmul : (off + xs2.length) * k.es ≤ xs.length * k.es := Nat.mul_le_mul_right _ hfit
  rw [Nat.add_mul] at hmul
  have hCm : ∀ m, m < xs.length * k.es → C[b + m]? = (flatC xs)[m]? := by
    intro m hm
    obtain ⟨v, hv⟩ : ∃ v, (flatC xs)[m]? = some v := ⟨_, List.getElem?_eq_getElem (by omega)⟩
    obtain ⟨i, x, j, rfl, hj, hxi, hxj⟩ := flatC_inv hes hcx hv
    rw [hv, ← hxj]
    exact (hC i x hxi).2 j hj
  refine ⟨?_, lies_flat (k := { k with els := splice k.els off l2 }) (xs := splice xs off xs2) (hx.splice off h2) (fun x hx => ?_) (fun m hm => ?_)⟩
  · simp only [C', List.size_toArray, List.length_append, List.length_take, List.length_drop, Array.length_toList]
    omega
  · simp only [splice, List.mem_append] at hx
    rcases hx with (hx | hx) | hx
    · exact hfx x (List.mem_of_mem_take hx)
    · exact hf2 x hx
    · exact hfx x (List.mem_of_mem_drop hx)
  · have hm' : m < (splice xs off xs2).length * k.es := hm
    have hsl : (splice xs off xs2).length = xs.length := by
      simp only [splice, List.length_append, List.length_take, List.length_drop]; omega
    rw [hsl] at hm'
    simp only [splice]
    rw [flatC_append, flatC_append, flatC_take xs hcx, flatC_drop xs hcx, Nat.add_mul, ← hl2]
    simp only [C', List.getElem?_toArray, Nat.add_zero]
    by_cases h1 : m < off * k.es
    · rw [List.append_assoc, List.getElem?_append_left (by simp; omega), List.getElem?_take, if_pos (by omega), List.append_assoc, List.getElem?_append_left (by simp; omega), List.getElem?_take, if_pos h1, Array.getElem?_toList]
      exact hCm m hm'
    · by_cases h3 : m < off * k.es + (flatC xs2).length
      · rw [List.getElem?_append_left (by simp; omega), List.getElem?_append_right (by simp; omega), List.getElem?_append_left (by simp; omega), List.getElem?_append_right (by simp; omega)]
        congr 1
        simp only [List.length_take, Array.length_toList]
        omega
      · rw [List.getElem?_append_right (by simp; omega), List.getElem?_append_right (by simp; omega), List.getElem?_drop, List.getElem?_drop, Array.getElem?_toList]
        rw [← hCm _ (by simp only [List.length_append, List.length_take]; omega)]
        congr 1
        simp only [List.length_append, List.length_take, Array.length_toList]
        omega
theorem set_same {id : Nat} {k : Blk} (hk : hget H id = some k) : H.set id (some { k with els := k.els }) = H := by
  have hid := hget_lt hk
  apply List.ext_getElem?
  intro q
  rw [List.getElem?_set]
  by_cases h : id = q
  · subst h; simp only [hid, if_true]; exact (hget_iff.1 hk).symm
  · simp only [h, if_false]
theorem ok_copy {o : Oper} {p q : Operand} {t t2 e : TypeId} (ho : o.op = .call ⟨.builtin .copy, #[p, q], #[t, t2]⟩) {i : TI} (hi : tyI P t = some i) (hd : i.desc = .slice e) {j : TI} (hj : tyI P e = some j) (hj0 : 0 < j.size)
    {id off len : Nat} (hp : ev tm p = .sl id off len) {k : Blk} (hk : hget H id = some k) (hown : k.own = true) (hke : k.es = j.size) (hfit : off + len ≤ k.els.length) {es2 : Nat} {l2 : List AV} (hq : rowA H (ev tm q) = some (es2, l2)) (hes : es2 = j.size ∨ l2 = []) :
    OpOk P tm H o (.v (.int .i64 (min l2.length len : Nat))) (H.set id (some { k with els := splice k.els off (l2.take (min l2.length len)) })) := by
  intro g a hH hg ht
  subst hH
  obtain ⟨B, c2, xs2, hB, hc2, hl2, hrow2⟩ := rowA_sound hg hq (ht q (by simp [ho, Op.operands, Call.operands]))
  obtain ⟨n, hn⟩ : ∃ n, min l2.length len = n := ⟨_, rfl⟩
  rw [hn]
  have hx2 : xs2.length = l2.length := hl2.length
  have r2 : RowAt g.w B j.size (xs2.take n) := by
    rcases hes with rfl | rfl
    · exact RowAt.of hj0 (fun i x hx => by
        rw [List.getElem?_take] at hx
        split at hx
        · exact hrow2 i x hx
        · cases hx)
    · have : xs2 = [] := by simpa using hx2
      subst this
      exact ⟨by simp, by simp [flatC]⟩
  have hlen : (xs2.take n).length = n := by simp; omega
  have hf2 := r2.first (P := P) (w' := g.w) (fun _ => rfl) l2.length c2
  rw [hlen] at hf2
  have hx := ht p (by simp [ho, Op.operands, Call.operands])
  rw [hp] at hx
  simp only [Rel] at hx
  obtain ⟨hid, A, c, hA, hx⟩ := hx
  obtain ⟨g1, g2, g3⟩ := hx k hk
  obtain ⟨e1, _⟩ := tyI_run hi g.w
  obtain ⟨_, e2, _⟩ := tyI_run hj g.w
  have hexec : execOp a.eval o = (do pure (.value (← Builtin.copy_ #[t, t2] o.type #[.slice A len c, .slice B l2.length c2])) : Sem Next) := by
    simp [execOp, ho, resolve, invoke, builtin, hA, hB]
  have hn' : Nat.min l2.length len = n := hn
  by_cases h0 : n = 0
  · subst h0
    refine ⟨.int .i64 (0 : Nat), g, .inl ?_, ?_, hg, by simp only [Rel], .refl g⟩
    · rw [hexec]
      have hf0 : (Builtin.firstCells j.size 0 (.slice B l2.length c2)).run P g.w = .ok #[] g.w := by simpa [flatC] using hf2
      cases A <;> simp [Builtin.copy_, e1, hd, Builtin.lenOf, hn', e2, hf0, storeCells, goInt]
    · rw [List.take_zero, splice_nil]; exact (set_same hk).symm
  · have hA' := g3 (by omega)
    subst hA'
    have hb := hg.blk id k hk
    have hs0 : g.sz id ≠ 0 := by
      have : 1 * 1 ≤ (off + c) * k.es := Nat.mul_le_mul (by omega) hb.pos
      omega
    obtain ⟨C, ce, lo, hi', m1, m2, m3, xs, m4, m5⟩ := hb.mem hs0
    have hxl : xs.length = k.els.length := m4.length
    have hfl : ∀ x ∈ xs2.take n, Flat x k.es := fun x hx => by rw [hke]; exact r2.flat x hx
    have hsz : g.bs id + xs.length * k.es ≤ C.size := by rw [hxl, m2]; exact hb.fit
    obtain ⟨hs1, hl1⟩ := copy_lies hb.pos m4 m5 (RelL.take n hl2) hfl (off := off) (by rw [hlen]; omega) hsz
    have hfl2 := flatC_length (xs2.take n) (fun x hx => (hfl x hx).1)
    have hmul : (off + n) * k.es ≤ xs.length * k.es := Nat.mul_le_mul_right _ (by omega)
    rw [Nat.add_mul] at hmul
    have hst := run_stores P (g.φ id) (g.bs id + off * k.es) ce (lo, hi') (flatC (xs2.take n)) 0 C g.w m1 m3 (by rw [hfl2, hlen]; omega) (flatC_oneCell hfl)
    have hwr := write_ok hg hk hown hs0 m1 hs1 (els := splice k.els off (l2.take n)) (by
      have : (splice k.els off (l2.take n)).length = k.els.length := by
        simp only [splice, List.length_append, List.length_take, List.length_drop]; omega
      rw [this]; exact hb.fit) hl1
    refine ⟨.int .i64 n, _, .inl ?_, rfl, hwr.1, by simp only [Rel], hwr.2⟩
    rw [hexec]
    have hst' : (storeCells ⟨g.φ id, g.bs id + off * k.es, none⟩ (flatC (xs2.take n))).run P g.w = .ok () _ := hst
    simp [Builtin.copy_, e1, hd, Builtin.lenOf, hn', e2, hf2, hst', goInt]

-- zeros
theorem flatC_zeros {z : Value} {es : Nat} (hz : Flat z es) (hes : 0 < es) (n : Nat) : (Builtin.zeroCells z.cells n).toList = flatC (List.replicate n z) := by
  have hc : ∀ x ∈ List.replicate n z, x.cells.size = es := fun x hx => by rw [List.eq_of_mem_replicate hx]; exact hz.1
  have hl := flatC_length _ hc
  rw [List.length_replicate] at hl
  apply List.ext_getElem?
  intro m
  unfold Builtin.zeroCells
  rw [Array.getElem?_toList, zeroArr_get, hz.1]
  by_cases h : m < n * es
  · rw [if_pos h]
    obtain ⟨v, hv⟩ : ∃ v, (flatC (List.replicate n z))[m]? = some v := ⟨_, List.getElem?_eq_getElem (by omega)⟩
    obtain ⟨i, x, j, rfl, hj, hxi, hxj⟩ := flatC_inv hes hc hv
    rw [hv, ← hxj]
    have hx := List.eq_of_mem_replicate (List.mem_of_getElem? hxi)
    subst hx
    have : (i * es + j) % es = j := by rw [Nat.mul_comm, Nat.mul_add_mod, Nat.mod_eq_of_lt hj]
    rw [this, Array.getElem!_eq_getD, Array.getD_eq_getD_getElem?, Array.getElem?_eq_getElem (by rw [hz.1]; exact hj)]
    rfl
  · rw [if_neg h, List.getElem?_eq_none (by omega)]
/-- The arm that lays a new row, of zeros at its end. -/
theorem append_grown_z {g : G} (hg : GOk g) {t t2 e : TypeId} {i j : TI} (hi : tyI P t = some i) (hd : i.desc = .slice e) (hj : tyI P e = some j) (hj0 : 0 < j.size) (hb0 : j.bytes ≠ 0) (hz : fits (cav j.zero) j.size = true) {i2 : TI} (hi2 : tyI P t2 = some i2) {kk : IntKind} (hd2 : i2.desc = .int kk)
    {A : Option Addr} {c n2 : Nat} {kx : IntKind} {l1 : List AV} {xs1 : List Value} (h1 : RelL g l1 xs1) (r1 : RowAt g.w A j.size xs1) (hgrow : c < xs1.length + n2) (hbound : (xs1.length + n2) * j.bytes ≤ 140737488355328) (ty : TypeId) :
    ∃ v g', (Builtin.append_ #[t, t2] ty #[.slice A xs1.length c, .int kx n2]).run P g.w = .ok v g'.w ∧ g'.H = g.H ++ [some ⟨j.size, true, l1 ++ List.replicate n2 (cav j.zero)⟩] ∧ GOk g' ∧ Sub g g' ∧ Rel g' (.sl g.H.length 0 (xs1.length + n2)) v := by
  obtain ⟨e1, _⟩ := tyI_run hi g.w
  obtain ⟨e1', _⟩ := tyI_run hi2 g.w
  obtain ⟨_, e2, _⟩ := tyI_run hj g.w
  obtain ⟨_, _, _, _, ti, e4, e5⟩ := tyI_run hj g.w
  obtain ⟨_, _, e3, _⟩ := tyI_run hj g.w.drew
  obtain ⟨_, _, _, _, ti', e4', e5'⟩ := tyI_run hj g.w.drew
  obtain ⟨hzf, _⟩ := fits_flat (cav_rel g j.zero) hz hj0
  have hfit := growslice_fits (bytes := j.bytes) hgrow hbound
  let need := xs1.length + n2
  let cap := (Question.appendCap need c e).cut (g.w.tape g.w.drawn (.appendCap need c e))
  have hcap : need ≤ cap := cut_ge _ _ _ _
  let C : Array Value := (flatC xs1).toArray ++ (Builtin.zeroCells j.zero.cells n2) ++ Builtin.zeroCells j.zero.cells (cap - need)
  have hw : ∀ a, g.w.drew.cell? a = g.w.cell? a := fun a => rfl
  have hb1 : 1 ≤ j.bytes := by omega
  have hmul1 : n2 * j.bytes ≤ (xs1.length + n2) * j.bytes := Nat.mul_le_mul_right _ (by omega)
  have hmul2 : n2 * 1 ≤ n2 * j.bytes := Nat.mul_le_mul_left _ hb1
  have hwrap : IntKind.i64.wrap (n2 : Int) = n2 := wrap_i64 (by omega) (by omega)
  have hneg : ¬ ((n2 : Int) < 0) := by omega
  have hbig' : ¬ (281474976710656 < (n2 : Int) * (j.bytes : Int)) := by
    have : ((n2 * j.bytes : Nat) : Int) = (n2 : Int) * (j.bytes : Int) := Int.natCast_mul _ _
    omega
  have hrun : (Builtin.append_ #[t, t2] ty #[.slice A xs1.length c, .int kx n2]).run P g.w = .ok (.slice (some ⟨g.w.heap.size, 0, none⟩) need cap) (g.w.drew.alloc (.cells C e (0, 0))) := by
    have hn : ¬ (xs1.length + n2 ≤ c) := by omega
    have h48 : ¬ (281474976710656 < Builtin.nextslicecap (xs1.length + n2) c * j.bytes) := by omega
    have hf1 := r1.first (P := P) hw xs1.length c
    have hap : ∀ w' : World, (∃ z, (zeroValue e).run P w' = .ok z w' ∧ z = j.zero) → ((if n2 * j.size = 0 then pure #[] else do pure (Builtin.zeroCells (← zeroValue e).cells n2) : Sem (Array Value))).run P w' = .ok (Builtin.zeroCells j.zero.cells n2) w' := by
      rintro w' ⟨z, hz1, rfl⟩
      by_cases h : n2 * j.size = 0
      · rw [if_pos h]
        have : n2 = 0 := by rcases Nat.mul_eq_zero.1 h with h | h <;> omega
        subst this
        simp [Builtin.zeroCells]
      · rw [if_neg h]; simp [hz1]
    have hap' := hap g.w.drew ⟨_, e3, rfl⟩
    have hn63 : ¬ (9223372036854775807 < ((xs1.length : Int) + (n2 : Int))) := by
      have : ((xs1.length + n2) * 1) ≤ (xs1.length + n2) * j.bytes := Nat.mul_le_mul_left _ hb1
      omega
    have hmx : IntKind.i64.max = 9223372036854775807 := by decide
    simp only [Builtin.append_, List.getElem?_toArray, List.getElem?_cons_zero, List.getElem?_cons_succ, Sem.run_bind, e1, Result.andThen_ok, hd, e2, e1', Sem.run_pure, hd2, if_true, Bool.not_true, Bool.false_eq_true, if_false, asInt, asIntOf]
    simp [hn, e4, e5, e4', hb0, h48, Question.forced, hf1, e3, newRow, C, need, cap, hwrap, hneg, hbig', hmx, hn63]
    intro h
    have hn0 : n2 = 0 := by rcases Nat.mul_eq_zero.1 h with h | h <;> omega
    subst hn0
    simp [Builtin.zeroCells, show Array.range 0 = #[] from rfl]
  have hCs : C.size = cap * j.size := by
    have l1' := flatC_length xs1 (fun x hx => (r1.flat x hx).1)
    simp only [C, Array.size_append, List.size_toArray, zeroCells_size, l1', hzf.1, ← Nat.add_mul]
    congr 1
    simp only [need]
    omega
  have hfz : ∀ x ∈ List.replicate n2 j.zero, Flat x j.size := fun x hx => by rw [List.eq_of_mem_replicate hx]; exact hzf
  have hfl : ∀ x ∈ xs1 ++ List.replicate n2 j.zero, Flat x j.size := fun x hx => (List.mem_append.1 hx).elim (r1.flat x) (hfz x)
  have hlen : (l1 ++ List.replicate n2 (cav j.zero)).length = need := by simp [need, h1.length]
  have hlt : need * j.size ≤ cap * j.size := Nat.mul_le_mul_right _ hcap
  obtain ⟨hgw, hsw⟩ := reworld (w' := g.w.drew) (g := g) rfl ⟨rfl, rfl, rfl⟩ hg
  refine ⟨_, G.push { g with w := g.w.drew } C e (0, 0) ⟨j.size, true, l1 ++ List.replicate n2 (cav j.zero)⟩, hrun, rfl, ?_, hsw.trans (push_ren _ _ _ _ _ hgw), ?_⟩
  · refine push_ok hgw rfl hj0 (by simp only [hlen, hCs]; exact hlt) (.inl rfl) (fun _ => ?_)
    refine lies_flat (k := ⟨j.size, true, l1 ++ List.replicate n2 (cav j.zero)⟩) (RelL.mono hsw.ren (h1.append (RelL.replicate (cav_rel g j.zero) n2))) hfl (fun m hm => ?_)
    have hm' : m < (flatC (xs1 ++ List.replicate n2 j.zero)).length := by rw [flatC_length _ (fun x hx => (hfl x hx).1)]; exact hm
    rw [flatC_append, ← flatC_zeros hzf hj0] at hm' ⊢
    simp only [C, Nat.zero_add]
    rw [Array.getElem?_append_left (by simpa using hm')]
    rw [← Array.getElem?_toList]
    simp
  · simp only [Rel]
    refine ⟨by simp [G.push], _, _, rfl, fun k hk => ?_⟩
    have := push_get { g with w := g.w.drew } C e (0, 0) ⟨j.size, true, l1 ++ List.replicate n2 (cav j.zero)⟩
    rw [this] at hk
    cases hk
    refine ⟨hcap, by simp [G.push, hCs], fun _ => by simp [G.push]⟩
/-- Zeros onto a row of a block. -/
theorem ok_append_zeros {o : Oper} {p q : Operand} {t t2 e : TypeId} (ho : o.op = .call ⟨.builtin .append, #[p, q], #[t, t2]⟩) {i j : TI} (hi : tyI P t = some i) (hd : i.desc = .slice e) (hj : tyI P e = some j) (hj0 : 0 < j.size) (hb0 : j.bytes ≠ 0) (hz : fits (cav j.zero) j.size = true)
    {i2 : TI} (hi2 : tyI P t2 = some i2) {kk : IntKind} (hd2 : i2.desc = .int kk) {kx : IntKind} {n2 : Nat} (hq : ev tm q = .v (.int kx n2)) {id off n1 : Nat} (hp : ev tm p = .sl id off n1) {k : Blk} (hk : hget H id = some k) (hown : k.own = true) (hkes : k.es = j.size) (hend : off + n1 = k.els.length)
    (hbound : (n1 + n2) * j.bytes ≤ 140737488355328) : OpOk P tm H o (.sl H.length 0 (n1 + n2)) (H.set id none ++ [some ⟨j.size, true, k.els.drop off ++ List.replicate n2 (cav j.zero)⟩]) := by
  intro g a hH hg ht
  subst hH
  have hqv := ht q (by simp [ho, Op.operands, Call.operands])
  rw [hq] at hqv
  simp only [Rel] at hqv
  obtain ⟨hzf, _⟩ := fits_flat (cav_rel g j.zero) hz hj0
  let l2 := List.replicate n2 (cav j.zero)
  let xs2 := List.replicate n2 j.zero
  have hl2 : RelL g l2 xs2 := RelL.replicate (cav_rel g j.zero) n2
  have hl2n : l2.length = n2 := by simp [l2]
  have hn2 : l2.length = xs2.length := by simp [l2, xs2]
  have hx2f : ∀ x ∈ xs2, Flat x j.size := fun x hx => by rw [List.eq_of_mem_replicate hx]; exact hzf
  have hx := ht p (by simp [ho, Op.operands, Call.operands])
  rw [hp] at hx
  have hexec : ∀ A n c, a.eval p = .slice A n c → execOp a.eval o = (do pure (.value (← Builtin.append_ #[t, t2] o.type #[.slice A n c, .int kx n2])) : Sem Next) := by
    intro A n c hA
    simp [execOp, ho, resolve, invoke, builtin, hA, hqv]
  have hrowX : rowA g.H (.sl id off n1) = some (j.size, k.els.drop off) := by
    simp only [rowA, hk, Option.bind_some]
    rw [if_pos (by omega), hkes]
    rw [List.take_of_length_le (by simp; omega)]
  obtain ⟨A0, c0, xs1, hA0, hc0, hl1, hrow1⟩ := rowA_sound hg hrowX hx
  have hdl : (k.els.drop off).length = n1 := by simp; omega
  rw [hdl] at hA0
  have r1 : RowAt g.w A0 j.size xs1 := RowAt.of hj0 (fun i x hx => hrow1 i x hx)
  have hx1 : xs1.length = n1 := by rw [hl1.length, hdl]
  simp only [Rel] at hx
  obtain ⟨hid, A, c, hA, hx⟩ := hx
  rw [hA0] at hA
  cases hA
  obtain ⟨g1, g2, g3⟩ := hx k hk
  have hb := hg.blk id k hk
  obtain ⟨e1, _⟩ := tyI_run hi g.w
  obtain ⟨e1', _⟩ := tyI_run hi2 g.w
  obtain ⟨_, e2, e3, _, ti, e4, e5⟩ := tyI_run hj g.w
  have hb1 : 1 ≤ j.bytes := by omega
  have hmul1 : n2 * j.bytes ≤ (n1 + n2) * j.bytes := Nat.mul_le_mul_right _ (by omega)
  have hmul2 : n2 * 1 ≤ n2 * j.bytes := Nat.mul_le_mul_left _ hb1
  have hwrap : IntKind.i64.wrap (n2 : Int) = n2 := wrap_i64 (by omega) (by omega)
  have hneg : ¬ ((n2 : Int) < 0) := by omega
  have hbig' : ¬ (281474976710656 < (n2 : Int) * (j.bytes : Int)) := by
    have : ((n2 * j.bytes : Nat) : Int) = (n2 : Int) * (j.bytes : Int) := Int.natCast_mul _ _
    omega
  have hap : ((if n2 * j.size = 0 then pure #[] else do pure (Builtin.zeroCells (← zeroValue e).cells n2) : Sem (Array Value))).run P g.w = .ok (Builtin.zeroCells j.zero.cells n2) g.w := by
    by_cases h : n2 * j.size = 0
    · rw [if_pos h]
      have : n2 = 0 := by rcases Nat.mul_eq_zero.1 h with h | h <;> omega
      subst this
      simp [Builtin.zeroCells]
    · rw [if_neg h]; simp [e3]
  have hzl : (Builtin.zeroCells j.zero.cells n2).toList = flatC xs2 := flatC_zeros hzf hj0 n2
  by_cases hroom : n1 + n2 ≤ c0
  · by_cases hc00 : c0 = 0
    · subst hc00
      have hn20 : n2 = 0 := by omega
      have hlen0 : n1 = 0 := by omega
      subst hn20 hlen0
      have hels : k.els.drop off ++ List.replicate 0 (cav j.zero) = [] := by simp; omega
      obtain ⟨hgk, hsk⟩ := kill_ok id hg
      obtain ⟨hgv, hsv⟩ := vpush_ok (es := j.size) hj0 hgk
      refine ⟨.slice A0 0 0, (g.kill id).vpush j.size, .inl ?_, by rw [hels]; simp [G.vpush, G.kill], hgv, ?_, hsk.trans hsv⟩
      · rw [hexec A0 0 0 hA0]
        simp only [Builtin.append_, List.getElem?_toArray, List.getElem?_cons_zero, List.getElem?_cons_succ, Sem.run_bind, e1, Result.andThen_ok, hd, e2, e1', Sem.run_pure, hd2, if_true, asInt, asIntOf]
        have hw0 : IntKind.i64.wrap 0 = 0 := by decide
        cases A0 <;> simp [storeCells, G.vpush, G.kill, hw0, e4]
      · simp only [Rel]
        refine ⟨by simp [G.vpush, G.kill], _, _, rfl, fun k' hk' => ?_⟩
        have e0 : (g.kill id).H.length = g.H.length := by simp [G.kill]
        have e1 : ((g.kill id).vpush j.size).sz g.H.length = 0 := by simp [G.vpush, e0]
        have e2 : ((g.kill id).vpush j.size).bs g.H.length = 0 := by simp [G.vpush, e0]
        exact ⟨Nat.le_refl _, by rw [e1, e2]; simp, fun h => absurd rfl h⟩
    · have hA := g3 hc00
      subst hA
      have hs0 : g.sz id ≠ 0 := by
        have : 1 * 1 ≤ (off + c0) * k.es := Nat.mul_le_mul (by omega) hb.pos
        omega
      obtain ⟨C, ce, lo, hi', m1, m2, m3, xs, m4, m5⟩ := hb.mem hs0
      let pos := g.bs id + off * k.es + n1 * k.es
      have hposx : pos = g.bs id + k.els.length * k.es := by simp only [pos]; rw [← hend, Nat.add_mul]; omega
      have hfl2 := flatC_length xs2 (fun x hx => (hx2f x hx).1)
      have hxs2n : xs2.length = n2 := by simp [xs2]
      have hroomC : pos + (flatC xs2).length ≤ C.size := by
        rw [hfl2, m2, hxs2n, ← hkes]
        refine Nat.le_trans ?_ g2
        simp only [pos]
        rw [Nat.add_assoc, Nat.add_assoc, ← Nat.add_mul, ← Nat.add_mul]
        exact Nat.add_le_add_left (Nat.mul_le_mul_right _ (by omega)) _
      have hst := run_stores P (g.φ id) pos ce (lo, hi') (flatC xs2) 0 C g.w m1 m3 (by simpa using hroomC) (flatC_oneCell hx2f)
      let C' : Array Value := (C.toList.take (pos + 0) ++ flatC xs2 ++ C.toList.drop (pos + 0 + (flatC xs2).length)).toArray
      have hC's : C'.size = C.size := by
        simp only [C', List.size_toArray, List.length_append, List.length_take, List.length_drop, Array.length_toList] at hroomC ⊢
        omega
      have hxsl : xs.length = k.els.length := m4.length
      have hflall : ∀ x ∈ xs ++ xs2, Flat x k.es := fun x hx => (List.mem_append.1 hx).elim (fun hx => by
        obtain ⟨q', hq'⟩ := List.getElem?_of_mem hx; exact (m5 q' x hq').1) (fun hx => by rw [hkes]; exact hx2f x hx)
      have hlies : Lies g (g.bs id) { k with els := k.els ++ l2 } C' := by
        refine lies_flat (k := { k with els := k.els ++ l2 }) (m4.append hl2) hflall (fun m hm => ?_)
        have hxs' := flatC_length xs (fun x hx => by obtain ⟨q', hq'⟩ := List.getElem?_of_mem hx; exact (m5 q' x hq').1.1)
        rw [flatC_append]
        simp only [C', List.getElem?_toArray, Nat.add_zero, List.append_assoc]
        have hm' : m < (xs ++ xs2).length * k.es := hm
        rw [List.length_append, Nat.add_mul, hkes, ← hfl2, ← hkes, hxsl] at hm'
        rw [hxsl] at hxs'
        by_cases h : m < k.els.length * k.es
        · rw [List.getElem?_append_left (by simp only [List.length_take, Array.length_toList]; omega), List.getElem?_take, if_pos (by omega), List.getElem?_append_left (by omega)]
          have hv := List.getElem?_eq_getElem (l := flatC xs) (i := m) (by omega)
          obtain ⟨q', x', j', e1, e2, e3, e4⟩ := flatC_inv (es := k.es) hb.pos (fun x hx => by obtain ⟨q', hq'⟩ := List.getElem?_of_mem hx; exact (m5 q' x hq').1.1) hv
          rw [hv, ← e4, Array.getElem?_toList, e1]
          exact (m5 q' x' e3).2 j' e2
        · rw [List.getElem?_append_right (by simp only [List.length_take, Array.length_toList]; omega), List.getElem?_append_left (by simp only [List.length_take, Array.length_toList]; omega), List.getElem?_append_right (by omega)]
          congr 1
          simp only [List.length_take, Array.length_toList]
          omega
      have hfit' : g.bs id + (k.els ++ l2).length * k.es ≤ g.sz id := by
        refine Nat.le_trans ?_ g2
        refine Nat.add_le_add_left (Nat.mul_le_mul_right _ ?_) _
        simp [l2]; omega
      have hwr := write_ok hg hk hown hs0 m1 hC's (els := k.els ++ l2) hfit' hlies
      simp only at hwr
      obtain ⟨hgw, hsw⟩ := hwr
      have hk' : hget (g.H.set id (some { k with els := k.els ++ l2 })) id = some { k with els := k.els ++ l2 } := by
        rw [hget_set, if_pos ⟨rfl, hid⟩]
      obtain ⟨hgr, hsr⟩ := rebase_ok (id := id) (off := off) hgw hk' (by simp; omega)
      refine ⟨.slice (some ⟨g.φ id, g.bs id + off * k.es, none⟩) (n1 + n2) c0, _, .inl ?_, ?_, hgr, ?_, hsw.trans hsr⟩
      · rw [hexec _ _ _ hA0]
        have hst' : (storeCells ⟨g.φ id, pos, none⟩ (flatC xs2)).run P g.w = .ok () (g.w.setRow (g.φ id) C') := hst
        rw [← hzl] at hst'
        have hpos2 : (⟨g.φ id, g.bs id + off * k.es, none⟩ : Addr).add (n1 * j.size) = ⟨g.φ id, pos, none⟩ := by
          rw [add_off]; simp only [pos, hkes]
        simp only [Builtin.append_, List.getElem?_toArray, List.getElem?_cons_zero, List.getElem?_cons_succ, Sem.run_bind, e1, Result.andThen_ok, hd, e2, e1', Sem.run_pure, hd2, if_true, asInt, asIntOf, Bool.not_true, Bool.false_eq_true, if_false]
        by_cases hzz : n2 * j.size = 0
        · have h0 : n2 = 0 := by rcases Nat.mul_eq_zero.1 hzz with h | h <;> omega
          have hnil : (Builtin.zeroCells j.zero.cells n2).toList = [] := by rw [h0]; simp [Builtin.zeroCells, show Array.range 0 = #[] from rfl]
          rw [hnil] at hst'
          simp [hwrap, hneg, e4, e5, hbig', hroom, hzz, hpos2, hst', G.rebase]
        · simp [hwrap, hneg, e4, e5, hbig', hroom, hzz, e3, hpos2, hst', G.rebase]
      · simp [G.rebase, List.drop_append, hkes, hown]
        rw [show off - k.els.length = 0 by omega]
        simp [l2]
      · simp only [Rel]
        refine ⟨by simp [G.rebase], _, _, rfl, fun k2 hk2 => ?_⟩
        have el : (g.H.set id (some { k with els := k.els ++ l2 })).length = g.H.length := by simp
        have hk2es : k2.es = k.es := by
          simp only [G.rebase, hget_append, List.length_set] at hk2
          rw [if_neg (Nat.lt_irrefl _), Nat.sub_self] at hk2
          simp [hget] at hk2
          rw [← hk2]
        rw [hk2es]
        refine ⟨by omega, ?_, fun _ => ?_⟩
        · simp only [G.rebase, el, if_true, Nat.zero_add]
          rw [Nat.add_assoc, ← Nat.add_mul]
          exact g2
        · simp [G.rebase, el]
  · obtain ⟨hgk, hsk⟩ := kill_ok id hg
    have hwk : (g.kill id).w = g.w := rfl
    obtain ⟨v, g', h1, h2, h3, h4, h5⟩ := append_grown_z (P := P) hgk hi hd hj hj0 hb0 hz hi2 hd2 (A := A0) (c := c0) (n2 := n2) (kx := kx) (l1 := k.els.drop off) (xs1 := xs1) (RelL.mono hsk.ren hl1) r1 (by omega) (by rw [hx1]; exact hbound) o.type
    refine ⟨v, g', .inl ?_, by simpa [G.kill] using h2, h3, ?_, hsk.trans h4⟩
    · rw [hexec _ _ _ hA0]
      rw [hx1] at h1
      rw [Sem.run_bind, ← hwk, h1]
      rfl
    · rw [hx1] at h5
      have e0 : (g.kill id).H.length = g.H.length := by simp [G.kill]
      rw [e0] at h5
      exact h5

-- structs of single cells compared
def eqLeaf : AV → AV → Option Bool
  | .v (.int k a), .v (.int k' b) => if k = k' then some (a == b) else none
  | .v (.bool a), .v (.bool b) => some (a == b)
  | .v (.string a), .v (.string b) => some (a.toList == b.toList)
  | _, _ => none
def eqLeafs : List AV → List AV → Option Bool
  | [], [] => some true
  | x :: l, y :: m => (eqLeaf x y).bind fun b => (eqLeafs l m).map (b && ·)
  | _, _ => none
def leafD : TypeDesc → AV → Bool
  | .int _, .v (.int _ _) => true
  | .bool, .v (.bool _) => true
  | .string, .v (.string _) => true
  | _, _ => false
/-- Fields that lie one behind the other, one cell each. -/
def flatS (P : Program) : Nat → List Field → List AV → Bool
  | _, [], [] => true
  | o, f :: fs, x :: l => (f.offset == o) && (f.name != "_") && (match P.underlying f.type with | some d => leafD d x | none => false) && flatS P (o + 1) fs l
  | _, _, _ => false
theorem leaf_eq {g : G} {x y : AV} {u v : Value} {d : TypeDesc} {t : TypeId} {b : Bool} (hu : P.underlying t = some d) (hd : leafD d x = true) (hx : Rel g x u) (hy : Rel g y v) (h : eqLeaf x y = some b) (n : Nat) (w : World) :
    (Op.equalIn (n + 1) t u v).run P w = .ok b w := by
  unfold eqLeaf at h
  split at h
  · split at h
    · rename_i k a k' b' hk
      subst hk
      simp only [Rel] at hx hy
      subst hx hy
      cases d <;> simp only [leafD, Bool.false_eq_true, reduceCtorEq] at hd
      rw [run_equalIn_int w n t k _ a b' hu]
      simpa using h
    · cases h
  · simp only [Rel] at hx hy
    subst hx hy
    cases d <;> simp only [leafD, Bool.false_eq_true, reduceCtorEq] at hd
    rw [run_equalIn_bool' w n t _ _ hu]
    simpa using h
  · simp only [Rel] at hx hy
    subst hx hy
    cases d <;> simp only [leafD, Bool.false_eq_true, reduceCtorEq] at hd
    rw [run_equalIn_string w n t _ _ hu]
    simpa using h
  · cases h
theorem flatS_eq {g : G} {d : Nat} {cx cy : Array Value} (w : World) : ∀ (fs : List Field) (o : Nat) (l m : List AV) (b : Bool), flatS P o fs l = true → RelL g l (cx.toList.drop o) → RelL g m (cy.toList.drop o) → eqLeafs l m = some b →
    (Op.eqFields (d + 1) cx cy fs).run P w = .ok b w
  | [], o, l, m, b, hf, hx, hy, he => by
    cases l <;> simp [flatS] at hf
    cases m <;> simp [eqLeafs] at he
    subst he
    simp [Op.eqFields]
  | f :: fs, o, l, m, b, hf, hx, hy, he => by
    cases l with
    | nil => simp [flatS] at hf
    | cons x l =>
      cases m with
      | nil => simp [eqLeafs] at he
      | cons y m =>
        simp only [flatS, Bool.and_eq_true, beq_iff_eq, bne_iff_ne] at hf
        obtain ⟨⟨⟨ho, hn⟩, hty⟩, hf⟩ := hf
        simp only [eqLeafs] at he
        obtain ⟨b1, hb1, he⟩ := Option.bind_eq_some_iff.1 he
        obtain ⟨b2, hb2, rfl⟩ := Option.map_eq_some_iff.1 he
        simp only [RelL] at hx hy
        obtain ⟨u, us, hu, hxu, hxl⟩ := hx
        obtain ⟨v, vs, hv, hyv, hym⟩ := hy
        have hu0 : cx[o]? = some u := by
          have : (cx.toList.drop o)[0]? = some u := by rw [hu]; rfl
          simpa using this
        have hv0 : cy[o]? = some v := by
          have : (cy.toList.drop o)[0]? = some v := by rw [hv]; rfl
          simpa using this
        have hus : cx.toList.drop (o + 1) = us := by
          have : (cx.toList.drop o).drop 1 = us := by rw [hu]; rfl
          rwa [List.drop_drop] at this
        have hvs : cy.toList.drop (o + 1) = vs := by
          have : (cy.toList.drop o).drop 1 = vs := by rw [hv]; rfl
          rwa [List.drop_drop] at this
        split at hty
        case h_2 => cases hty
        rename_i dd hdd
        have hna : isAggD dd = false := by
          cases dd <;> simp_all [leafD, isAggD]
        have hagg : (isAgg f.type).run P w = .ok false w := by
          have hu' : ∀ w, (underlying f.type).run P w = .ok dd w := fun w => by simp [underlying, hdd]
          simp only [isAgg, Sem.run_bind, hu', Result.andThen_ok]
          cases dd <;> first | rfl | cases hna
        have hp1 : (part f.type cx f.offset).run P w = .ok u w := by
          unfold part
          simp [hagg, ho, hu0]
        have hp2 : (part f.type cy f.offset).run P w = .ok v w := by
          unfold part
          simp [hagg, ho, hv0]
        have hle := leaf_eq hdd hty hxu hyv hb1 d w
        have ih := flatS_eq (d := d) w fs (o + 1) l m b2 hf (hus ▸ hxl) (hvs ▸ hym) hb2
        simp only [Op.eqFields]
        rw [if_pos hn]
        simp only [Sem.run_bind, hp1, Result.andThen_ok, hp2, hle]
        cases b1
        · simp
        · simp [ih]
theorem ok_eqS {o : Oper} {op : BinOp} {t t' : TypeId} {p q : Operand} (ho : o.op = .binOp op t p q t') {fs : Array Field} (hu : P.underlying t = some (.struct fs)) (hst : P.stoodInHeld t = false) (hgt : P.eqGuardType P.depth t = false) (hop : op = .eql ∨ op = .neq)
    {l m : List AV} (hl : aggCells (ev tm p) = some l) (hm : aggCells (ev tm q) = some m) (hf : flatS P 0 fs.toList l = true) {b : Bool} (hb : eqLeafs l m = some b) : OpOk P tm H o (.v (.bool (if op = .eql then b else !b))) H := by
  refine OpOk.val fun g a hH hg ht => ?_
  obtain ⟨cx, hcx, hrx⟩ := agg_rel (ht p (by simp [ho, Op.operands, Call.operands])) hl
  obtain ⟨cy, hcy, hry⟩ := agg_rel (ht q (by simp [ho, Op.operands, Call.operands])) hm
  have hfs : P.fieldsOf t = fs := by simp [Program.fieldsOf, hu]
  have hrun := flatS_eq (P := P) (d := 9998) g.w fs.toList 0 l m b hf (by simpa using hrx) (by simpa using hry) hb
  have heq : (Op.equalIn 10000 t (.agg cx) (.agg cy)).run P g.w = .ok b g.w := by
    rw [run_equalIn_struct g.w 9999 t cx cy (by rw [hfs]; exact hu) hst, hfs]
    exact hrun
  have hgd := run_eqGuard_agg (P := P) g.w op t p q cx cy hgt
  rcases hop with rfl | rfl
  · refine ⟨.bool b, ?_, by simp [Rel]⟩
    simp only [execOp, ho, hcx, hcy, Sem.run_bind, hgd, Result.andThen_ok, run_eql_struct, heq, Sem.run_pure]
  · refine ⟨.bool (!b), ?_, by simp [Rel]⟩
    simp only [execOp, ho, hcx, hcy, Sem.run_bind, hgd, Result.andThen_ok, run_neq_struct, heq, Sem.run_pure]

-- literals whose parts are single cells, all told in order
theorem fill_flat (place : Nat → Option (Nat × Nat)) : ∀ (xs : List AV) (s : Nat) (cells : List AV), (∀ x ∈ xs, x.cells = [x]) → cells.length = s + xs.length → (∀ i, s ≤ i → i < s + xs.length → place i = some (i, 1)) →
    fillA place cells ((List.range' s xs.length).zip xs) = some (cells.take s ++ xs)
  | [], s, cells, _, hl, _ => by
    simp only [List.length_nil, Nat.add_zero] at hl
    simp [fillA, ← hl]
  | x :: xs, s, cells, hx, hl, hp => by
    have h0 := hx x (by simp)
    simp only [List.length_cons] at hl
    simp only [List.length_cons, List.range'_succ, List.zip_cons_cons, fillA, hp s (Nat.le_refl _) (by simp), h0]
    rw [if_pos ⟨rfl, by simp, by omega⟩]
    have hs : splice cells s [x] = cells.take s ++ [x] ++ cells.drop (s + 1) := rfl
    have hlen : (splice cells s [x]).length = s + 1 + xs.length := by
      rw [hs]; simp; omega
    rw [fill_flat place xs (s + 1) _ (fun y hy => hx y (by simp [hy])) hlen (fun i h1 h2 => hp i (by omega) (by simp; omega))]
    have e : (splice cells s [x]).take (s + 1) = cells.take s ++ [x] := by
      rw [hs]
      exact List.take_left' (by simp; omega)
    rw [e]
    simp
def flatPl (P : Program) (i : TI) (n : Nat) : Bool := match i.desc with
  | .struct fs => placesA P fs.toList == some ((List.range n).map fun k => (k, 1))
  | .array m e => m == n && (tyI P e).map (·.size) == some 1
  | _ => false
def AV.single : AV → Bool
  | .agg _ => false
  | .any => false
  | .v (.agg _) => false
  | _ => true
theorem single_cells {x : AV} (h : x.single = true) : x.cells = [x] := by
  cases x with
  | v u => cases u <;> simp_all [AV.single, AV.cells]
  | _ => simp_all [AV.single, AV.cells]
theorem ok_build_flat {o : Oper} {t : TypeId} {ps : Array (Nat × Operand)} (n : Nat) (ho : o.op = .build t ps) {i : TI} (hi : tyI P t = some i) (hpl : flatPl P i n = true) (hz : (cav i.zero).cells.length = n) (hix : ps.toList.map (·.1) = List.range' 0 n) {xs : List AV} (hl : ps.toList.map (fun p => ev tm p.2) = xs) (hs : xs.all AV.single = true) : OpOk P tm H o (.agg xs) H := by
  have hn : xs.length = n := by
    have := congrArg List.length hix
    rw [← hl]; simpa using this
  have hsx : ∀ x ∈ xs, x.cells = [x] := fun x hx => single_cells (List.all_eq_true.1 hs x hx)
  have hzip : (ps.toList.map fun p => (p.1, ev tm p.2)) = (List.range' 0 xs.length).zip xs := by
    rw [hn, ← hix, ← hl]
    simp [List.zip_map']
  refine ok_build ho hi ?_
  rw [hzip]
  unfold buildA
  unfold flatPl at hpl
  split at hpl
  · rename_i fs hd
    have hpl' : placesA P fs.toList = some ((List.range n).map fun k => (k, 1)) := by simpa using hpl
    simp only [hd, hpl', Option.bind_some]
    rw [fill_flat _ xs 0 _ hsx (by rw [hz, hn]; simp) (fun k _ hk => by
      simp only [List.getElem?_map]
      rw [List.getElem?_range (by omega)]
      rfl)]
    simp
  · rename_i m e hd
    simp only [Bool.and_eq_true, beq_iff_eq] at hpl
    obtain ⟨j, hj, hj1⟩ := Option.map_eq_some_iff.1 hpl.2
    simp only [hd, hj, Option.bind_some]
    rw [fill_flat _ xs 0 _ hsx (by rw [hz, hn]; simp) (fun k _ hk => by simp [hj1])]
    simp
  · cases hpl
end Go.AM
