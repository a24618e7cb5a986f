/- The abstract machine: calls. -/
import Derived.Test.YtlegolcbjjjofaaAm11
namespace Go.AM
variable {D : List Deferred} {P : Program} {n k : Nat} {tm : TM} {H : Heap} {Q : Post}

/-- A call of this function comes to its body. -/
def Enters (P : Program) (f : FuncId) : Prop := ∃ fn, P.funcs[f]? = some fn ∧ (fn.name == "runtime.NumGoroutine") = false ∧ fn.body.isNone = false
def CallOk (P : Program) (f : FuncId) (H : Heap) (args : List AV) (x : AV) (H' : Heap) : Prop :=
  Enters P f ∧ ∀ g vals, g.H = H → GOk g → RelL g args vals → Calls P f vals.toArray g.w fun e w' => ∃ v g', e = .returned v ∧ g'.w = w' ∧ g'.H = H' ∧ GOk g' ∧ Rel g' x v ∧ Sub g g'
theorem ok_call {o : Oper} {p : Operand} {as : Array Operand} {ts : Array TypeId} (ho : o.op = .call ⟨.value p, as, ts⟩) {f : FuncId} {l m : List AV} (hp : ev tm p = .fn (.func f) l m) {args : List AV} (ha : l ++ as.toList.map (ev tm) ++ m = args) {x : AV} {H' : Heap} (hc : CallOk P f H args x H') : StepOk P tm H o x H' := by
  intro g a next Q hH hg ht hn
  subst hH
  obtain ⟨⟨fn, e1, e2, e3⟩, hc⟩ := hc
  have hpr := ht p (by simp [ho, Op.operands, Call.operands])
  rw [hp] at hpr
  simp only [Rel] at hpr
  obtain ⟨xs, ys, hpv, hl, hm⟩ := hpr
  have hargs : RelL g (as.toList.map (ev tm)) (as.toList.map a.eval) := eval_list as.toList (fun y hy => ht y (by simp only [ho, Op.operands, Call.operands, Array.mem_append]; exact .inr (by simpa using hy)))
  have hall := (hl.append hargs).append hm
  rw [ha] at hall
  have hx := hc g _ rfl hg hall
  have hrun : (execOp a.eval o).run P g.w = .ok (.enter f (xs.toList ++ as.toList.map a.eval ++ ys.toList).toArray) g.w := by
    have e4 : (xs ++ as.map a.eval ++ ys) = (xs.toList ++ as.toList.map a.eval ++ ys.toList).toArray := by
      apply Array.ext'; simp
    have e3' : fn.body.isNone = false := e3
    simp only [execOp, ho, resolve, hpv, Deferred.ofValue, Sem.run_bind, Sem.run_pure, Result.andThen_ok, invoke, callFunc, run_program, e1, e2, e3', Bool.false_eq_true, if_false]
    rw [← e4]
  unfold Oper.wp
  rw [hrun, Oper.upon_enter]
  refine Calls.mono hx fun e w' he => ?_
  obtain ⟨v, g', rfl, rfl, h1, h2, h3, h4⟩ := he
  exact hn v g' h1 h2 h3 h4

/-- What a function does: the blocks that it is handed, and then what stands in them, and new ones. -/
def CSpec (P : Program) (f : FuncId) (hin : List Blk) (args : List AV) (hout : Heap) (x : AV) : Prop :=
  Enters P f ∧ ∀ g vals, g.H = hin.map some → GOk g → RelL g args vals → Calls P f vals.toArray g.w fun e w' => ∃ v g', e = .returned v ∧ g'.w = w' ∧ g'.H = hout ∧ GOk g' ∧ Rel g' x v ∧ Ext g g' ∧ Pin hin.length g g'

/-- How a callee's number reads in the caller. -/
def back (ids : List Nat) (L j : Nat) : Nat := match ids[j]? with
  | some i => i
  | none => L + (j - ids.length)
def renH (ρ : Nat → Option Nat) (H : Heap) : Heap := H.map fun b => b.map (Blk.ren ρ)
def setIds : Heap → List Nat → Heap → Heap
  | H, i :: ids, b :: bs => setIds (H.set i b) ids bs
  | H, _, _ => H
def mergeH (H : Heap) (ids : List Nat) (hout : Heap) : Heap :=
  let h := renH (fun j => some (back ids H.length j)) hout
  setIds H ids h ++ h.drop ids.length
theorem setIds_length : ∀ (H : Heap) (ids : List Nat) (bs : Heap), (setIds H ids bs).length = H.length
  | H, [], bs => by simp [setIds]
  | H, i :: ids, [] => by simp [setIds]
  | H, i :: ids, b :: bs => by simp [setIds, setIds_length]
theorem setIds_get_not : ∀ (H : Heap) (ids : List Nat) (bs : Heap) (i : Nat), i ∉ ids → (setIds H ids bs)[i]? = H[i]?
  | H, [], bs, i, _ => by simp [setIds]
  | H, j :: ids, [], i, _ => by simp [setIds]
  | H, j :: ids, b :: bs, i, h => by
    simp only [List.mem_cons, not_or] at h
    simp only [setIds]
    rw [setIds_get_not _ ids bs i h.2, List.getElem?_set_ne (fun e => h.1 e.symm)]
theorem setIds_get : ∀ (H : Heap) (ids : List Nat) (bs : Heap), ids.Nodup → (∀ i ∈ ids, i < H.length) → ids.length ≤ bs.length → ∀ (j i : Nat), ids[j]? = some i → (setIds H ids bs)[i]? = bs[j]?
  | H, [], bs, _, _, _, j, i, h => by simp at h
  | H, a :: ids, [], _, _, hl, j, i, h => by simp at hl
  | H, a :: ids, b :: bs, hn, hlt, hl, 0, i, h => by
    simp at h
    subst h
    simp only [setIds]
    rw [setIds_get_not _ ids bs a (List.nodup_cons.1 hn).1]
    simp [hlt a (by simp)]
  | H, a :: ids, b :: bs, hn, hlt, hl, j + 1, i, h => by
    simp only [setIds]
    have := setIds_get (H.set a b) ids bs (List.nodup_cons.1 hn).2 (fun i hi => by simpa using hlt i (by simp [hi])) (by simpa using hl) j i (by simpa using h)
    simpa using this

theorem CSpec.pass {f : FuncId} {hin : List Blk} {args args' : List AV} {hout : Heap} {x : AV} (h : CSpec P f hin args' hout x) (ids : List Nat) (hn : ids.Nodup) (hids : ∀ i ∈ ids, i < H.length) (hin' : normH ids H = hin.map some) (ha : renL (pos ids) args = args') :
    CallOk P f H args (x.ren (fun j => some (back ids H.length j))) (mergeH H ids hout) := by
  refine ⟨h.1, fun g vals hH hg hr => ?_⟩
  subst hH ha
  have hgc := norm_ok hn hg
  have hrc := norm_ren g ids
  have hextc := norm_ext (g := g) (src := ids)
  refine (h.2 (g.norm ids) vals hin' hgc (RelL.ren hrc hr)).mono fun e w' he => ?_
  obtain ⟨v, g1, rfl, rfl, hH1, hg1, hx1, hext1, hpin1⟩ := he
  have hlen : hin.length = ids.length := by
    have := congrArg List.length hin'
    simpa [normH] using this.symm
  have hlo : ids.length ≤ hout.length := by rw [← hH1, ← hlen]; exact hpin1.len
  let ρ : Nat → Option Nat := fun j => some (back ids g.H.length j)
  let inv : Nat → Nat := fun i => match pos ids i with
    | some j => j
    | none => i - g.H.length + ids.length
  let old : Nat → Bool := fun i => decide (i < g.H.length) && (pos ids i).isNone
  let g2 : G := { w := g1.w, H := mergeH g.H ids hout, φ := fun i => if old i then g.φ i else g1.φ (inv i), bs := fun i => if old i then g.bs i else g1.bs (inv i), sz := fun i => if old i then g.sz i else g1.sz (inv i), Z := g1.Z }
  have hposD : ∀ {j i : Nat}, ids[j]? = some i → pos ids i = some j := by
    intro j i hj
    have hm : i ∈ ids := List.mem_of_getElem? hj
    cases hp : pos ids i with
    | none =>
      unfold pos at hp
      rw [List.idxOf?, List.findIdx?_eq_none_iff] at hp
      have := hp i hm
      simp at this
    | some j' =>
      have := pos_some hp
      have hj' := (List.getElem?_eq_some_iff.1 hj).1
      rw [(List.getElem?_inj hj' hn).1 (hj.trans this.symm)]
  have hposN : ∀ {i : Nat}, i ∉ ids → pos ids i = none := by
    intro i hi
    cases hp : pos ids i with
    | none => rfl
    | some j => exact absurd (List.mem_of_getElem? (pos_some hp)) hi
  -- what stands under a number
  have hlen2 : g2.H.length = g.H.length + (hout.length - ids.length) := by
    simp [g2, mergeH, setIds_length, renH]
  have get2 : ∀ i b, hget g2.H i = some b → (i < g.H.length ∧ i ∉ ids ∧ hget g.H i = some b ∧ old i = true) ∨ (∃ j b1, i = back ids g.H.length j ∧ hget hout j = some b1 ∧ b = b1.ren ρ ∧ old i = false ∧ inv i = j) := by
    intro i b hb
    rw [hget_iff] at hb
    simp only [g2, mergeH] at hb
    rw [List.getElem?_append, setIds_length] at hb
    by_cases hi : i < g.H.length
    · rw [if_pos hi] at hb
      by_cases hm : i ∈ ids
      · obtain ⟨j, hj⟩ := List.getElem?_of_mem hm
        rw [setIds_get g.H ids _ hn hids (by simp [renH]; exact hlo) j i hj] at hb
        simp only [renH, List.getElem?_map, Option.map_eq_some_iff] at hb
        obtain ⟨b1, hb1, b2, rfl, rfl⟩ := hb
        right
        have hp := hposD hj
        refine ⟨j, b2, ?_, hget_iff.2 hb1, rfl, ?_, ?_⟩
        · simp [back, hj]
        · simp [old, hp]
        · simp [inv, hp]
      · rw [setIds_get_not _ _ _ _ hm] at hb
        exact .inl ⟨hi, hm, hget_iff.2 hb, by simp [old, hi, hposN hm]⟩
    · rw [if_neg hi, List.getElem?_drop] at hb
      simp only [renH, List.getElem?_map, Option.map_eq_some_iff] at hb
      obtain ⟨b1, hb1, b2, rfl, rfl⟩ := hb
      right
      have hnm : i ∉ ids := fun hm => hi (hids i hm)
      have hp := hposN hnm
      refine ⟨ids.length + (i - g.H.length), b2, ?_, hget_iff.2 hb1, rfl, by simp [old, hi], ?_⟩
      · simp [back]; omega
      · simp [inv, hp]; omega
  have getb : ∀ j, j < hout.length → back ids g.H.length j < g2.H.length ∧ old (back ids g.H.length j) = false ∧ inv (back ids g.H.length j) = j ∧ ∀ b, hget g2.H (back ids g.H.length j) = some b → ∃ b1, hget hout j = some b1 ∧ b = b1.ren ρ := by
    intro j hj
    have hfst : back ids g.H.length j < g2.H.length ∧ old (back ids g.H.length j) = false ∧ inv (back ids g.H.length j) = j := by
      cases hj' : ids[j]? with
      | some i =>
        have hp := hposD hj'
        have hi := hids i (List.mem_of_getElem? hj')
        refine ⟨by simp only [back, hj']; omega, by simp [back, hj', old, hp], by simp [back, hj', inv, hp]⟩
      | none =>
        have hge : ids.length ≤ j := by simpa using hj'
        have hnm : (g.H.length + (j - ids.length)) ∉ ids := fun hm => absurd (hids _ hm) (by omega)
        have hnl : ¬ (g.H.length + (j - ids.length) < g.H.length) := by omega
        refine ⟨by simp only [back, hj']; omega, by simp only [back, hj', old, hnl, decide_false, Bool.false_and], ?_⟩
        simp only [back, hj', inv, hposN hnm]; omega
    refine ⟨hfst.1, hfst.2.1, hfst.2.2, fun b hb => ?_⟩
    rcases get2 _ b hb with ⟨_, _, _, ho⟩ | ⟨j', b1, _, h2, h3, _, h5⟩
    · rw [hfst.2.1] at ho; cases ho
    · rw [hfst.2.2] at h5
      subst h5
      exact ⟨b1, h2, h3⟩
  -- blocks of the callee and of the caller
  have ownc : ∀ b, Own (g.norm ids) b → ∃ i k, i ∈ ids ∧ hget g.H i = some k ∧ k.own = true ∧ g.sz i ≠ 0 ∧ g.φ i = b := by
    rintro b ⟨j, k', h1, h2, h3, h4⟩
    obtain ⟨i, b0, e1, e2, rfl⟩ := norm_get h1
    simp only [G.norm, getD_src e1] at h3 h4
    exact ⟨i, b0, List.mem_of_getElem? e1, e2, h2, h3, h4⟩
  have hlt : ∀ j k, hget g.H j = some k → g.sz j ≠ 0 → g.φ j < g.w.heap.size := fun j k hk h0 => by
    obtain ⟨c, e, lo, hi, m1, _⟩ := (hg.blk j k hk).mem h0
    exact (Array.getElem?_eq_some_iff.1 m1).1
  have notc : ∀ i k, i ∉ ids → hget g.H i = some k → g.sz i ≠ 0 → ¬ Own (g.norm ids) (g.φ i) := by
    intro i k hi hk h0 ho
    obtain ⟨i', k', m, h1, h2, h3, h4⟩ := ownc _ ho
    by_cases hown : k.own = true
    · have := hg.inj i' i k' k h1 hk h2 hown h3 h0 h4
      exact hi (this ▸ m)
    · have hz := (hg.blk i k hk).frz (by simpa using hown) h0
      exact (hg.blk i' k' h1).own h2 h3 (h4 ▸ hz)
  have zc : ∀ b, g.Z b → ¬ Own (g.norm ids) b := by
    intro b hz ho
    obtain ⟨i', k', _, h1, h2, h3, h4⟩ := ownc _ ho
    exact (hg.blk i' k' h1).own h2 h3 (h4 ▸ hz)
  have hren1 : Ren ρ g1 g2 := by
    refine ⟨fun _ h => h, fun _ _ => rfl, fun j i hj hij => ?_⟩
    simp only [ρ, Option.some.injEq] at hij
    subst hij
    rw [hH1] at hj
    obtain ⟨a1, a2, a3, a4⟩ := getb j hj
    refine ⟨a1, fun b hb => ?_⟩
    obtain ⟨b1, e1, rfl⟩ := a4 b hb
    refine ⟨b1, by rw [hH1]; exact e1, rfl, ?_, ?_, ?_⟩ <;> simp only [g2, a2, a3, Bool.false_eq_true, if_false]
  have hren : Ren some g g2 := by
    refine ⟨fun b hb => hext1.z b hb, fun b hb => hext1.keep b (hg.zlt b hb) (zc b hb), fun i i' hi hii => ?_⟩
    cases hii
    refine ⟨by rw [hlen2]; omega, fun b hb => ?_⟩
    rcases get2 i b hb with ⟨_, _, h3, h4⟩ | ⟨j, b1, h1, h2, rfl, h4, h5⟩
    · refine ⟨b, h3, rfl, ?_, ?_, ?_⟩ <;> simp only [g2, h4, if_true]
    · -- one that was handed over
      have hjlt : j < ids.length := by
        rcases Nat.lt_or_ge j ids.length with h | h
        · exact h
        · have : ids[j]? = none := by simpa using h
          simp only [back, this] at h1
          omega
      have hij : ids[j]? = some i := by
        have hs := List.getElem?_eq_getElem hjlt
        rw [hs]
        simp only [back, hs] at h1
        rw [h1]
      obtain ⟨k0, p1, p2, p3, p4, p5⟩ := hpin1.id j b1 (by rw [hlen]; exact hjlt) (by rw [hH1]; exact h2)
      obtain ⟨i', b0, e1, e2, rfl⟩ := norm_get p1
      rw [hij] at e1
      cases e1
      refine ⟨b0, e2, p2, ?_, ?_, ?_⟩
      · simp only [g2, h4, h5, Bool.false_eq_true, if_false]; rw [p3]; simp only [G.norm, getD_src hij]
      · simp only [g2, h4, h5, Bool.false_eq_true, if_false]; rw [p4]; simp only [G.norm, getD_src hij]
      · simp only [g2, h4, h5, Bool.false_eq_true, if_false]; rw [p5]; simp only [G.norm, getD_src hij]
  have hgo : GOk g2 := by
    refine ⟨fun i b hb => ?_, fun i i' b b' hb hb' ho ho' hs hs' hφ => ?_, hg1.zlt⟩
    · rcases get2 i b hb with ⟨h1, h2, h3, h4⟩ | ⟨j, b1, h1, h2, rfl, h4, h5⟩
      · have hb0 := hg.blk i b h3
        have eφ : g2.φ i = g.φ i := by simp only [g2, h4, if_true]
        have eb : g2.bs i = g.bs i := by simp only [g2, h4, if_true]
        have es : g2.sz i = g.sz i := by simp only [g2, h4, if_true]
        refine ⟨fun hown h0 hz => ?_, fun hown h0 => ?_, by rw [eb, es]; exact hb0.fit, hb0.pos, ?_⟩
        · rw [es] at h0
          rw [eφ] at hz
          rcases hext1.z' _ hz with hz | hz | hz
          · exact hb0.own hown h0 hz
          · exact absurd (hlt i b h3 h0) (Nat.not_lt.2 hz)
          · exact notc i b h2 h3 h0 hz
        · rw [es] at h0; rw [eφ]; exact hext1.z _ (hb0.frz hown h0)
        · rw [eφ, eb, es]
          intro h0
          obtain ⟨c, e, lo, hi, m1, m2, m3, xs, m4, m5⟩ := hb0.mem h0
          refine ⟨c, e, lo, hi, ?_, m2, m3, xs, RelL.mono hren m4, m5⟩
          rw [← m1]
          exact hext1.keep _ (hlt i b h3 h0) (notc i b h2 h3 h0)
      · have hb1 := hg1.blk j b1 (by rw [hH1]; exact h2)
        have eφ : g2.φ i = g1.φ j := by simp only [g2, h4, h5, Bool.false_eq_true, if_false]
        have eb : g2.bs i = g1.bs j := by simp only [g2, h4, h5, Bool.false_eq_true, if_false]
        have es : g2.sz i = g1.sz j := by simp only [g2, h4, h5, Bool.false_eq_true, if_false]
        refine ⟨by rw [eφ, es]; exact hb1.own, by rw [eφ, es]; exact hb1.frz, by rw [eb, es]; simpa [Blk.ren, renL_length] using hb1.fit, hb1.pos, ?_⟩
        rw [eφ, eb, es]
        intro h0
        obtain ⟨c, e, lo, hi, m1, m2, m3, m4⟩ := hb1.mem h0
        exact ⟨c, e, lo, hi, m1, m2, m3, m4.ren hren1⟩
    · have mixed : ∀ i i' b b' j b1, i ∉ ids → hget g.H i = some b → b.own = true → g.sz i ≠ 0 → hget hout j = some b1 → b1.own = true → g1.sz j ≠ 0 → b' = b1.ren ρ → g.φ i = g1.φ j → i = i' := by
        intro i i' b b' j b1 hi hbi hob hsi hbj hoj hsj _ hφ
        exfalso
        have : Own g1 (g1.φ j) := ⟨j, b1, by rw [hH1]; exact hbj, hoj, hsj, rfl⟩
        rcases hext1.own _ this with h | h
        · exact notc i b hi hbi hsi (hφ ▸ h)
        · have := hlt i b hbi hsi
          have h' : g.w.heap.size ≤ g1.φ j := h
          omega
      rcases get2 i b hb with ⟨h1, h2, h3, h4⟩ | ⟨j, b1, h1, h2, rfl, h4, h5⟩
      · rcases get2 i' b' hb' with ⟨h1', h2', h3', h4'⟩ | ⟨j', b1', h1', h2', rfl, h4', h5'⟩
        · simp only [g2, h4, h4', if_true] at hs hs' hφ
          exact hg.inj i i' b b' h3 h3' ho ho' hs hs' hφ
        · simp only [g2, h4, h4', h5', if_true, Bool.false_eq_true, if_false] at hs hs' hφ
          exact mixed i i' b _ j' b1' h2 h3 ho hs h2' ho' hs' rfl hφ
      · rcases get2 i' b' hb' with ⟨h1', h2', h3', h4'⟩ | ⟨j', b1', h1', h2', rfl, h4', h5'⟩
        · simp only [g2, h4, h4', h5, if_true, Bool.false_eq_true, if_false] at hs hs' hφ
          exact (mixed i' i b' _ j b1 h2' h3' ho' hs' h2 ho hs rfl hφ.symm).symm
        · simp only [g2, h4, h4', h5, h5', Bool.false_eq_true, if_false] at hs hs' hφ
          have := hg1.inj j j' b1 b1' (by rw [hH1]; exact h2) (by rw [hH1]; exact h2') ho ho' hs hs' hφ
          rw [h1, h1', this]
  have hext : Ext g g2 := by
    refine ⟨hext1.rest, hext1.size, fun b hb hno => hext1.keep b hb (fun h => hno (norm_own h)), fun b hb => hext1.z b hb, fun b hb => ?_, fun b ⟨i, k', h1, h2, h3, h4⟩ => ?_⟩
    · rcases hext1.z' b hb with h | h | h
      · exact .inl h
      · exact .inr (.inl h)
      · exact .inr (.inr (norm_own h))
    · rcases get2 i k' h1 with ⟨e1, e2, e3, e4⟩ | ⟨j, b1, e1, e2, rfl, e4, e5⟩
      · simp only [g2, e4, if_true] at h3 h4
        exact .inl ⟨i, k', e3, h2, h3, h4⟩
      · simp only [g2, e4, e5, Bool.false_eq_true, if_false] at h3 h4
        rcases hext1.own b ⟨j, b1, by rw [hH1]; exact e2, h2, h3, h4⟩ with h | h
        · exact .inl (norm_own h)
        · exact .inr h
  exact ⟨v, g2, rfl, rfl, rfl, hgo, Rel.ren hren1 hx1, hren, hext⟩
end Go.AM
