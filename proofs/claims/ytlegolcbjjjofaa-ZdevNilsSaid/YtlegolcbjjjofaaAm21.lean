/- Functions that defer a call. -/
import Derived.Test.YtlegolcbjjjofaaAm20
import Derived.Defers
namespace Go.AM
open Go
set_option linter.unusedSimpArgs false
set_option linter.unusedVariables false
variable {D : List Deferred} {P : Program} {n k : Nat} {tm : TM} {H : Heap} {Q : Post}

/-- A deferred call of this function: what stands in the blocks behind it. -/
def DSpec (P : Program) (f : FuncId) (hin : List Blk) (args : List AV) (hout : Heap) : Prop :=
  Enters P f ∧ ∀ u g vals, g.H = hin.map some → GOk g → RelL g args vals → CallsD P f vals.toArray u g.w fun e u' w' => u' = u ∧ ∃ v g', e = .returned v ∧ g'.w = w' ∧ g'.H = hout ∧ GOk g' ∧ Rel g' (.tup []) v ∧ Ext g g' ∧ Pin hin.length g g'
def DCallOk (P : Program) (f : FuncId) (H : Heap) (args : List AV) (H' : Heap) : Prop :=
  Enters P f ∧ ∀ u g vals, g.H = H → GOk g → RelL g args vals → CallsD P f vals.toArray u g.w fun e u' w' => u' = u ∧ ∃ v g', e = .returned v ∧ g'.w = w' ∧ g'.H = H' ∧ GOk g' ∧ Rel g' (.tup []) v ∧ Sub g g'
theorem pass_core {C : Array Value → World → (Ending → World → Prop) → Prop} (hC : ∀ {a w} {R R' : Ending → World → Prop}, C a w R → (∀ e w', R e w' → R' e w') → C a w R') {hin : List Blk} {args args' : List AV} {hout : Heap} {x : AV} (h : ∀ g vals, g.H = hin.map some → GOk g → RelL g args' vals → C vals.toArray g.w fun e w' => ∃ v g', e = .returned v ∧ g'.w = w' ∧ g'.H = hout ∧ GOk g' ∧ Rel g' x v ∧ Ext g g' ∧ Pin hin.length g g') (ids : List Nat) (hn : ids.Nodup) (hids : ∀ i ∈ ids, i < H.length) (hin' : normH ids H = hin.map some) (ha : renL (pos ids) args = args') :
    ∀ g vals, g.H = H → GOk g → RelL g args vals → C vals.toArray g.w fun e w' => ∃ v g', e = .returned v ∧ g'.w = w' ∧ g'.H = mergeH H ids hout ∧ GOk g' ∧ Rel g' (x.ren (fun j => some (back ids H.length j))) v ∧ Sub g g' := by
  intro g vals hH hg hr
  subst hH ha
  have hgc := norm_ok hn hg
  have hrc := norm_ren g ids
  have hextc := norm_ext (g := g) (src := ids)
  refine hC (h (g.norm ids) vals hin' hgc (RelL.ren hrc hr)) fun e w' he => ?_
  obtain ⟨v, g1, rfl, rfl, hH1, hg1, hx1, hext1, hpin1⟩ := he
  have hlen : hin.length = ids.length := by
    have := congrArg List.length hin'
    simpa [normH] using this.symm
  have hlo : ids.length ≤ hout.length := by rw [← hH1, ← hlen]; exact hpin1.len
  let ρ : Nat → Option Nat := fun j => some (back ids g.H.length j)
  let inv : Nat → Nat := fun i => match pos ids i with
    | some j => j
    | none => i - g.H.length + ids.length
  let old : Nat → Bool := fun i => decide (i < g.H.length) && (pos ids i).isNone
  let g2 : G := { w := g1.w, H := mergeH g.H ids hout, φ := fun i => if old i then g.φ i else g1.φ (inv i), bs := fun i => if old i then g.bs i else g1.bs (inv i), sz := fun i => if old i then g.sz i else g1.sz (inv i), Z := g1.Z }
  have hposD : ∀ {j i : Nat}, ids[j]? = some i → pos ids i = some j := by
    intro j i hj
    have hm : i ∈ ids := List.mem_of_getElem? hj
    cases hp : pos ids i with
    | none =>
      unfold pos at hp
      rw [List.idxOf?, List.findIdx?_eq_none_iff] at hp
      have := hp i hm
      simp at this
    | some j' =>
      have := pos_some hp
      have hj' := (List.getElem?_eq_some_iff.1 hj).1
      rw [(List.getElem?_inj hj' hn).1 (hj.trans this.symm)]
  have hposN : ∀ {i : Nat}, i ∉ ids → pos ids i = none := by
    intro i hi
    cases hp : pos ids i with
    | none => rfl
    | some j => exact absurd (List.mem_of_getElem? (pos_some hp)) hi
  -- what stands under a number
  have hlen2 : g2.H.length = g.H.length + (hout.length - ids.length) := by
    simp [g2, mergeH, setIds_length, renH]
  have get2 : ∀ i b, hget g2.H i = some b → (i < g.H.length ∧ i ∉ ids ∧ hget g.H i = some b ∧ old i = true) ∨ (∃ j b1, i = back ids g.H.length j ∧ hget hout j = some b1 ∧ b = b1.ren ρ ∧ old i = false ∧ inv i = j) := by
    intro i b hb
    rw [hget_iff] at hb
    simp only [g2, mergeH] at hb
    rw [List.getElem?_append, setIds_length] at hb
    by_cases hi : i < g.H.length
    · rw [if_pos hi] at hb
      by_cases hm : i ∈ ids
      · obtain ⟨j, hj⟩ := List.getElem?_of_mem hm
        rw [setIds_get g.H ids _ hn hids (by simp [renH]; exact hlo) j i hj] at hb
        simp only [renH, List.getElem?_map, Option.map_eq_some_iff] at hb
        obtain ⟨b1, hb1, b2, rfl, rfl⟩ := hb
        right
        have hp := hposD hj
        refine ⟨j, b2, ?_, hget_iff.2 hb1, rfl, ?_, ?_⟩
        · simp [back, hj]
        · simp [old, hp]
        · simp [inv, hp]
      · rw [setIds_get_not _ _ _ _ hm] at hb
        exact .inl ⟨hi, hm, hget_iff.2 hb, by simp [old, hi, hposN hm]⟩
    · rw [if_neg hi, List.getElem?_drop] at hb
      simp only [renH, List.getElem?_map, Option.map_eq_some_iff] at hb
      obtain ⟨b1, hb1, b2, rfl, rfl⟩ := hb
      right
      have hnm : i ∉ ids := fun hm => hi (hids i hm)
      have hp := hposN hnm
      refine ⟨ids.length + (i - g.H.length), b2, ?_, hget_iff.2 hb1, rfl, by simp [old, hi], ?_⟩
      · simp [back]; omega
      · simp [inv, hp]; omega
  have getb : ∀ j, j < hout.length → back ids g.H.length j < g2.H.length ∧ old (back ids g.H.length j) = false ∧ inv (back ids g.H.length j) = j ∧ ∀ b, hget g2.H (back ids g.H.length j) = some b → ∃ b1, hget hout j = some b1 ∧ b = b1.ren ρ := by
    intro j hj
    have hfst : back ids g.H.length j < g2.H.length ∧ old (back ids g.H.length j) = false ∧ inv (back ids g.H.length j) = j := by
      cases hj' : ids[j]? with
      | some i =>
        have hp := hposD hj'
        have hi := hids i (List.mem_of_getElem? hj')
        refine ⟨by simp only [back, hj']; omega, by simp [back, hj', old, hp], by simp [back, hj', inv, hp]⟩
      | none =>
        have hge : ids.length ≤ j := by simpa using hj'
        have hnm : (g.H.length + (j - ids.length)) ∉ ids := fun hm => absurd (hids _ hm) (by omega)
        have hnl : ¬ (g.H.length + (j - ids.length) < g.H.length) := by omega
        refine ⟨by simp only [back, hj']; omega, by simp only [back, hj', old, hnl, decide_false, Bool.false_and], ?_⟩
        simp only [back, hj', inv, hposN hnm]; omega
    refine ⟨hfst.1, hfst.2.1, hfst.2.2, fun b hb => ?_⟩
    rcases get2 _ b hb with ⟨_, _, _, ho⟩ | ⟨j', b1, _, h2, h3, _, h5⟩
    · rw [hfst.2.1] at ho; cases ho
    · rw [hfst.2.2] at h5
      subst h5
      exact ⟨b1, h2, h3⟩
  -- blocks of the callee and of the caller
  have ownc : ∀ b, Own (g.norm ids) b → ∃ i k, i ∈ ids ∧ hget g.H i = some k ∧ k.own = true ∧ g.sz i ≠ 0 ∧ g.φ i = b := by
    rintro b ⟨j, k', h1, h2, h3, h4⟩
    obtain ⟨i, b0, e1, e2, rfl⟩ := norm_get h1
    simp only [G.norm, getD_src e1] at h3 h4
    exact ⟨i, b0, List.mem_of_getElem? e1, e2, h2, h3, h4⟩
  have hlt : ∀ j k, hget g.H j = some k → g.sz j ≠ 0 → g.φ j < g.w.heap.size := fun j k hk h0 => by
    obtain ⟨c, e, lo, hi, m1, _⟩ := (hg.blk j k hk).mem h0
    exact (Array.getElem?_eq_some_iff.1 m1).1
  have notc : ∀ i k, i ∉ ids → hget g.H i = some k → g.sz i ≠ 0 → ¬ Own (g.norm ids) (g.φ i) := by
    intro i k hi hk h0 ho
    obtain ⟨i', k', m, h1, h2, h3, h4⟩ := ownc _ ho
    by_cases hown : k.own = true
    · have := hg.inj i' i k' k h1 hk h2 hown h3 h0 h4
      exact hi (this ▸ m)
    · have hz := (hg.blk i k hk).frz (by simpa using hown) h0
      exact (hg.blk i' k' h1).own h2 h3 (h4 ▸ hz)
  have zc : ∀ b, g.Z b → ¬ Own (g.norm ids) b := by
    intro b hz ho
    obtain ⟨i', k', _, h1, h2, h3, h4⟩ := ownc _ ho
    exact (hg.blk i' k' h1).own h2 h3 (h4 ▸ hz)
  have hren1 : Ren ρ g1 g2 := by
    refine ⟨fun _ h => h, fun _ _ => rfl, fun j i hj hij => ?_⟩
    simp only [ρ, Option.some.injEq] at hij
    subst hij
    rw [hH1] at hj
    obtain ⟨a1, a2, a3, a4⟩ := getb j hj
    refine ⟨a1, fun b hb => ?_⟩
    obtain ⟨b1, e1, rfl⟩ := a4 b hb
    refine ⟨b1, by rw [hH1]; exact e1, rfl, ?_, ?_, ?_⟩ <;> simp only [g2, a2, a3, Bool.false_eq_true, if_false]
  have hren : Ren some g g2 := by
    refine ⟨fun b hb => hext1.z b hb, fun b hb => hext1.keep b (hg.zlt b hb) (zc b hb), fun i i' hi hii => ?_⟩
    cases hii
    refine ⟨by rw [hlen2]; omega, fun b hb => ?_⟩
    rcases get2 i b hb with ⟨_, _, h3, h4⟩ | ⟨j, b1, h1, h2, rfl, h4, h5⟩
    · refine ⟨b, h3, rfl, ?_, ?_, ?_⟩ <;> simp only [g2, h4, if_true]
    · -- one that was handed over
      have hjlt : j < ids.length := by
        rcases Nat.lt_or_ge j ids.length with h | h
        · exact h
        · have : ids[j]? = none := by simpa using h
          simp only [back, this] at h1
          omega
      have hij : ids[j]? = some i := by
        have hs := List.getElem?_eq_getElem hjlt
        rw [hs]
        simp only [back, hs] at h1
        rw [h1]
      obtain ⟨k0, p1, p2, p3, p4, p5⟩ := hpin1.id j b1 (by rw [hlen]; exact hjlt) (by rw [hH1]; exact h2)
      obtain ⟨i', b0, e1, e2, rfl⟩ := norm_get p1
      rw [hij] at e1
      cases e1
      refine ⟨b0, e2, p2, ?_, ?_, ?_⟩
      · simp only [g2, h4, h5, Bool.false_eq_true, if_false]; rw [p3]; simp only [G.norm, getD_src hij]
      · simp only [g2, h4, h5, Bool.false_eq_true, if_false]; rw [p4]; simp only [G.norm, getD_src hij]
      · simp only [g2, h4, h5, Bool.false_eq_true, if_false]; rw [p5]; simp only [G.norm, getD_src hij]
  have hgo : GOk g2 := by
    refine ⟨fun i b hb => ?_, fun i i' b b' hb hb' ho ho' hs hs' hφ => ?_, hg1.zlt⟩
    · rcases get2 i b hb with ⟨h1, h2, h3, h4⟩ | ⟨j, b1, h1, h2, rfl, h4, h5⟩
      · have hb0 := hg.blk i b h3
        have eφ : g2.φ i = g.φ i := by simp only [g2, h4, if_true]
        have eb : g2.bs i = g.bs i := by simp only [g2, h4, if_true]
        have es : g2.sz i = g.sz i := by simp only [g2, h4, if_true]
        refine ⟨fun hown h0 hz => ?_, fun hown h0 => ?_, by rw [eb, es]; exact hb0.fit, hb0.pos, ?_⟩
        · rw [es] at h0
          rw [eφ] at hz
          rcases hext1.z' _ hz with hz | hz | hz
          · exact hb0.own hown h0 hz
          · exact absurd (hlt i b h3 h0) (Nat.not_lt.2 hz)
          · exact notc i b h2 h3 h0 hz
        · rw [es] at h0; rw [eφ]; exact hext1.z _ (hb0.frz hown h0)
        · rw [eφ, eb, es]
          intro h0
          obtain ⟨c, e, lo, hi, m1, m2, m3, xs, m4, m5⟩ := hb0.mem h0
          refine ⟨c, e, lo, hi, ?_, m2, m3, xs, RelL.mono hren m4, m5⟩
          rw [← m1]
          exact hext1.keep _ (hlt i b h3 h0) (notc i b h2 h3 h0)
      · have hb1 := hg1.blk j b1 (by rw [hH1]; exact h2)
        have eφ : g2.φ i = g1.φ j := by simp only [g2, h4, h5, Bool.false_eq_true, if_false]
        have eb : g2.bs i = g1.bs j := by simp only [g2, h4, h5, Bool.false_eq_true, if_false]
        have es : g2.sz i = g1.sz j := by simp only [g2, h4, h5, Bool.false_eq_true, if_false]
        refine ⟨by rw [eφ, es]; exact hb1.own, by rw [eφ, es]; exact hb1.frz, by rw [eb, es]; simpa [Blk.ren, renL_length] using hb1.fit, hb1.pos, ?_⟩
        rw [eφ, eb, es]
        intro h0
        obtain ⟨c, e, lo, hi, m1, m2, m3, m4⟩ := hb1.mem h0
        exact ⟨c, e, lo, hi, m1, m2, m3, m4.ren hren1⟩
    · have mixed : ∀ i i' b b' j b1, i ∉ ids → hget g.H i = some b → b.own = true → g.sz i ≠ 0 → hget hout j = some b1 → b1.own = true → g1.sz j ≠ 0 → b' = b1.ren ρ → g.φ i = g1.φ j → i = i' := by
        intro i i' b b' j b1 hi hbi hob hsi hbj hoj hsj _ hφ
        exfalso
        have : Own g1 (g1.φ j) := ⟨j, b1, by rw [hH1]; exact hbj, hoj, hsj, rfl⟩
        rcases hext1.own _ this with h | h
        · exact notc i b hi hbi hsi (hφ ▸ h)
        · have := hlt i b hbi hsi
          have h' : g.w.heap.size ≤ g1.φ j := h
          omega
      rcases get2 i b hb with ⟨h1, h2, h3, h4⟩ | ⟨j, b1, h1, h2, rfl, h4, h5⟩
      · rcases get2 i' b' hb' with ⟨h1', h2', h3', h4'⟩ | ⟨j', b1', h1', h2', rfl, h4', h5'⟩
        · simp only [g2, h4, h4', if_true] at hs hs' hφ
          exact hg.inj i i' b b' h3 h3' ho ho' hs hs' hφ
        · simp only [g2, h4, h4', h5', if_true, Bool.false_eq_true, if_false] at hs hs' hφ
          exact mixed i i' b _ j' b1' h2 h3 ho hs h2' ho' hs' rfl hφ
      · rcases get2 i' b' hb' with ⟨h1', h2', h3', h4'⟩ | ⟨j', b1', h1', h2', rfl, h4', h5'⟩
        · simp only [g2, h4, h4', h5, if_true, Bool.false_eq_true, if_false] at hs hs' hφ
          exact (mixed i' i b' _ j b1 h2' h3' ho' hs' h2 ho hs rfl hφ.symm).symm
        · simp only [g2, h4, h4', h5, h5', Bool.false_eq_true, if_false] at hs hs' hφ
          have := hg1.inj j j' b1 b1' (by rw [hH1]; exact h2) (by rw [hH1]; exact h2') ho ho' hs hs' hφ
          rw [h1, h1', this]
  have hext : Ext g g2 := by
    refine ⟨hext1.rest, hext1.size, fun b hb hno => hext1.keep b hb (fun h => hno (norm_own h)), fun b hb => hext1.z b hb, fun b hb => ?_, fun b ⟨i, k', h1, h2, h3, h4⟩ => ?_⟩
    · rcases hext1.z' b hb with h | h | h
      · exact .inl h
      · exact .inr (.inl h)
      · exact .inr (.inr (norm_own h))
    · rcases get2 i k' h1 with ⟨e1, e2, e3, e4⟩ | ⟨j, b1, e1, e2, rfl, e4, e5⟩
      · simp only [g2, e4, if_true] at h3 h4
        exact .inl ⟨i, k', e3, h2, h3, h4⟩
      · simp only [g2, e4, e5, Bool.false_eq_true, if_false] at h3 h4
        rcases hext1.own b ⟨j, b1, by rw [hH1]; exact e2, h2, h3, h4⟩ with h | h
        · exact .inl (norm_own h)
        · exact .inr h
  exact ⟨v, g2, rfl, rfl, rfl, hgo, Rel.ren hren1 hx1, hren, hext⟩
theorem CallsD.weaken {P : Program} {f : FuncId} {a : Array Value} {u : FrameMode} {w : World} {R R' : Ending → World → Prop} (h : CallsD P f a u w fun e u' w' => u' = u ∧ R e w') (hr : ∀ e w', R e w' → R' e w') : CallsD P f a u w fun e u' w' => u' = u ∧ R' e w' :=
  h.mono fun e u' w' ⟨h1, h2⟩ => ⟨h1, hr e w' h2⟩
theorem DSpec.pass {f : FuncId} {hin : List Blk} {args args' : List AV} {hout : Heap} (h : DSpec P f hin args' hout) (ids : List Nat) (hn : ids.Nodup) (hids : ∀ i ∈ ids, i < H.length) (hin' : normH ids H = hin.map some) (ha : renL (pos ids) args = args') : DCallOk P f H args (mergeH H ids hout) :=
  ⟨h.1, fun u g vals hH hg hr => (pass_core (C := fun a w R => CallsD P f a u w fun e u' w' => u' = u ∧ R e w') (fun h hr => CallsD.weaken h hr) (h.2 u) ids hn hids hin' ha g vals hH hg hr).mono fun e u' w' ⟨h1, v, g', h2, h3, h4, h5, h6, h7⟩ => ⟨h1, v, g', h2, h3, h4, h5, by simpa [AV.ren, renL] using h6, h7⟩⟩
theorem body_wp {fn : Func} {c : Code} {hin : List Blk} {args : List AV} {hout : Heap} {x : AV} (hn : args.length ≤ fn.ntmps)
    (h : T [] P fn.ntmps hin.length c (argsTM 0 args) (hin.map some) (fun e tm H => (e = .normal ∨ e = .ret) ∧ ∃ rs, resA P tm H fn.results.toList = some rs ∧ TEnt hin.length [(0, tupA rs)] H [(0, x)] hout)) {g : G} {vals : List Value} (hH : g.H = hin.map some) (hg : GOk g) (hr : RelL g args vals) :
    c.wp P (bodyPost P fn fun e w' => ∃ v g', e = .returned v ∧ g'.w = w' ∧ g'.H = hout ∧ GOk g' ∧ Rel g' x v ∧ Ext g g' ∧ Pin hin.length g g') { tmps := vals.toArray ++ Array.replicate (fn.ntmps - vals.toArray.size) undef, defers := [] } g.w := by
  have hvl : vals.length = args.length := hr.length
  have hok : TmOk [] g (argsTM 0 args) { tmps := vals.toArray ++ Array.replicate (fn.ntmps - vals.toArray.size) undef, defers := [] } fn.ntmps := by
    refine ⟨by simp; omega, rfl, argsTM_rel args 0 vals _ hr (fun j v hv => ?_)⟩
    have hj := (List.getElem?_eq_some_iff.1 hv).1
    simp only [tmpsOf, Nat.zero_add, Array.getD_eq_getD_getElem?]
    rw [Array.getElem?_append_left (by simpa using hj)]
    simp [hv]
  refine wp_mono (h g _ hH (by simp) hg hok) fun e a' w' he => ?_
  obtain ⟨tm', g', rfl, ⟨he, rs, h1, h2⟩, h3, h4, h5, h6⟩ := he
  obtain ⟨v, hv1, hv2⟩ := results_run (P := P) (fn := fn) h3 h4.rel h1
  obtain ⟨g2, b1, b2, b3, b4, b5, b6⟩ := h2 g' (fun _ => v) rfl h6.len h3 (fun t => by
    simp only [tget]
    split
    · exact hv2
    · simp [Rel])
  have hfin : ∃ v_1 g'_1, Ending.returned v = Ending.returned v_1 ∧ g'_1.w = g'.w ∧ g'_1.H = hout ∧ GOk g'_1 ∧ Rel g'_1 x v_1 ∧ Ext g g'_1 ∧ Pin hin.length g g'_1 :=
    ⟨v, g2, rfl, b1, b2, b3, by simpa [tget] using b4 0, h5.trans b5, h6.trans b6⟩
  rcases he with rfl | rfl
  · exact ⟨h4.defers, v, hv1, hfin⟩
  · exact ⟨h4.defers, v, hv1, hfin⟩
theorem DSpec.body {f : FuncId} {fn : Func} {c : Code} {hin : List Blk} {args : List AV} {hout : Heap} (hf : P.funcs[f]? = some fn) (hb : fn.body = some c) (hnm : (fn.name == "runtime.NumGoroutine") = false) (hn : fn.ntmps = n) (hk : hin.length = k) (hle : Nat.ble args.length n = true)
    (h : ∀ Q : Post, (∀ tm H rs, resA P tm H fn.results.toList = some rs → TEnt k [(0, tupA rs)] H [(0, .tup [])] hout → Q .ret tm H ∧ Q .normal tm H) → T [] P n k c (argsTM 0 args) (hin.map some) Q) : DSpec P f hin args hout := by
  subst hn hk
  exact ⟨⟨fn, hf, hnm, by simp [hb]⟩, fun u g vals hH hg hr => callsD_of_wp hf hb (body_wp (Nat.le_of_ble_eq_true hle) (h _ fun tm H rs h1 h2 => ⟨⟨.inr rfl, rs, h1, h2⟩, ⟨.inl rfl, rs, h1, h2⟩⟩) hH hg hr)⟩
/-- What keeps its meaning while the first blocks keep their places. -/
def AV.pinned (n : Nat) : AV → Bool
  | .ref id _ _ => Nat.blt id n
  | .v _ => true
  | _ => false
theorem Rel.pinned {g g' : G} {x : AV} {v : Value} (hp : Pin n g g') (hx : x.pinned n = true) (h : Rel g x v) : Rel g' x v := by
  cases x with
  | ref id i f =>
    have hid : id < n := Nat.blt_eq.mp hx
    simp only [Rel] at h ⊢
    obtain ⟨_, a, h1, h2⟩ := h
    refine ⟨Nat.lt_of_lt_of_le hid hp.len, a, h1, fun k hk => ?_⟩
    obtain ⟨k', e1, e2, e3, e4, _⟩ := hp.id id k hid hk
    rw [h2 k' e1, e2, e3, e4]
  | v u => simpa [Rel] using h
  | _ => cases hx
theorem Pin.less {m : Nat} {g g' : G} (h : Pin (m + 1) g g') : Pin m g g' := ⟨Nat.le_trans (Nat.le_succ _) h.len, fun i k' hi => h.id i k' (Nat.lt_succ_of_lt hi)⟩
/-- A function that defers a call with its second operation, and nothing else. -/
theorem CSpec.bodyD {f fd : FuncId} {fn : Func} {c0 rest : Code} {id : Nat} {o0 o1 : Oper} {hin : List Blk} {args : List AV} {hout : Heap} {x : AV} {B : Blk} {tm1 : TM} {t8 : Tmp} {p0 pf p q : Operand} {ts : Array TypeId} {xp xq : AV}
    (hf : P.funcs[f]? = some fn) (hb : fn.body = some (.seq c0 (.seq (.region id #[o0, o1] false) rest))) (hnm : (fn.name == "runtime.NumGoroutine") = false) (hn : fn.ntmps = n) (hk : hin.length = k) (hle : Nat.ble args.length n = true)
    (h0 : T [] P n k c0 (argsTM 0 args) (hin.map some) (fun e tm H => e = .normal ∧ TEnt k tm H tm1 (hin.map some ++ [some B])))
    (ho0 : o0.op = .move p0) (hd0 : o0.dst = some t8) (hg0 : o0.guard = none) (ht8 : Nat.blt t8 n = true) (hfree : tget tm1 t8 = .any)
    (ho1 : o1.op = .defer ⟨.value pf, #[p, q], ts⟩) (hd1 : o1.dst = none) (hg1 : o1.guard = none)
    (hpf : ev (tput tm1 (some t8) (ev tm1 p0)) pf = .fn (.func fd) [] []) (hp : ev (tput tm1 (some t8) (ev tm1 p0)) p = xp) (hq : ev (tput tm1 (some t8) (ev tm1 p0)) q = xq) (hpp : xp.pinned (k + 1) = true) (hpq : xq.pinned (k + 1) = true)
    (h1 : ∀ (D : List Deferred) (Q : Post), (∀ tm H H' rs, DCallOk P fd H [xp, xq] H' → resA P tm H' fn.results.toList = some rs → TEnt k [(0, tupA rs)] H' [(0, x)] hout → Q .ret tm H ∧ Q .normal tm H) → T D P n (k + 1) rest tm1 (hin.map some ++ [some B]) Q) : CSpec P f hin args hout x := by
  subst hn hk
  refine ⟨⟨fn, hf, hnm, by simp [hb]⟩, fun g vals hH hg hr => calls_of_wp_defers hf hb ?_⟩
  have hle' := Nat.le_of_ble_eq_true hle
  have hvl : vals.length = args.length := hr.length
  have hok : TmOk [] g (argsTM 0 args) { tmps := vals.toArray ++ Array.replicate (fn.ntmps - vals.toArray.size) undef, defers := [] } fn.ntmps := by
    refine ⟨by simp; omega, rfl, argsTM_rel args 0 vals _ hr (fun j v hv => ?_)⟩
    have hj := (List.getElem?_eq_some_iff.1 hv).1
    simp only [tmpsOf, Nat.zero_add, Array.getD_eq_getD_getElem?]
    rw [Array.getElem?_append_left (by simpa using hj)]
    simp [hv]
  refine wp_seq (wp_mono (h0 g _ hH (by simp) hg hok) fun e a' w' he => ?_)
  obtain ⟨tm', g', rfl, ⟨rfl, hent⟩, h3, h4, h5, h6⟩ := he
  obtain ⟨g1, b1, b2, b3, b4, b5, b6⟩ := hent g' (tmpsOf a') rfl h6.len h3 h4.rel
  have hok1 : TmOk [] g1 tm1 a' fn.ntmps := ⟨h4.size, h4.defers, b4⟩
  rw [← b1]
  -- the two operations
  have hput : TmOk [] g1 (tput tm1 (some t8) (ev tm1 p0)) (a'.put (some t8) (a'.eval p0)) fn.ntmps := hok1.put (ev_rel b4 p0) ht8
  obtain ⟨a1, ha1⟩ : ∃ a1, a'.put (some t8) (a'.eval p0) = a1 := ⟨_, rfl⟩
  rw [ha1] at hput
  have hrf := ev_rel hput.rel pf
  rw [hpf] at hrf
  simp only [Rel, RelL] at hrf
  obtain ⟨xs, ys, e1, e2, e3⟩ := hrf
  have exs : xs = #[] := Array.toList_eq_nil_iff.1 e2
  have eys : ys = #[] := Array.toList_eq_nil_iff.1 e3
  subst exs eys
  have hrp := ev_rel hput.rel p
  have hrq := ev_rel hput.rel q
  rw [hp] at hrp
  rw [hq] at hrq
  obtain ⟨d, hd⟩ : ∃ d : Deferred, d = { target := .fn (.func fd) #[], args := #[a1.eval p, a1.eval q] } := ⟨_, rfl⟩
  have hrun0 : (execOp a'.eval o0).run P g1.w = .ok (.value (a'.eval p0)) g1.w := by simp [execOp, ho0]
  have hrun1 : (execOp a1.eval o1).run P g1.w = .ok (.defer d) g1.w := by
    simp [execOp, ho1, resolve, e1, Deferred.ofValue, hd]
  have hw0 : Region.wanted o0 (yielded #[o0, o1] a'.tmps) = true := by simp [Region.wanted, hg0]
  have hw1 : Region.wanted o1 (yielded #[o0, o1] a1.tmps) = true := by simp [Region.wanted, hg1]
  -- what is left
  have hrest : rest.wp P (bodyPostD P fn fun e w' => ∃ v g', e = .returned v ∧ g'.w = w' ∧ g'.H = hout ∧ GOk g' ∧ Rel g' x v ∧ Ext g g' ∧ Pin hin.length g g') { a1 with defers := d :: a1.defers } g1.w := by
    have hfinT := h1 [d] (fun e tm H => (e = .normal ∨ e = .ret) ∧ ∃ H' rs, DCallOk P fd H [xp, xq] H' ∧ resA P tm H' fn.results.toList = some rs ∧ TEnt hin.length [(0, tupA rs)] H' [(0, x)] hout) (fun tm H H' rs q1 q2 q3 => ⟨⟨.inr rfl, H', rs, q1, q2, q3⟩, ⟨.inl rfl, H', rs, q1, q2, q3⟩⟩)
    have hok2 : TmOk [d] g1 tm1 { a1 with defers := d :: a1.defers } fn.ntmps := by
      refine ⟨hput.size, by show d :: a1.defers = [d]; rw [hput.defers], fun t => ?_⟩
      have := hput.rel t
      rw [tget_tput] at this
      by_cases ht : some t8 = some t
      · cases ht; rw [hfree]; simp [Rel]
      · rw [if_neg ht] at this; exact this
    refine wp_mono (hfinT g1 _ b2 (by simp) b3 hok2) fun e a2 w2 he => ?_
    obtain ⟨tm2, g2, rfl, ⟨he, H', rs, q1, q2, q3⟩, c3, c4, c5, c6⟩ := he
    have hlv : Leaves P fn a2.tmps (fun e w' => ∃ v g', e = .returned v ∧ g'.w = w' ∧ g'.H = hout ∧ GOk g' ∧ Rel g' x v ∧ Ext g g' ∧ Pin hin.length g g') a2.defers .returning g2.w := by
      rw [c4.defers, hd]
      obtain ⟨⟨fn2, f1, f2, f3⟩, hcall⟩ := q1
      have hargs : RelL g2 [xp, xq] [a1.eval p, a1.eval q] := by
        simp only [RelL]
        exact ⟨_, _, rfl, Rel.pinned c6 hpp hrp, _, _, rfl, Rel.pinned c6 hpq hrq, rfl⟩
      refine leaves_cons (f := fd) (args := [a1.eval p, a1.eval q].toArray) (by intro h; cases h) ?_ ((hcall .returning g2 _ rfl c3 hargs).mono fun e u' w' hh => ?_)
      · have f3' : fn2.body.isNone = false := f3
        show (invoke (.fn (.func fd) #[]) #[a1.eval p, a1.eval q]).run P g2.w = _
        simp only [invoke, callFunc, Sem.run_bind, Sem.run_pure, Result.andThen_ok, run_program, f1, f2, f3', Bool.false_eq_true, if_false]
        rfl
      · obtain ⟨rfl, v, g3, rfl, rfl, r2, r3, r4, r5⟩ := hh
        have hok3 := c4.mono r5
        obtain ⟨v2, s1, s2⟩ := results_run (P := P) (fn := fn) r3 hok3.rel (r2 ▸ q2)
        have hlen3 : hin.length ≤ g3.H.length := Nat.le_trans (Nat.le_trans (Nat.le_succ _) c6.len) r5.ren.len_le
        obtain ⟨g4, t1, t2, t3, t4, t5, t6⟩ := q3 g3 (fun _ => v2) r2 (r2 ▸ hlen3) r3 (fun t => by
          simp only [tget]
          split
          · exact s2
          · simp [Rel])
        have hext : Ext g g4 := h5.trans (b5.trans (c5.trans (r5.ext.trans t5)))
        have hpin : Pin hin.length g g4 := h6.trans (b6.trans ((Pin.less c6).trans ((r5.pin (Nat.le_trans (Nat.le_succ _) c6.len)).trans t6)))
        show Leaves P fn a2.tmps _ [] (settle .returning) g3.w
        simp only [settle, Leaves]
        exact ⟨v2, s1, v2, g4, rfl, t1, t2, t3, by simpa [tget] using t4 0, hext, hpin⟩
    rcases he with rfl | rfl
    · exact hlv
    · exact hlv
  refine wp_seq (wp_region ?_)
  show wpOps P #[o0, o1] _ [0, 1] a' g1.w
  simp only [wpOps, List.getElem?_toArray, List.getElem?_cons_zero, List.getElem?_cons_succ]
  rw [if_pos hw0]
  refine .inl ?_
  unfold Oper.wp
  rw [hrun0, Oper.upon_value, hd0, ha1, if_pos hw1]
  refine .inl ?_
  rw [hrun1, Oper.upon_defer, hd1]
  exact hrest
end Go.AM
