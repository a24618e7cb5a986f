/- The abstract machine: a map of whole numbers to truths that a call makes for itself. -/
import Derived.Test.YtlegolcbjjjofaaAm17
import Derived.MapKept
namespace Go.AM
variable {D : List Deferred} {P : Program} {n k r : Nat} {tm : TM} {H : Heap} {ks : List Int}

/-- The keys, in the order in which they came; each holds true. -/
def MEnt (ks : List Int) (es : Array MapEntry) : Prop := es.toList.map (fun e => (e.key, e.val)) = ks.map fun k => (Value.int .i64 k, Value.bool true)
structure MapAt (r : Nat) (ks : List Int) (g : G) : Prop where
  mem : ∃ es c, g.w.heap[r]? = some (.map es c) ∧ MEnt ks es
  nz : ¬ g.Z r
theorem MapAt.own {g : G} (h : MapAt r ks g) (hg : GOk g) : ¬ Own g r := by
  rintro ⟨id, b, h1, _, h3, h4⟩
  obtain ⟨c, e, lo, hi, m1, _⟩ := (hg.blk id b h1).mem h3
  obtain ⟨es, cl, e1, _⟩ := h.mem
  rw [h4, e1] at m1
  cases m1
theorem MapAt.lt {g : G} (h : MapAt r ks g) : r < g.w.heap.size := by
  obtain ⟨es, cl, e1, _⟩ := h.mem
  exact (Array.getElem?_eq_some_iff.1 e1).1
theorem MapAt.ext {g g' : G} (h : MapAt r ks g) (hg : GOk g) (hx : Ext g g') : MapAt r ks g' := by
  obtain ⟨es, cl, e1, e2⟩ := h.mem
  refine ⟨⟨es, cl, by rw [hx.keep r h.lt (h.own hg)]; exact e1, e2⟩, fun hz => ?_⟩
  rcases hx.z' r hz with h1 | h1 | h1
  · exact h.nz h1
  · exact absurd h.lt (Nat.not_lt.2 h1)
  · exact h.own hg h1
/-- As 'Ext', but for the map. -/
structure ExtX (r : Nat) (g g' : G) : Prop where
  rest : Rest g.w g'.w
  size : g.w.heap.size ≤ g'.w.heap.size
  keep : ∀ b, b < g.w.heap.size → b ≠ r → ¬ Own g b → g'.w.heap[b]? = g.w.heap[b]?
  z : ∀ b, g.Z b → g'.Z b
  z' : ∀ b, g'.Z b → g.Z b ∨ g.w.heap.size ≤ b ∨ Own g b
  own : ∀ b, Own g' b → Own g b ∨ g.w.heap.size ≤ b
theorem Ext.x {g g' : G} (h : Ext g g') : ExtX r g g' := ⟨h.rest, h.size, fun b h1 _ h3 => h.keep b h1 h3, h.z, h.z', h.own⟩
theorem ExtX.refl (g : G) : ExtX r g g := (Ext.refl g).x
theorem ExtX.trans {g g' g'' : G} (h : ExtX r g g') (h' : ExtX r g' g'') : ExtX r g g'' where
  rest := h.rest.trans h'.rest
  size := Nat.le_trans h.size h'.size
  keep b hb hr ho := by
    rw [h'.keep b (Nat.lt_of_lt_of_le hb h.size) hr (fun ho' => (h.own b ho').elim ho (fun hs => absurd hb (Nat.not_lt.2 hs)))]
    exact h.keep b hb hr ho
  z b hb := h'.z b (h.z b hb)
  z' b hb := by
    rcases h'.z' b hb with h1 | h1 | h1
    · exact h.z' b h1
    · exact .inr (.inl (Nat.le_trans h.size h1))
    · rcases h.own b h1 with h2 | h2
      · exact .inr (.inr h2)
      · exact .inr (.inl h2)
  own b hb := by
    rcases h'.own b hb with h1 | h1
    · exact h.own b h1
    · exact .inr (Nat.le_trans h.size h1)
/-- Of a map that was not there before nothing need be said. -/
theorem ExtX.back {g g1 g' : G} (h : Ext g g1) (h' : ExtX r g1 g') (hr : g.w.heap.size ≤ r) : Ext g g' where
  rest := h.rest.trans h'.rest
  size := Nat.le_trans h.size h'.size
  keep b hb ho := by
    rw [h'.keep b (Nat.lt_of_lt_of_le hb h.size) (fun e => by omega) (fun ho' => (h.own b ho').elim ho (fun hs => absurd hb (Nat.not_lt.2 hs)))]
    exact h.keep b hb ho
  z b hb := h'.z b (h.z b hb)
  z' b hb := by
    rcases h'.z' b hb with h1 | h1 | h1
    · exact h.z' b h1
    · exact .inr (.inl (Nat.le_trans h.size h1))
    · rcases h.own b h1 with h2 | h2
      · exact .inr (.inr h2)
      · exact .inr (.inl h2)
  own b hb := by
    rcases h'.own b hb with h1 | h1
    · exact h.own b h1
    · exact .inr (Nat.le_trans h.size h1)
theorem Ren.pin {g g' : G} (h : Ren some g g') {m : Nat} (hn : m ≤ g.H.length) : Pin m g g' :=
  ⟨Nat.le_trans hn h.len_le, fun i k' hi hk => (h.id i i (Nat.lt_of_lt_of_le hi hn) rfl).2 k' hk⟩
theorem TmOk.ren {g g' : G} {a : Act} (h : Ren some g g') (ht : TmOk D g tm a n) : TmOk D g' tm a n := ⟨ht.size, ht.defers, fun t => Rel.mono h (ht.rel t)⟩

abbrev PostU := Exit → TM → Heap → List Int → Prop
def PostU.up (D : List Deferred) (n k r : Nat) (Q : PostU) (g : G) : Exit → Act → World → Prop := fun e a' w' =>
  ∃ tm' g' ks', g'.w = w' ∧ Q e tm' g'.H ks' ∧ GOk g' ∧ TmOk D g' tm' a' n ∧ ExtX r g g' ∧ Pin k g g' ∧ MapAt r ks' g'
/-- As 'T', with a map at place r. -/
def U (D : List Deferred) (P : Program) (n k r : Nat) (c : Code) (tm : TM) (H : Heap) (ks : List Int) (Q : PostU) : Prop :=
  ∀ g a, g.H = H → k ≤ H.length → GOk g → TmOk D g tm a n → MapAt r ks g → c.wp P (Q.up D n k r g) a g.w
variable {Q : PostU}
def thenU (K : TM → Heap → List Int → Prop) (Q : PostU) : PostU
  | .normal => K
  | e => Q e
def inBlockU (id : Nat) (Q : PostU) : PostU
  | .exit id' => if id' = id then Q .normal else Q (.exit id')
  | e => Q e
theorem PostU.up_trans {g g' : G} {e : Exit} {a : Act} {w : World} (hx : ExtX r g g') (hp : Pin k g g') (h : Q.up D n k r g' e a w) : Q.up D n k r g e a w := by
  obtain ⟨tm', g'', ks', h1, h2, h3, h4, h5, h6, h7⟩ := h
  exact ⟨tm', g'', ks', h1, h2, h3, h4, hx.trans h5, hp.trans h6, h7⟩
/-- What does not name the map. -/
theorem U.lift {c : Code} (h : T D P n k c tm H (fun e tm H => Q e tm H ks)) : U D P n k r c tm H ks Q :=
  fun g a hH hk hg ht hm => wp_mono (h g a hH hk hg ht) fun e a' w' ⟨tm', g', h1, h2, h3, h4, h5, h6⟩ => ⟨tm', g', ks, h1, h2, h3, h4, h5.x, h6, hm.ext hg h5⟩
theorem U.skip (h : Q .normal tm H ks) : U D P n k r .skip tm H ks Q := U.lift (T.skip h)
theorem U.exit {id : Nat} (h : Q (.exit id) tm H ks) : U D P n k r (.exit id) tm H ks Q := U.lift (T.exit h)
theorem U.ret (h : Q .ret tm H ks) : U D P n k r .ret tm H ks Q := U.lift (T.ret h)
theorem U.label {l : Nat} (h : Q .normal tm H ks) : U D P n k r (.label l) tm H ks Q := U.lift (T.label h)
theorem U.seq' {x y : Code} (h : U D P n k r x tm H ks (thenU (fun tm H ks => U D P n k r y tm H ks Q) Q)) : U D P n k r (.seq x y) tm H ks Q := by
  intro g a hH hk hg ht hm
  refine wp_seq (wp_mono (h g a hH hk hg ht hm) fun e a' w' he => ?_)
  obtain ⟨tm', g', ks', h1, h2, h3, h4, h5, h6, h7⟩ := he
  cases e with
  | normal =>
    simp only [thenU] at h2
    simp only [Exit.then]
    subst h1
    exact wp_mono (h2 g' a' rfl h6.len h3 h4 h7) fun e a w hq => PostU.up_trans h5 h6 hq
  | _ => exact ⟨tm', g', ks', h1, h2, h3, h4, h5, h6, h7⟩
theorem U.seq {x y : Code} (h : ∀ K : TM → Heap → List Int → Prop, (∀ tm H ks, U D P n k r y tm H ks Q → K tm H ks) → U D P n k r x tm H ks (thenU K Q)) : U D P n k r (.seq x y) tm H ks Q :=
  U.seq' (h _ fun _ _ _ h => h)
theorem U.cond {c : Operand} {x y : Code} {b : Bool} (hc : ev tm c = .v (.bool b)) (ht : b = true → U D P n k r x tm H ks Q) (hf : b = false → U D P n k r y tm H ks Q) : U D P n k r (.cond c x y) tm H ks Q := by
  intro g a hH hk hg ha hm
  have h := ev_rel ha.rel c
  rw [hc] at h
  simp only [Rel] at h
  exact wp_cond_split h (fun e => ht e g a hH hk hg ha hm) (fun e => hf e g a hH hk hg ha hm)
theorem U.cond_true {c : Operand} {x y : Code} (hc : ev tm c = .v (.bool true)) (ht : U D P n k r x tm H ks Q) : U D P n k r (.cond c x y) tm H ks Q :=
  U.cond hc (fun _ => ht) (fun h => by cases h)
theorem U.cond_false {c : Operand} {x y : Code} (hc : ev tm c = .v (.bool false)) (hf : U D P n k r y tm H ks Q) : U D P n k r (.cond c x y) tm H ks Q :=
  U.cond hc (fun h => by cases h) (fun _ => hf)
theorem U.block {id : Nat} {c : Code} (h : U D P n k r c tm H ks (inBlockU id Q)) : U D P n k r (.block id c) tm H ks Q := by
  intro g a hH hk hg ht hm
  refine wp_block (wp_mono (h g a hH hk hg ht hm) fun e a' w' he => ?_)
  obtain ⟨tm', g', ks', h1, h2, h3, h4, h5, h6, h7⟩ := he
  cases e with
  | exit id' =>
    simp only [inBlockU] at h2
    simp only [Exit.inBlock]
    by_cases hid : id' = id
    · simp only [hid, if_true] at h2 ⊢
      exact ⟨tm', g', ks', h1, h2, h3, h4, h5, h6, h7⟩
    · simp only [hid, if_false] at h2 ⊢
      exact ⟨tm', g', ks', h1, h2, h3, h4, h5, h6, h7⟩
  | _ => exact ⟨tm', g', ks', h1, h2, h3, h4, h5, h6, h7⟩
theorem U.ent {c : Code} {tm' : TM} {H' : Heap} (h : TEnt k tm H tm' H') (ht : U D P n k r c tm' H' ks Q) : U D P n k r c tm H ks Q := by
  intro g a hH hk hg ha hm
  obtain ⟨g1, a1, a2, a3, a4, a5, a6⟩ := h g _ hH hk hg ha.rel
  rw [← a1]
  exact wp_mono (ht g1 a a2 (a2 ▸ a6.len) a3 ⟨ha.size, ha.defers, a4⟩ (hm.ext hg a5)) fun e a w hq => PostU.up_trans a5.x a6 hq
theorem keepU {y : Code} {K : TM → Heap → List Int → Prop} (hK : ∀ tm H ks, U D P n k r y tm H ks Q → K tm H ks) (l : List Nat) {tm' : TM} {H' : Heap} (ht : tkeep l tm = tm') (hH : H = H') (h : U D P n k r y tm' H' ks Q) : K tm H ks :=
  hK tm H ks (U.ent (.keep (tget_tkeep l)) (by rw [ht, hH]; exact h))
theorem U.joinE {y : Code} {K : TM → Heap → List Int → Prop} {G : Prop} (hK : ∀ tm H ks, U D P n k r y tm H ks Q → K tm H ks) {ι : Type} (good : ι → Prop) (S : ι → (TM × Heap) × List Int) (h1 : (∀ tm H ks s, good s → TEnt k tm H (S s).1.1 (S s).1.2 → ks = (S s).2 → K tm H ks) → G) (h2 : ∀ s, good s → U D P n k r y (S s).1.1 (S s).1.2 (S s).2 Q) : G :=
  h1 fun tm H ks s hs he hk => hK tm H ks (hk ▸ U.ent he (h2 s hs))
/-- A loop: the states at a round's beginning, the map's keys among them. -/
theorem U.loopI {c : Code} {ι : Type} (good : ι → Prop) (μ : ι → Nat) (S : ι → (TM × Heap) × List Int) (i0 : ι) (g0 : good i0) (h0 : TEnt k tm H (S i0).1.1 (S i0).1.2) (hM : ks = (S i0).2)
    (round : ∀ i, good i → U D P n k r c (S i).1.1 (S i).1.2 (S i).2 (thenU (fun tm' H' ks' => ∃ j, good j ∧ μ j < μ i ∧ TEnt k tm' H' (S j).1.1 (S j).1.2 ∧ ks' = (S j).2) Q)) : U D P n k r (.loop c) tm H ks Q := by
  subst hM
  refine U.ent h0 ?_
  intro g a hH hk hg ht hm
  refine wp_loop_ghost (fun m a w => ∃ i tm' g', good i ∧ μ i = m ∧ tm' = (S i).1.1 ∧ g'.H = (S i).1.2 ∧ g'.w = w ∧ GOk g' ∧ TmOk D g' tm' a n ∧ ExtX r g g' ∧ Pin k g g' ∧ MapAt r (S i).2 g') (μ i0) ⟨i0, _, g, g0, rfl, rfl, hH, rfl, hg, ht, .refl g, .refl (hH ▸ hk), hm⟩ ?_
  rintro m a w ⟨i, tm', g', hi, rfl, rfl, hH', rfl, hg', ht', hx, hp, hm'⟩
  refine wp_mono (round i hi g' a hH' (hH' ▸ hp.len) hg' ht' hm') fun e a' w' he => ?_
  obtain ⟨tm'', g'', ks'', h1, h2, h3, h4, h5, h6, h7⟩ := he
  cases e with
  | normal =>
    simp only [thenU] at h2
    obtain ⟨j, q1, q2, q3, q4⟩ := h2
    obtain ⟨g3, a1, a2, a3, a4, a5, a6⟩ := q3 g'' _ rfl h6.len h3 h4.rel
    exact ⟨μ j, q2, j, _, g3, q1, rfl, rfl, a2, a1.trans h1, a3, ⟨h4.size, h4.defers, a4⟩, (hx.trans h5).trans a5.x, (hp.trans h6).trans a6, q4 ▸ h7.ext h3 a5⟩
  | _ => exact ⟨tm'', g'', ks'', h1, h2, h3, h4, hx.trans h5, hp.trans h6, h7⟩

/-- One operation, which may look into the map or write it. -/
def StepU (P : Program) (r : Nat) (tm : TM) (H : Heap) (ks : List Int) (o : Oper) (x : AV) (H' : Heap) (ks' : List Int) : Prop :=
  ∀ g a (next : Act → World → Prop) (Q : Exit → Act → World → Prop), g.H = H → GOk g → OpRel g tm a o → MapAt r ks g → (∀ v g', g'.H = H' → GOk g' → Rel g' x v → Ren some g g' → ExtX r g g' → MapAt r ks' g' → next (a.put o.dst v) g'.w) → o.wp P a g.w next Q
theorem StepOk.u {o : Oper} {x : AV} {H' : Heap} (h : StepOk P tm H o x H') : StepU P r tm H ks o x H' ks :=
  fun g a next Q hH hg ht hm hn => h g a next Q hH hg ht fun v g' h1 h2 h3 h4 => hn v g' h1 h2 h3 h4.ren h4.ext.x (hm.ext hg h4.ext)
def runOpsU (P : Program) (n r : Nat) (ops : Array Oper) : List Oper → TM → Heap → List Int → (TM → Heap → List Int → Prop) → Prop
  | [], tm, H, ks, K => K tm H ks
  | o :: rest, tm, H, ks, K => dOk n o.dst = true ∧ ((wantA ops tm o = some true ∧ ∃ x H' ks', StepU P r tm H ks o x H' ks' ∧ runOpsU P n r ops rest (tput tm o.dst x) H' ks' K) ∨ (wantA ops tm o = some false ∧ runOpsU P n r ops rest (tput tm o.dst (.v undef)) H ks K))
section
variable {ops : Array Oper} {o : Oper} {rest : List Oper} {K : TM → Heap → List Int → Prop}
theorem um {x : AV} {H' : Heap} {ks' : List Int} (hd : dOk n o.dst = true) (hw : wantA ops tm o = some true) (hs : StepU P r tm H ks o x H' ks') (k : runOpsU P n r ops rest (tput tm o.dst x) H' ks' K) : runOpsU P n r ops (o :: rest) tm H ks K :=
  ⟨hd, .inl ⟨hw, x, H', ks', hs, k⟩⟩
theorem uo {x : AV} {H' : Heap} (hd : dOk n o.dst = true) (hw : wantA ops tm o = some true) (hs : StepOk P tm H o x H') (k : runOpsU P n r ops rest (tput tm o.dst x) H' ks K) : runOpsU P n r ops (o :: rest) tm H ks K :=
  um hd hw hs.u k
theorem uo_skip (hd : dOk n o.dst = true) (hw : wantA ops tm o = some false) (k : runOpsU P n r ops rest (tput tm o.dst (.v undef)) H ks K) : runOpsU P n r ops (o :: rest) tm H ks K :=
  ⟨hd, .inr ⟨hw, k⟩⟩
theorem uo_nil (k : K tm H ks) : runOpsU P n r ops [] tm H ks K := k
theorem uo_case {c : Bool} {H' : Heap} (hd : dOk n o.dst = true) (hw : wantA ops tm o = some true) (hs : StepOk P tm H o (.b c) H')
    (kt : c = true → runOpsU P n r ops rest (tput tm o.dst (.b true)) H' ks K) (kf : c = false → runOpsU P n r ops rest (tput tm o.dst (.b false)) H' ks K) : runOpsU P n r ops (o :: rest) tm H ks K := by
  cases c
  · exact uo hd hw hs (kf rfl)
  · exact uo hd hw hs (kt rfl)
end
theorem runOpsU_sound {ops : Array Oper} {K : TM → Heap → List Int → Prop} {Qc : Exit → Act → World → Prop} (g0 : G) (hk : ∀ tm g a ks, K tm g.H ks → GOk g → TmOk D g tm a n → ExtX r g0 g → Pin k g0 g → MapAt r ks g → Qc .normal a g.w) :
    ∀ (l : List Oper) (i : Nat), ops.toList.drop i = l → ∀ (tm : TM) (H : Heap) (ks : List Int), runOpsU P n r ops l tm H ks K → ∀ g a, g.H = H → GOk g → TmOk D g tm a n → ExtX r g0 g → Pin k g0 g → MapAt r ks g → wpOps P ops Qc (List.range' i l.length) a g.w
  | [], i, _, tm, H, ks, h, g, a, hH, hg, ht, hx, hp, hm => hk tm g a ks (hH ▸ h) hg ht hx hp hm
  | o :: rest, i, hl, tm, H, ks, h, g, a, hH, hg, ht, hx, hp, hm => by
    have hio : ops[i]? = some o := by
      have : (ops.toList.drop i)[0]? = some o := by rw [hl]; rfl
      simpa using this
    have hrest : ops.toList.drop (i + 1) = rest := by
      have : (ops.toList.drop i).drop 1 = rest := by rw [hl]; rfl
      rw [List.drop_drop] at this
      exact this
    simp only [List.length_cons, List.range'_succ, wpOps, hio]
    obtain ⟨hd, h⟩ := h
    rcases h with ⟨hw, x, H', ks', hs, h⟩ | ⟨hw, h⟩
    · have hw' := wantA_sound ht.rel hw
      rw [if_pos hw']
      refine .inl (hs g a _ _ hH hg ht.rel.op hm fun v g' hH' hg' hr hren hext hm' => ?_)
      exact runOpsU_sound g0 hk rest (i + 1) hrest _ H' ks' h g' _ hH' hg' ((ht.ren hren).put hr hd) (hx.trans hext) (hp.trans (hren.pin hp.len)) hm'
    · have hw' := wantA_sound ht.rel hw
      rw [if_neg (by rw [hw']; decide)]
      exact runOpsU_sound g0 hk rest (i + 1) hrest _ H ks h g _ hH hg (ht.put (by simp [Rel]) hd) hx hp hm
theorem U.region {id : Nat} {ops : Array Oper} (h : runOpsU P n r ops ops.toList tm H ks (Q .normal)) : U D P n k r (.region id ops false) tm H ks Q := by
  intro g a hH hk hg ht hm
  refine wp_region ?_
  have := runOpsU_sound (P := P) (k := k) (Qc := Q.up D n k r g) g (fun tm' g' a' ks' h1 h2 h3 h4 h5 h6 => ⟨tm', g', ks', rfl, h1, h2, h3, h4, h5, h6⟩) ops.toList 0 (by simp) tm H ks h g a hH hg ht (.refl g) (.refl (hH ▸ hk)) hm
  simpa [List.range_eq_range'] using this

/-- Something else more in memory. -/
theorem alloc_ok {g : G} (hg : GOk g) (ob : Obj) : GOk { g with w := g.w.alloc ob } ∧ Sub g { g with w := g.w.alloc ob } := by
  have hold : ∀ b, b < g.w.heap.size → (g.w.alloc ob).heap[b]? = g.w.heap[b]? := fun b hb => by
    show (g.w.heap.push ob)[b]? = _
    rw [Array.getElem?_push_lt hb, Array.getElem?_eq_getElem hb]
  have hr : Ren some g { g with w := g.w.alloc ob } := ⟨fun _ h => h, fun b hb => hold b (hg.zlt b hb), fun i j hi hj => by cases hj; exact ⟨hi, fun k hk => ⟨k, hk, rfl, rfl, rfl, rfl⟩⟩⟩
  refine ⟨⟨fun id k hk => ?_, hg.inj, fun b hb => Nat.lt_of_lt_of_le (hg.zlt b hb) (by show g.w.heap.size ≤ (g.w.heap.push ob).size; simp)⟩, hr, ⟨⟨rfl, rfl, rfl⟩, by show g.w.heap.size ≤ (g.w.heap.push ob).size; simp, fun b hb _ => hold b hb, fun _ h => h, fun _ h => .inl h, fun _ h => .inl h⟩⟩
  obtain ⟨h1, h2, h3, h4, h5⟩ := hg.blk id k hk
  refine ⟨h1, h2, h3, h4, fun h0 => ?_⟩
  obtain ⟨c, e, lo, hi, m1, m2, m3, xs, m4, m5⟩ := h5 h0
  exact ⟨c, e, lo, hi, by rw [hold _ (Array.getElem?_eq_some_iff.1 m1).1]; exact m1, m2, m3, xs, RelL.mono hr m4, m5⟩
/-- A map is made; what follows knows where. -/
theorem T.mkMap {Q : Post} {id : Nat} {ops : Array Oper} {y : Code} {o : Oper} {rest : List Oper} {t : TypeId} (hops : ops.toList = o :: rest) (ho : o.op = .makeMap t none) (hg0 : o.guard = none) (hd : dOk n o.dst = true)
    (h : ∀ (r : Nat) (K : TM → Heap → List Int → Prop), (∀ tm H ks, U D P n k r y tm H ks (fun e tm H _ => Q e tm H) → K tm H ks) → runOpsU P n r ops rest (tput tm o.dst (.v (.map (some r)))) H [] K) : T D P n k (.seq (.region id ops false) y) tm H Q := by
  intro g a hH hk hg ht
  refine wp_seq (wp_region ?_)
  have h0 : ops[0]? = some o := by
    have : ops.toList[0]? = some o := by rw [hops]; rfl
    simpa using this
  obtain ⟨hg1, hs1⟩ := alloc_ok hg (.map #[] 0)
  let r := g.w.heap.size
  let g1 : G := { g with w := g.w.alloc (.map #[] 0) }
  have hm1 : MapAt r [] g1 := ⟨⟨#[], 0, by show (g.w.heap.push (.map #[] 0))[g.w.heap.size]? = _; simp, rfl⟩, fun hz => absurd (hg.zlt _ hz) (Nat.lt_irrefl _)⟩
  have hrun : (execOp a.eval o).run P g.w = .ok (.value (.map (some r))) g1.w := by
    simp [execOp, ho, Instr.makeMap, g1, r]
  have ht1 : TmOk D g1 (tput tm o.dst (.v (.map (some r)))) (a.put o.dst (.map (some r))) n := (ht.mono hs1).put (by simp [Rel]) hd
  have hp1 : Pin k g g1 := hs1.pin (hH ▸ hk)
  have hfin : wpOps P ops (Exit.then (y.wp P (Q.up D n k g)) (Q.up D n k g)) (List.range' 1 rest.length) (a.put o.dst (.map (some r))) g1.w := by
    refine runOpsU_sound (P := P) (k := k) (r := r) (K := fun tm H ks => U D P n k r y tm H ks (fun e tm H _ => Q e tm H)) g1 (fun tm' g' a' ks' h1 h2 h3 h4 h5 h6 => ?_) rest 1 (by rw [hops]; rfl) _ H [] (h r _ fun _ _ _ h => h) g1 _ hH hg1 ht1 (.refl g1) (.refl (by show k ≤ g.H.length; rw [hH]; exact hk)) hm1
    simp only [Exit.then]
    refine wp_mono (h1 g' a' rfl h5.len h2 h3 h6) fun e a'' w'' hq => ?_
    obtain ⟨tm'', g'', ks'', q1, q2, q3, q4, q5, q6, q7⟩ := hq
    exact ⟨tm'', g'', q1, q2, q3, q4, ExtX.back hs1.ext (h4.trans q5) (Nat.le_refl _), (hp1.trans h5).trans q6⟩
  have hlen : ops.size = rest.length + 1 := by
    have := congrArg List.length hops
    simpa using this
  rw [hlen, List.range_eq_range', List.range'_succ]
  simp only [wpOps, h0]
  have hwant : Region.wanted o (yielded ops a.tmps) = true := by simp [Region.wanted, hg0]
  rw [if_pos hwant]
  refine .inl ?_
  unfold Oper.wp
  rw [hrun, Oper.upon_value]
  exact hfin

theorem MEnt.keys {es : Array MapEntry} (h : MEnt ks es) : ∀ x ∈ es.toList, MapKept.IsKey (.int .i64) x.key := by
  intro x hx
  have : (x.key, x.val) ∈ es.toList.map (fun e => (e.key, e.val)) := List.mem_map_of_mem hx
  rw [show es.toList.map (fun e => (e.key, e.val)) = _ from h, List.mem_map] at this
  obtain ⟨k, _, e⟩ := this
  rw [← (Prod.mk.inj e).1]
  rfl
theorem MEnt.mem {es : Array MapEntry} (h : MEnt ks es) {x : MapEntry} (hx : x ∈ es.toList) : ∃ k ∈ ks, x.key = .int .i64 k ∧ x.val = .bool true := by
  have : (x.key, x.val) ∈ es.toList.map (fun e => (e.key, e.val)) := List.mem_map_of_mem hx
  rw [show es.toList.map (fun e => (e.key, e.val)) = _ from h, List.mem_map] at this
  obtain ⟨k, hk, e⟩ := this
  exact ⟨k, hk, (Prod.mk.inj e).1.symm, (Prod.mk.inj e).2.symm⟩
theorem MEnt.has {es : Array MapEntry} (h : MEnt ks es) {z : Int} (hz : z ∈ ks) : ∃ x ∈ es.toList, x.key = .int .i64 z := by
  have : (Value.int .i64 z, Value.bool true) ∈ es.toList.map (fun e => (e.key, e.val)) := by
    rw [show es.toList.map (fun e => (e.key, e.val)) = _ from h]
    exact List.mem_map_of_mem (f := fun k => (Value.int .i64 k, Value.bool true)) hz
  obtain ⟨x, hx, e⟩ := List.mem_map.1 this
  exact ⟨x, hx, (Prod.mk.inj e).1⟩
theorem um_lookup {o : Oper} {t kt et : TypeId} {p q : Operand} (ho : o.op = .lookup t p q false) (hm : P.underlying t = some (.map kt et)) (hk : P.underlying kt = some (.int .i64)) {j : TI} (hj : tyI P et = some j) (hz : j.zero = .bool false) (hp : ev tm p = .v (.map (some r))) {z : Int} (hq : ev tm q = .int z) : StepU P r tm H ks o (.b (decide (z ∈ ks))) H ks := by
  intro g a next Qc hH hg ht hma hn
  have h1 := ht p (by simp [ho, Op.operands])
  have h2 := ht q (by simp [ho, Op.operands])
  rw [hp] at h1
  rw [hq] at h2
  simp only [Rel] at h1 h2
  obtain ⟨es, cl, hb, hes⟩ := hma.mem
  have hkey : MapKept.IsKey (.int .i64) (.int .i64 z) := rfl
  have hrun : (execOp a.eval o).run P g.w = .ok (.value (.bool (decide (z ∈ ks)))) g.w := by
    rcases MapKept.findNow_spec hkey es.toList 0 hes.keys with ⟨f1, f2⟩ | ⟨i, e, f1, f2, f3⟩
    · have hno : z ∉ ks := fun h => by
        obtain ⟨x, hx, e⟩ := hes.has h
        exact f2 x hx e
      rw [decide_eq_false hno]
      obtain ⟨_, _, e3, _⟩ := tyI_run hj g.w
      rw [hz] at e3
      simp [execOp, ho, h1, h2, Instr.lookup, run_underlying hm, MapKept.run_getObj_map hb, MapKept.run_checkKey hk hkey, MapKept.run_findKey hk f1, e3, Result.andThen]
    · obtain ⟨k', hk', e1, e2⟩ := hes.mem (List.mem_of_getElem? f2)
      have : k' = z := by rw [e1] at f3; cases f3; rfl
      subst this
      rw [decide_eq_true hk']
      rw [e2] at f1
      simp [execOp, ho, h1, h2, Instr.lookup, run_underlying hm, MapKept.run_getObj_map hb, MapKept.run_checkKey hk hkey, MapKept.run_findKey hk f1, Result.andThen]
  unfold Oper.wp
  rw [hrun, Oper.upon_value]
  exact hn _ g hH hg (by simp [Rel]) (.refl g) (.refl g) hma
def mput (ks : List Int) (z : Int) : List Int := if z ∈ ks then ks else ks ++ [z]
theorem mput_mem {ks : List Int} {z x : Int} : x ∈ mput ks z ↔ x = z ∨ x ∈ ks := by
  unfold mput
  split
  · rename_i h
    constructor
    · exact .inr
    · rintro (rfl | h')
      · exact h
      · exact h'
  · simp only [List.mem_append, List.mem_singleton]
    exact Or.comm
/-- The map's own place turned. -/
theorem setMap_ok {g : G} (hg : GOk g) (hm : MapAt r ks g) {es : Array MapEntry} {c : Nat} {ks' : List Int} (he : MEnt ks' es) :
    let g' : G := { g with w := { g.w with heap := g.w.heap.setIfInBounds r (.map es c) } }
    GOk g' ∧ Ren some g g' ∧ ExtX r g g' ∧ MapAt r ks' g' := by
  intro g'
  obtain ⟨es0, cl, hb, _⟩ := hm.mem
  have hset := MapKept.heap_set (o' := .map es c) hb
  have hne : ∀ b, g.Z b → b ≠ r := fun b hz e => hm.nz (e ▸ hz)
  have hr : Ren some g g' := ⟨fun _ h => h, fun b hz => hset.2 b (hne b hz), fun i j hi hj => by cases hj; exact ⟨hi, fun k hk => ⟨k, hk, rfl, rfl, rfl, rfl⟩⟩⟩
  refine ⟨⟨fun id k hk => ?_, hg.inj, fun b hz => ?_⟩, hr, ⟨⟨rfl, rfl, rfl⟩, by simp [g'], fun b _ h2 _ => hset.2 b h2, fun _ h => h, fun _ h => .inl h, fun _ h => .inl h⟩, ⟨⟨es, c, hset.1, he⟩, hm.nz⟩⟩
  · obtain ⟨h1, h2, h3, h4, h5⟩ := hg.blk id k hk
    refine ⟨h1, h2, h3, h4, fun h0 => ?_⟩
    obtain ⟨c', e, lo, hi, m1, m2, m3, xs, m4, m5⟩ := h5 h0
    have hφ : g.φ id ≠ r := fun e' => by rw [e', hb] at m1; cases m1
    exact ⟨c', e, lo, hi, (hset.2 _ hφ).trans m1, m2, m3, xs, RelL.mono hr m4, m5⟩
  · have := hg.zlt b hz
    simpa [g'] using this
theorem um_update {o : Oper} {t kt et : TypeId} {p q v : Operand} (ho : o.op = .mapUpdate t p q v) (hm : P.underlying t = some (.map kt et)) (hk : P.underlying kt = some (.int .i64)) (hp : ev tm p = .v (.map (some r))) {z : Int} (hq : ev tm q = .int z) (hv : ev tm v = .b true) : StepU P r tm H ks o .any H (mput ks z) := by
  intro g a next Qc hH hg ht hma hn
  have h1 := ht p (by simp [ho, Op.operands])
  have h2 := ht q (by simp [ho, Op.operands])
  have h3 := ht v (by simp [ho, Op.operands])
  rw [hp] at h1
  rw [hq] at h2
  rw [hv] at h3
  simp only [Rel] at h1 h2 h3
  obtain ⟨es, cl, hb, hes⟩ := hma.mem
  have hkey : MapKept.IsKey (.int .i64) (.int .i64 z) := rfl
  have key : ∃ es' c', (execOp a.eval o).run P g.w = .ok .skip { g.w with heap := g.w.heap.setIfInBounds r (.map es' c') } ∧ MEnt (mput ks z) es' := by
    rcases MapKept.findNow_spec hkey es.toList 0 hes.keys with ⟨f1, f2⟩ | ⟨i, e, f1, f2, f3⟩
    · have hno : z ∉ ks := fun h => by
        obtain ⟨x, hx, e⟩ := hes.has h
        exact f2 x hx e
      refine ⟨es.push { key := .int .i64 z, val := .bool true, born := cl }, cl + 1, ?_, ?_⟩
      · simp [execOp, ho, h1, h2, h3, Instr.mapUpdate, run_underlying hm, MapKept.run_getObj_map hb, MapKept.run_checkKey hk hkey, MapKept.run_findKey hk f1, MapKept.run_setObj_map _ hb, Result.andThen]
      · have hes' : es.toList.map (fun e => (e.key, e.val)) = _ := hes
        unfold mput
        rw [if_neg hno]
        unfold MEnt
        simp only [Array.toList_push, List.map_append, hes', List.map_cons, List.map_nil]
    · obtain ⟨k', hk', e1, e2⟩ := hes.mem (List.mem_of_getElem? f2)
      have hkz : k' = z := by rw [e1] at f3; cases f3; rfl
      subst hkz
      have hei : es[i]? = some e := by simpa using f2
      refine ⟨es.modify i fun e => { e with key := .int .i64 k', val := .bool true }, cl, ?_, ?_⟩
      · simp [execOp, ho, h1, h2, h3, Instr.mapUpdate, run_underlying hm, MapKept.run_getObj_map hb, MapKept.run_checkKey hk hkey, MapKept.run_findKey hk f1, hei, e1, MapKept.run_keyThatStays hkey, MapKept.run_setObj_map _ hb, Result.andThen]
      · have hes' : es.toList.map (fun e => (e.key, e.val)) = _ := hes
        unfold mput
        rw [if_pos hk']
        unfold MEnt
        rw [← hes']
        apply List.ext_getElem?
        intro j
        simp only [List.getElem?_map, Array.getElem?_toList, Array.getElem?_modify]
        by_cases hij : i = j
        · subst hij
          rw [if_pos rfl, hei]
          simp [e1, e2]
        · rw [if_neg hij]
  obtain ⟨es', c', hrun, hes'⟩ := key
  obtain ⟨q1, q2, q3, q4⟩ := setMap_ok (c := c') hg hma hes'
  unfold Oper.wp
  rw [hrun, Oper.upon_skip]
  exact hn undef { g with w := { g.w with heap := g.w.heap.setIfInBounds r (.map es' c') } } hH q1 (by simp [Rel]) q2 q3 q4
end Go.AM
