/- The abstract machine: a map of whole numbers to truths that a call makes for itself. -/
import Derived.Test.YtjklgbafnfoolaaGreatGScanLays2
import Derived.MapKept
import Derived.Test.YtjklgbafnfoolaaGreatProg
import Derived.KernelRfl
import Derived.Laws.BitsLemmas
import Derived.Laws.Entries
import Derived.ChangeShapes
import Derived.RowKit3
namespace Go.AM
variable {D : List Deferred} {P : Program} {n k r : Nat} {tm : TM} {H : Heap} {ks : List Int}

/-- The keys, in the order in which they came; each holds true. -/
def MEnt (ks : List Int) (es : Array MapEntry) : Prop := es.toList.map (fun e => (e.key, e.val)) = ks.map fun k => (Value.int .i64 k, Value.bool true)
structure MapAt (r : Nat) (ks : List Int) (g : G) : Prop where
  mem : ∃ es c, g.w.heap[r]? = some (.map es c) ∧ MEnt ks es
  nz : ¬ g.Z r
theorem MapAt.own {g : G} (h : MapAt r ks g) (hg : GOk g) : ¬ Own g r := by
  rintro ⟨id, b, h1, _, h3, h4⟩
  obtain ⟨c, e, lo, hi, m1, _⟩ := (hg.blk id b h1).mem h3
  obtain ⟨es, cl, e1, _⟩ := h.mem
  rw [h4, e1] at m1
  cases m1
theorem MapAt.lt {g : G} (h : MapAt r ks g) : r < g.w.heap.size := by
  obtain ⟨es, cl, e1, _⟩ := h.mem
  exact (Array.getElem?_eq_some_iff.1 e1).1
theorem MapAt.ext {g g' : G} (h : MapAt r ks g) (hg : GOk g) (hx : Ext g g') : MapAt r ks g' := by
  obtain ⟨es, cl, e1, e2⟩ := h.mem
  refine ⟨⟨es, cl, by rw [hx.keep r h.lt (h.own hg)]; exact e1, e2⟩, fun hz => ?_⟩
  rcases hx.z' r hz with h1 | h1 | h1
  · exact h.nz h1
  · exact absurd h.lt (Nat.not_lt.2 h1)
  · exact h.own hg h1
/-- As 'Ext', but for the map. -/
structure ExtX (r : Nat) (g g' : G) : Prop where
  rest : Rest g.w g'.w
  size : g.w.heap.size ≤ g'.w.heap.size
  keep : ∀ b, b < g.w.heap.size → b ≠ r → ¬ Own g b → g'.w.heap[b]? = g.w.heap[b]?
  z : ∀ b, g.Z b → g'.Z b
  z' : ∀ b, g'.Z b → g.Z b ∨ g.w.heap.size ≤ b ∨ Own g b
  own : ∀ b, Own g' b → Own g b ∨ g.w.heap.size ≤ b
theorem Ext.x {g g' : G} (h : Ext g g') : ExtX r g g' := ⟨h.rest, h.size, fun b h1 _ h3 => h.keep b h1 h3, h.z, h.z', h.own⟩
theorem ExtX.refl (g : G) : ExtX r g g := (Ext.refl g).x
theorem ExtX.trans {g g' g'' : G} (h : ExtX r g g') (h' : ExtX r g' g'') : ExtX r g g'' where
  rest := h.rest.trans h'.rest
  size := Nat.le_trans h.size h'.size
  keep b hb hr ho := by
    rw [h'.keep b (Nat.lt_of_lt_of_le hb h.size) hr (fun ho' => (h.own b ho').elim ho (fun hs => absurd hb (Nat.not_lt.2 hs)))]
    exact h.keep b hb hr ho
  z b hb := h'.z b (h.z b hb)
  z' b hb := by
    rcases h'.z' b hb with h1 | h1 | h1
    · exact h.z' b h1
    · exact .inr (.inl (Nat.le_trans h.size h1))
    · rcases h.own b h1 with h2 | h2
      · exact .inr (.inr h2)
      · exact .inr (.inl h2)
  own b hb := by
    rcases h'.own b hb with h1 | h1
    · exact h.own b h1
    · exact .inr (Nat.le_trans h.size h1)
/-- Of a map that was not there before nothing need be said. -/
theorem ExtX.back {g g1 g' : G} (h : Ext g g1) (h' : ExtX r g1 g') (hr : g.w.heap.size ≤ r) : Ext g g' where
  rest := h.rest.trans h'.rest
  size := Nat.le_trans h.size h'.size
  keep b hb ho := by
    rw [h'.keep b (Nat.lt_of_lt_of_le hb h.size) (fun e => by omega) (fun ho' => (h.own b ho').elim ho (fun hs => absurd hb (Nat.not_lt.2 hs)))]
    exact h.keep b hb ho
  z b hb := h'.z b (h.z b hb)
  z' b hb := by
    rcases h'.z' b hb with h1 | h1 | h1
    · exact h.z' b h1
    · exact .inr (.inl (Nat.le_trans h.size h1))
    · rcases h.own b h1 with h2 | h2
      · exact .inr (.inr h2)
      · exact .inr (.inl h2)
  own b hb := by
    rcases h'.own b hb with h1 | h1
    · exact h.own b h1
    · exact .inr (Nat.le_trans h.size h1)
theorem Ren.pin {g g' : G} (h : Ren some g g') {m : Nat} (hn : m ≤ g.H.length) : Pin m g g' :=
  ⟨Nat.le_trans hn h.len_le, fun i k' hi hk => (h.id i i (Nat.lt_of_lt_of_le hi hn) rfl).2 k' hk⟩
theorem TmOk.ren {g g' : G} {a : Act} (h : Ren some g g') (ht : TmOk D g tm a n) : TmOk D g' tm a n := ⟨ht.size, ht.defers, fun t => Rel.mono h (ht.rel t)⟩

abbrev PostU := Exit → TM → Heap → List Int → Prop
def PostU.up (D : List Deferred) (n k r : Nat) (Q : PostU) (g : G) : Exit → Act → World → Prop := fun e a' w' =>
  ∃ tm' g' ks', g'.w = w' ∧ Q e tm' g'.H ks' ∧ GOk g' ∧ TmOk D g' tm' a' n ∧ ExtX r g g' ∧ Pin k g g' ∧ MapAt r ks' g'
/-- As 'T', with a map at place r. -/
def U (D : List Deferred) (P : Program) (n k r : Nat) (c : Code) (tm : TM) (H : Heap) (ks : List Int) (Q : PostU) : Prop :=
  ∀ g a, g.H = H → k ≤ H.length → GOk g → TmOk D g tm a n → MapAt r ks g → c.wp P (Q.up D n k r g) a g.w
variable {Q : PostU}
def thenU (K : TM → Heap → List Int → Prop) (Q : PostU) : PostU
  | .normal => K
  | e => Q e
def inBlockU (id : Nat) (Q : PostU) : PostU
  | .exit id' => if id' = id then Q .normal else Q (.exit id')
  | e => Q e
theorem PostU.up_trans {g g' : G} {e : Exit} {a : Act} {w : World} (hx : ExtX r g g') (hp : Pin k g g') (h : Q.up D n k r g' e a w) : Q.up D n k r g e a w := by
  obtain ⟨tm', g'', ks', h1, h2, h3, h4, h5, h6, h7⟩ := h
  exact ⟨tm', g'', ks', h1, h2, h3, h4, hx.trans h5, hp.trans h6, h7⟩
/-- What does not name the map. -/
theorem U.lift {c : Code} (h : T D P n k c tm H (fun e tm H => Q e tm H ks)) : U D P n k r c tm H ks Q :=
  fun g a hH hk hg ht hm => wp_mono (h g a hH hk hg ht) fun e a' w' ⟨tm', g', h1, h2, h3, h4, h5, h6⟩ => ⟨tm', g', ks, h1, h2, h3, h4, h5.x, h6, hm.ext hg h5⟩
theorem U.skip (h : Q .normal tm H ks) : U D P n k r .skip tm H ks Q := U.lift (T.skip h)
theorem U.exit {id : Nat} (h : Q (.exit id) tm H ks) : U D P n k r (.exit id) tm H ks Q := U.lift (T.exit h)
theorem U.ret (h : Q .ret tm H ks) : U D P n k r .ret tm H ks Q := U.lift (T.ret h)
theorem U.label {l : Nat} (h : Q .normal tm H ks) : U D P n k r (.label l) tm H ks Q := U.lift (T.label h)
theorem U.seq' {x y : Code} (h : U D P n k r x tm H ks (thenU (fun tm H ks => U D P n k r y tm H ks Q) Q)) : U D P n k r (.seq x y) tm H ks Q := by
  intro g a hH hk hg ht hm
  refine wp_seq (wp_mono (h g a hH hk hg ht hm) fun e a' w' he => ?_)
  obtain ⟨tm', g', ks', h1, h2, h3, h4, h5, h6, h7⟩ := he
  cases e with
  | normal =>
    simp only [thenU] at h2
    simp only [Exit.then]
    subst h1
    exact wp_mono (h2 g' a' rfl h6.len h3 h4 h7) fun e a w hq => PostU.up_trans h5 h6 hq
  | _ => exact ⟨tm', g', ks', h1, h2, h3, h4, h5, h6, h7⟩
theorem U.seq {x y : Code} (h : ∀ K : TM → Heap → List Int → Prop, (∀ tm H ks, U D P n k r y tm H ks Q → K tm H ks) → U D P n k r x tm H ks (thenU K Q)) : U D P n k r (.seq x y) tm H ks Q :=
  U.seq' (h _ fun _ _ _ h => h)
theorem U.cond {c : Operand} {x y : Code} {b : Bool} (hc : ev tm c = .v (.bool b)) (ht : b = true → U D P n k r x tm H ks Q) (hf : b = false → U D P n k r y tm H ks Q) : U D P n k r (.cond c x y) tm H ks Q := by
  intro g a hH hk hg ha hm
  have h := ev_rel ha.rel c
  rw [hc] at h
  simp only [Rel] at h
  exact wp_cond_split h (fun e => ht e g a hH hk hg ha hm) (fun e => hf e g a hH hk hg ha hm)
theorem U.cond_true {c : Operand} {x y : Code} (hc : ev tm c = .v (.bool true)) (ht : U D P n k r x tm H ks Q) : U D P n k r (.cond c x y) tm H ks Q :=
  U.cond hc (fun _ => ht) (fun h => by cases h)
theorem U.cond_false {c : Operand} {x y : Code} (hc : ev tm c = .v (.bool false)) (hf : U D P n k r y tm H ks Q) : U D P n k r (.cond c x y) tm H ks Q :=
  U.cond hc (fun h => by cases h) (fun _ => hf)
theorem U.block {id : Nat} {c : Code} (h : U D P n k r c tm H ks (inBlockU id Q)) : U D P n k r (.block id c) tm H ks Q := by
  intro g a hH hk hg ht hm
  refine wp_block (wp_mono (h g a hH hk hg ht hm) fun e a' w' he => ?_)
  obtain ⟨tm', g', ks', h1, h2, h3, h4, h5, h6, h7⟩ := he
  cases e with
  | exit id' =>
    simp only [inBlockU] at h2
    simp only [Exit.inBlock]
    by_cases hid : id' = id
    · simp only [hid, if_true] at h2 ⊢
      exact ⟨tm', g', ks', h1, h2, h3, h4, h5, h6, h7⟩
    · simp only [hid, if_false] at h2 ⊢
      exact ⟨tm', g', ks', h1, h2, h3, h4, h5, h6, h7⟩
  | _ => exact ⟨tm', g', ks', h1, h2, h3, h4, h5, h6, h7⟩
theorem U.ent {c : Code} {tm' : TM} {H' : Heap} (h : TEnt k tm H tm' H') (ht : U D P n k r c tm' H' ks Q) : U D P n k r c tm H ks Q := by
  intro g a hH hk hg ha hm
  obtain ⟨g1, a1, a2, a3, a4, a5, a6⟩ := h g _ hH hk hg ha.rel
  rw [← a1]
  exact wp_mono (ht g1 a a2 (a2 ▸ a6.len) a3 ⟨ha.size, ha.defers, a4⟩ (hm.ext hg a5)) fun e a w hq => PostU.up_trans a5.x a6 hq
theorem keepU {y : Code} {K : TM → Heap → List Int → Prop} (hK : ∀ tm H ks, U D P n k r y tm H ks Q → K tm H ks) (l : List Nat) {tm' : TM} {H' : Heap} (ht : tkeep l tm = tm') (hH : H = H') (h : U D P n k r y tm' H' ks Q) : K tm H ks :=
  hK tm H ks (U.ent (.keep (tget_tkeep l)) (by rw [ht, hH]; exact h))
/-- A loop: the states at a round's beginning, the map's keys among them. -/
theorem U.loopI {c : Code} {ι : Type} (good : ι → Prop) (μ : ι → Nat) (S : ι → (TM × Heap) × List Int) (i0 : ι) (g0 : good i0) (h0 : TEnt k tm H (S i0).1.1 (S i0).1.2) (hM : ks = (S i0).2)
    (round : ∀ i, good i → U D P n k r c (S i).1.1 (S i).1.2 (S i).2 (thenU (fun tm' H' ks' => ∃ j, good j ∧ μ j < μ i ∧ TEnt k tm' H' (S j).1.1 (S j).1.2 ∧ ks' = (S j).2) Q)) : U D P n k r (.loop c) tm H ks Q := by
  subst hM
  refine U.ent h0 ?_
  intro g a hH hk hg ht hm
  refine wp_loop_ghost (fun m a w => ∃ i tm' g', good i ∧ μ i = m ∧ tm' = (S i).1.1 ∧ g'.H = (S i).1.2 ∧ g'.w = w ∧ GOk g' ∧ TmOk D g' tm' a n ∧ ExtX r g g' ∧ Pin k g g' ∧ MapAt r (S i).2 g') (μ i0) ⟨i0, _, g, g0, rfl, rfl, hH, rfl, hg, ht, .refl g, .refl (hH ▸ hk), hm⟩ ?_
  rintro m a w ⟨i, tm', g', hi, rfl, rfl, hH', rfl, hg', ht', hx, hp, hm'⟩
  refine wp_mono (round i hi g' a hH' (hH' ▸ hp.len) hg' ht' hm') fun e a' w' he => ?_
  obtain ⟨tm'', g'', ks'', h1, h2, h3, h4, h5, h6, h7⟩ := he
  cases e with
  | normal =>
    simp only [thenU] at h2
    obtain ⟨j, q1, q2, q3, q4⟩ := h2
    obtain ⟨g3, a1, a2, a3, a4, a5, a6⟩ := q3 g'' _ rfl h6.len h3 h4.rel
    exact ⟨μ j, q2, j, _, g3, q1, rfl, rfl, a2, a1.trans h1, a3, ⟨h4.size, h4.defers, a4⟩, (hx.trans h5).trans a5.x, (hp.trans h6).trans a6, q4 ▸ h7.ext h3 a5⟩
  | _ => exact ⟨tm'', g'', ks'', h1, h2, h3, h4, hx.trans h5, hp.trans h6, h7⟩

/-- One operation, which may look into the map or write it. -/
def StepU (P : Program) (r : Nat) (tm : TM) (H : Heap) (ks : List Int) (o : Oper) (x : AV) (H' : Heap) (ks' : List Int) : Prop :=
  ∀ g a (next : Act → World → Prop) (Q : Exit → Act → World → Prop), g.H = H → GOk g → OpRel g tm a o → MapAt r ks g → (∀ v g', g'.H = H' → GOk g' → Rel g' x v → Ren some g g' → ExtX r g g' → MapAt r ks' g' → next (a.put o.dst v) g'.w) → o.wp P a g.w next Q
theorem StepOk.u {o : Oper} {x : AV} {H' : Heap} (h : StepOk P tm H o x H') : StepU P r tm H ks o x H' ks :=
  fun g a next Q hH hg ht hm hn => h g a next Q hH hg ht fun v g' h1 h2 h3 h4 => hn v g' h1 h2 h3 h4.ren h4.ext.x (hm.ext hg h4.ext)
def runOpsU (P : Program) (n r : Nat) (ops : Array Oper) : List Oper → TM → Heap → List Int → (TM → Heap → List Int → Prop) → Prop
  | [], tm, H, ks, K => K tm H ks
  | o :: rest, tm, H, ks, K => dOk n o.dst = true ∧ ((wantA ops tm o = some true ∧ ∃ x H' ks', StepU P r tm H ks o x H' ks' ∧ runOpsU P n r ops rest (tput tm o.dst x) H' ks' K) ∨ (wantA ops tm o = some false ∧ runOpsU P n r ops rest (tput tm o.dst (.v undef)) H ks K))
section
variable {ops : Array Oper} {o : Oper} {rest : List Oper} {K : TM → Heap → List Int → Prop}
theorem um {x : AV} {H' : Heap} {ks' : List Int} (hd : dOk n o.dst = true) (hw : wantA ops tm o = some true) (hs : StepU P r tm H ks o x H' ks') (k : runOpsU P n r ops rest (tput tm o.dst x) H' ks' K) : runOpsU P n r ops (o :: rest) tm H ks K :=
  ⟨hd, .inl ⟨hw, x, H', ks', hs, k⟩⟩
theorem uo {x : AV} {H' : Heap} (hd : dOk n o.dst = true) (hw : wantA ops tm o = some true) (hs : StepOk P tm H o x H') (k : runOpsU P n r ops rest (tput tm o.dst x) H' ks K) : runOpsU P n r ops (o :: rest) tm H ks K :=
  um hd hw hs.u k
theorem uo_skip (hd : dOk n o.dst = true) (hw : wantA ops tm o = some false) (k : runOpsU P n r ops rest (tput tm o.dst (.v undef)) H ks K) : runOpsU P n r ops (o :: rest) tm H ks K :=
  ⟨hd, .inr ⟨hw, k⟩⟩
theorem uo_nil (k : K tm H ks) : runOpsU P n r ops [] tm H ks K := k
theorem uo_case {c : Bool} {H' : Heap} (hd : dOk n o.dst = true) (hw : wantA ops tm o = some true) (hs : StepOk P tm H o (.b c) H')
    (kt : c = true → runOpsU P n r ops rest (tput tm o.dst (.b true)) H' ks K) (kf : c = false → runOpsU P n r ops rest (tput tm o.dst (.b false)) H' ks K) : runOpsU P n r ops (o :: rest) tm H ks K := by
  cases c
  · exact uo hd hw hs (kf rfl)
  · exact uo hd hw hs (kt rfl)
end
theorem runOpsU_sound {ops : Array Oper} {K : TM → Heap → List Int → Prop} {Qc : Exit → Act → World → Prop} (g0 : G) (hk : ∀ tm g a ks, K tm g.H ks → GOk g → TmOk D g tm a n → ExtX r g0 g → Pin k g0 g → MapAt r ks g → Qc .normal a g.w) :
    ∀ (l : List Oper) (i : Nat), ops.toList.drop i = l → ∀ (tm : TM) (H : Heap) (ks : List Int), runOpsU P n r ops l tm H ks K → ∀ g a, g.H = H → GOk g → TmOk D g tm a n → ExtX r g0 g → Pin k g0 g → MapAt r ks g → wpOps P ops Qc (List.range' i l.length) a g.w
  | [], i, _, tm, H, ks, h, g, a, hH, hg, ht, hx, hp, hm => hk tm g a ks (hH ▸ h) hg ht hx hp hm
  | o :: rest, i, hl, tm, H, ks, h, g, a, hH, hg, ht, hx, hp, hm => by
    have hio : ops[i]? = some o := by
      have : (ops.toList.drop i)[0]? = some o := by rw [hl]; rfl
      simpa using this
    have hrest : ops.toList.drop (i + 1) = rest := by
      have : (ops.toList.drop i).drop 1 = rest := by rw [hl]; rfl
      rw [List.drop_drop] at this
      exact this
    simp only [List.length_cons, List.range'_succ, wpOps, hio]
    obtain ⟨hd, h⟩ := h
    rcases h with ⟨hw, x, H', ks', hs, h⟩ | ⟨hw, h⟩
    · have hw' := wantA_sound ht.rel hw
      rw [if_pos hw']
      refine .inl (hs g a _ _ hH hg ht.rel.op hm fun v g' hH' hg' hr hren hext hm' => ?_)
      exact runOpsU_sound g0 hk rest (i + 1) hrest _ H' ks' h g' _ hH' hg' ((ht.ren hren).put hr hd) (hx.trans hext) (hp.trans (hren.pin hp.len)) hm'
    · have hw' := wantA_sound ht.rel hw
      rw [if_neg (by rw [hw']; decide)]
      exact runOpsU_sound g0 hk rest (i + 1) hrest _ H ks h g _ hH hg (ht.put (by simp [Rel]) hd) hx hp hm
theorem U.region {id : Nat} {ops : Array Oper} (h : runOpsU P n r ops ops.toList tm H ks (Q .normal)) : U D P n k r (.region id ops false) tm H ks Q := by
  intro g a hH hk hg ht hm
  refine wp_region ?_
  have := runOpsU_sound (P := P) (k := k) (Qc := Q.up D n k r g) g (fun tm' g' a' ks' h1 h2 h3 h4 h5 h6 => ⟨tm', g', ks', rfl, h1, h2, h3, h4, h5, h6⟩) ops.toList 0 (by simp) tm H ks h g a hH hg ht (.refl g) (.refl (hH ▸ hk)) hm
  simpa [List.range_eq_range'] using this

/-- Something else more in memory. -/
theorem alloc_ok {g : G} (hg : GOk g) (ob : Obj) : GOk { g with w := g.w.alloc ob } ∧ Sub g { g with w := g.w.alloc ob } := by
  have hold : ∀ b, b < g.w.heap.size → (g.w.alloc ob).heap[b]? = g.w.heap[b]? := fun b hb => by
    show (g.w.heap.push ob)[b]? = _
    rw [Array.getElem?_push_lt hb, Array.getElem?_eq_getElem hb]
  have hr : Ren some g { g with w := g.w.alloc ob } := ⟨fun _ h => h, fun b hb => hold b (hg.zlt b hb), fun i j hi hj => by cases hj; exact ⟨hi, fun k hk => ⟨k, hk, rfl, rfl, rfl, rfl⟩⟩⟩
  refine ⟨⟨fun id k hk => ?_, hg.inj, fun b hb => Nat.lt_of_lt_of_le (hg.zlt b hb) (by show g.w.heap.size ≤ (g.w.heap.push ob).size; simp)⟩, hr, ⟨⟨rfl, rfl, rfl⟩, by show g.w.heap.size ≤ (g.w.heap.push ob).size; simp, fun b hb _ => hold b hb, fun _ h => h, fun _ h => .inl h, fun _ h => .inl h⟩⟩
  obtain ⟨h1, h2, h3, h4, h5⟩ := hg.blk id k hk
  refine ⟨h1, h2, h3, h4, fun h0 => ?_⟩
  obtain ⟨c, e, lo, hi, m1, m2, m3, xs, m4, m5⟩ := h5 h0
  exact ⟨c, e, lo, hi, by rw [hold _ (Array.getElem?_eq_some_iff.1 m1).1]; exact m1, m2, m3, xs, RelL.mono hr m4, m5⟩
/-- A map is made; what follows knows where. -/
theorem T.mkMap {Q : Post} {id : Nat} {ops : Array Oper} {y : Code} {o : Oper} {rest : List Oper} {t : TypeId} (hops : ops.toList = o :: rest) (ho : o.op = .makeMap t none) (hg0 : o.guard = none) (hd : dOk n o.dst = true)
    (h : ∀ (r : Nat) (K : TM → Heap → List Int → Prop), (∀ tm H ks, U D P n k r y tm H ks (fun e tm H _ => Q e tm H) → K tm H ks) → runOpsU P n r ops rest (tput tm o.dst (.v (.map (some r)))) H [] K) : T D P n k (.seq (.region id ops false) y) tm H Q := by
  intro g a hH hk hg ht
  refine wp_seq (wp_region ?_)
  have h0 : ops[0]? = some o := by
    have : ops.toList[0]? = some o := by rw [hops]; rfl
    simpa using this
  obtain ⟨hg1, hs1⟩ := alloc_ok hg (.map #[] 0)
  let r := g.w.heap.size
  let g1 : G := { g with w := g.w.alloc (.map #[] 0) }
  have hm1 : MapAt r [] g1 := ⟨⟨#[], 0, by show (g.w.heap.push (.map #[] 0))[g.w.heap.size]? = _; simp, rfl⟩, fun hz => absurd (hg.zlt _ hz) (Nat.lt_irrefl _)⟩
  have hrun : (execOp a.eval o).run P g.w = .ok (.value (.map (some r))) g1.w := by
    simp [execOp, ho, Instr.makeMap, g1, r]
  have ht1 : TmOk D g1 (tput tm o.dst (.v (.map (some r)))) (a.put o.dst (.map (some r))) n := (ht.mono hs1).put (by simp [Rel]) hd
  have hp1 : Pin k g g1 := hs1.pin (hH ▸ hk)
  have hfin : wpOps P ops (Exit.then (y.wp P (Q.up D n k g)) (Q.up D n k g)) (List.range' 1 rest.length) (a.put o.dst (.map (some r))) g1.w := by
    refine runOpsU_sound (P := P) (k := k) (r := r) (K := fun tm H ks => U D P n k r y tm H ks (fun e tm H _ => Q e tm H)) g1 (fun tm' g' a' ks' h1 h2 h3 h4 h5 h6 => ?_) rest 1 (by rw [hops]; rfl) _ H [] (h r _ fun _ _ _ h => h) g1 _ hH hg1 ht1 (.refl g1) (.refl (by show k ≤ g.H.length; rw [hH]; exact hk)) hm1
    simp only [Exit.then]
    refine wp_mono (h1 g' a' rfl h5.len h2 h3 h6) fun e a'' w'' hq => ?_
    obtain ⟨tm'', g'', ks'', q1, q2, q3, q4, q5, q6, q7⟩ := hq
    exact ⟨tm'', g'', q1, q2, q3, q4, ExtX.back hs1.ext (h4.trans q5) (Nat.le_refl _), (hp1.trans h5).trans q6⟩
  have hlen : ops.size = rest.length + 1 := by
    have := congrArg List.length hops
    simpa using this
  rw [hlen, List.range_eq_range', List.range'_succ]
  simp only [wpOps, h0]
  have hwant : Region.wanted o (yielded ops a.tmps) = true := by simp [Region.wanted, hg0]
  rw [if_pos hwant]
  refine .inl ?_
  unfold Oper.wp
  rw [hrun, Oper.upon_value]
  exact hfin

theorem MEnt.keys {es : Array MapEntry} (h : MEnt ks es) : ∀ x ∈ es.toList, MapKept.IsKey (.int .i64) x.key := by
  intro x hx
  have : (x.key, x.val) ∈ es.toList.map (fun e => (e.key, e.val)) := List.mem_map_of_mem hx
  rw [show es.toList.map (fun e => (e.key, e.val)) = _ from h, List.mem_map] at this
  obtain ⟨k, _, e⟩ := this
  rw [← (Prod.mk.inj e).1]
  rfl
theorem MEnt.mem {es : Array MapEntry} (h : MEnt ks es) {x : MapEntry} (hx : x ∈ es.toList) : ∃ k ∈ ks, x.key = .int .i64 k ∧ x.val = .bool true := by
  have : (x.key, x.val) ∈ es.toList.map (fun e => (e.key, e.val)) := List.mem_map_of_mem hx
  rw [show es.toList.map (fun e => (e.key, e.val)) = _ from h, List.mem_map] at this
  obtain ⟨k, hk, e⟩ := this
  exact ⟨k, hk, (Prod.mk.inj e).1.symm, (Prod.mk.inj e).2.symm⟩
theorem MEnt.has {es : Array MapEntry} (h : MEnt ks es) {z : Int} (hz : z ∈ ks) : ∃ x ∈ es.toList, x.key = .int .i64 z := by
  have : (Value.int .i64 z, Value.bool true) ∈ es.toList.map (fun e => (e.key, e.val)) := by
    rw [show es.toList.map (fun e => (e.key, e.val)) = _ from h]
    exact List.mem_map_of_mem (f := fun k => (Value.int .i64 k, Value.bool true)) hz
  obtain ⟨x, hx, e⟩ := List.mem_map.1 this
  exact ⟨x, hx, (Prod.mk.inj e).1⟩
theorem um_lookup {o : Oper} {t kt et : TypeId} {p q : Operand} (ho : o.op = .lookup t p q false) (hm : P.underlying t = some (.map kt et)) (hk : P.underlying kt = some (.int .i64)) {j : TI} (hj : tyI P et = some j) (hz : j.zero = .bool false) (hp : ev tm p = .v (.map (some r))) {z : Int} (hq : ev tm q = .int z) : StepU P r tm H ks o (.b (decide (z ∈ ks))) H ks := by
  intro g a next Qc hH hg ht hma hn
  have h1 := ht p (by simp [ho, Op.operands])
  have h2 := ht q (by simp [ho, Op.operands])
  rw [hp] at h1
  rw [hq] at h2
  simp only [Rel] at h1 h2
  obtain ⟨es, cl, hb, hes⟩ := hma.mem
  have hkey : MapKept.IsKey (.int .i64) (.int .i64 z) := rfl
  have hrun : (execOp a.eval o).run P g.w = .ok (.value (.bool (decide (z ∈ ks)))) g.w := by
    rcases MapKept.findNow_spec hkey es.toList 0 hes.keys with ⟨f1, f2⟩ | ⟨i, e, f1, f2, f3⟩
    · have hno : z ∉ ks := fun h => by
        obtain ⟨x, hx, e⟩ := hes.has h
        exact f2 x hx e
      rw [decide_eq_false hno]
      obtain ⟨_, _, e3, _⟩ := tyI_run hj g.w
      rw [hz] at e3
      simp [execOp, ho, h1, h2, Instr.lookup, run_underlying hm, MapKept.run_getObj_map hb, MapKept.run_checkKey hk hkey, MapKept.run_findKey hk f1, e3, Result.andThen]
    · obtain ⟨k', hk', e1, e2⟩ := hes.mem (List.mem_of_getElem? f2)
      have : k' = z := by rw [e1] at f3; cases f3; rfl
      subst this
      rw [decide_eq_true hk']
      rw [e2] at f1
      simp [execOp, ho, h1, h2, Instr.lookup, run_underlying hm, MapKept.run_getObj_map hb, MapKept.run_checkKey hk hkey, MapKept.run_findKey hk f1, Result.andThen]
  unfold Oper.wp
  rw [hrun, Oper.upon_value]
  exact hn _ g hH hg (by simp [Rel]) (.refl g) (.refl g) hma
def mput (ks : List Int) (z : Int) : List Int := if z ∈ ks then ks else ks ++ [z]
theorem mput_mem {ks : List Int} {z x : Int} : x ∈ mput ks z ↔ x = z ∨ x ∈ ks := by
  unfold mput
  split
  · rename_i h
    constructor
    · exact .inr
    · rintro (rfl | h')
      · exact h
      · exact h'
  · simp only [List.mem_append, List.mem_singleton]
    exact Or.comm
/-- The map's own place turned. -/
theorem setMap_ok {g : G} (hg : GOk g) (hm : MapAt r ks g) {es : Array MapEntry} {c : Nat} {ks' : List Int} (he : MEnt ks' es) :
    let g' : G := { g with w := { g.w with heap := g.w.heap.setIfInBounds r (.map es c) } }
    GOk g' ∧ Ren some g g' ∧ ExtX r g g' ∧ MapAt r ks' g' := by
  intro g'
  obtain ⟨es0, cl, hb, _⟩ := hm.mem
  have hset := MapKept.heap_set (o' := .map es c) hb
  have hne : ∀ b, g.Z b → b ≠ r := fun b hz e => hm.nz (e ▸ hz)
  have hr : Ren some g g' := ⟨fun _ h => h, fun b hz => hset.2 b (hne b hz), fun i j hi hj => by cases hj; exact ⟨hi, fun k hk => ⟨k, hk, rfl, rfl, rfl, rfl⟩⟩⟩
  refine ⟨⟨fun id k hk => ?_, hg.inj, fun b hz => ?_⟩, hr, ⟨⟨rfl, rfl, rfl⟩, by simp [g'], fun b _ h2 _ => hset.2 b h2, fun _ h => h, fun _ h => .inl h, fun _ h => .inl h⟩, ⟨⟨es, c, hset.1, he⟩, hm.nz⟩⟩
  · obtain ⟨h1, h2, h3, h4, h5⟩ := hg.blk id k hk
    refine ⟨h1, h2, h3, h4, fun h0 => ?_⟩
    obtain ⟨c', e, lo, hi, m1, m2, m3, xs, m4, m5⟩ := h5 h0
    have hφ : g.φ id ≠ r := fun e' => by rw [e', hb] at m1; cases m1
    exact ⟨c', e, lo, hi, (hset.2 _ hφ).trans m1, m2, m3, xs, RelL.mono hr m4, m5⟩
  · have := hg.zlt b hz
    simpa [g'] using this
theorem um_update {o : Oper} {t kt et : TypeId} {p q v : Operand} (ho : o.op = .mapUpdate t p q v) (hm : P.underlying t = some (.map kt et)) (hk : P.underlying kt = some (.int .i64)) (hp : ev tm p = .v (.map (some r))) {z : Int} (hq : ev tm q = .int z) (hv : ev tm v = .b true) : StepU P r tm H ks o .any H (mput ks z) := by
  intro g a next Qc hH hg ht hma hn
  have h1 := ht p (by simp [ho, Op.operands])
  have h2 := ht q (by simp [ho, Op.operands])
  have h3 := ht v (by simp [ho, Op.operands])
  rw [hp] at h1
  rw [hq] at h2
  rw [hv] at h3
  simp only [Rel] at h1 h2 h3
  obtain ⟨es, cl, hb, hes⟩ := hma.mem
  have hkey : MapKept.IsKey (.int .i64) (.int .i64 z) := rfl
  have key : ∃ es' c', (execOp a.eval o).run P g.w = .ok .skip { g.w with heap := g.w.heap.setIfInBounds r (.map es' c') } ∧ MEnt (mput ks z) es' := by
    rcases MapKept.findNow_spec hkey es.toList 0 hes.keys with ⟨f1, f2⟩ | ⟨i, e, f1, f2, f3⟩
    · have hno : z ∉ ks := fun h => by
        obtain ⟨x, hx, e⟩ := hes.has h
        exact f2 x hx e
      refine ⟨es.push { key := .int .i64 z, val := .bool true, born := cl }, cl + 1, ?_, ?_⟩
      · simp [execOp, ho, h1, h2, h3, Instr.mapUpdate, run_underlying hm, MapKept.run_getObj_map hb, MapKept.run_checkKey hk hkey, MapKept.run_findKey hk f1, MapKept.run_setObj_map _ hb, Result.andThen]
      · have hes' : es.toList.map (fun e => (e.key, e.val)) = _ := hes
        unfold mput
        rw [if_neg hno]
        unfold MEnt
        simp only [Array.toList_push, List.map_append, hes', List.map_cons, List.map_nil]
    · obtain ⟨k', hk', e1, e2⟩ := hes.mem (List.mem_of_getElem? f2)
      have hkz : k' = z := by rw [e1] at f3; cases f3; rfl
      subst hkz
      have hei : es[i]? = some e := by simpa using f2
      refine ⟨es.modify i fun e => { e with key := .int .i64 k', val := .bool true }, cl, ?_, ?_⟩
      · simp [execOp, ho, h1, h2, h3, Instr.mapUpdate, run_underlying hm, MapKept.run_getObj_map hb, MapKept.run_checkKey hk hkey, MapKept.run_findKey hk f1, hei, e1, MapKept.run_keyThatStays hkey, MapKept.run_setObj_map _ hb, Result.andThen]
      · have hes' : es.toList.map (fun e => (e.key, e.val)) = _ := hes
        unfold mput
        rw [if_pos hk']
        unfold MEnt
        rw [← hes']
        apply List.ext_getElem?
        intro j
        simp only [List.getElem?_map, Array.getElem?_toList, Array.getElem?_modify]
        by_cases hij : i = j
        · subst hij
          rw [if_pos rfl, hei]
          simp [e1, e2]
        · rw [if_neg hij]
  obtain ⟨es', c', hrun, hes'⟩ := key
  obtain ⟨q1, q2, q3, q4⟩ := setMap_ok (c := c') hg hma hes'
  unfold Oper.wp
  rw [hrun, Oper.upon_skip]
  exact hn undef { g with w := { g.w with heap := g.w.heap.setIfInBounds r (.map es' c') } } hH q1 (by simp [Rel]) q2 q3 q4
end Go.AM
namespace Go.Proofs.YtjklgbafnfoolaaGreat.AmF
open Go.AM
theorem ti_int : tyI Tryz.prog 3 = some ⟨.int .i64, 1, 8, .int .i64 0⟩ := tyI_of (by kernel_rfl) Tryz.underlying3
theorem ti_bool : tyI Tryz.prog 4 = some ⟨.bool, 1, 1, .bool false⟩ := tyI_of (by kernel_rfl) Tryz.underlying4
theorem ti_uint8 : tyI Tryz.prog 5 = some ⟨.int .u8, 1, 1, .int .u8 0⟩ := tyI_of (by kernel_rfl) Tryz.underlying5
theorem ti_string : tyI Tryz.prog 9 = some ⟨.string, 1, 16, .string ⟨#[]⟩⟩ := tyI_of (by kernel_rfl) Tryz.underlying9
theorem ti_api_Conf : tyI Tryz.prog 23 = some ⟨.struct #[⟨ "ID", 3, 0, false, "", "", 0⟩, ⟨ "Members", 3, 1, false, "", "", 8⟩, ⟨ "Unit", 3, 2, false, "", "", 16⟩, ⟨ "Block", 3, 3, false, "", "", 24⟩, ⟨ "Cap", 3, 4, false, "", "", 32⟩, ⟨ "Zones", 3, 5, false, "", "", 40⟩, ⟨ "Spare", 3, 6, false, "", "", 48⟩, ⟨ "Meta", 3, 7, false, "", "", 56⟩, ⟨ "Open", 3, 8, false, "", "", 64⟩, ⟨ "Active", 3, 9, false, "", "", 72⟩, ⟨ "Limit", 3, 10, false, "", "", 80⟩], 11, 88, .agg #[.int .i64 0, .int .i64 0, .int .i64 0, .int .i64 0, .int .i64 0, .int .i64 0, .int .i64 0, .int .i64 0, .int .i64 0, .int .i64 0, .int .i64 0]⟩ := tyI_of (by kernel_rfl) Tryz.underlying23
theorem ti_Lint : tyI Tryz.prog 24 = some ⟨.slice 3, 1, 24, .slice none 0 0⟩ := tyI_of (by kernel_rfl) Tryz.underlying24
theorem ti_Lapi_Zone : tyI Tryz.prog 25 = some ⟨.slice 55, 1, 24, .slice none 0 0⟩ := tyI_of (by kernel_rfl) Tryz.underlying25
theorem ti_api_State : tyI Tryz.prog 27 = some ⟨.struct #[⟨ "Conf", 23, 0, false, "", "", 0⟩, ⟨ "Epoch", 3, 11, false, "", "", 88⟩, ⟨ "Seq", 3, 12, false, "", "", 96⟩, ⟨ "Status", 24, 13, false, "", "", 104⟩, ⟨ "Zones", 25, 14, false, "", "", 128⟩], 15, 152, .agg #[.int .i64 0, .int .i64 0, .int .i64 0, .int .i64 0, .int .i64 0, .int .i64 0, .int .i64 0, .int .i64 0, .int .i64 0, .int .i64 0, .int .i64 0, .int .i64 0, .int .i64 0, .slice none 0 0, .slice none 0 0]⟩ := tyI_of (by kernel_rfl) Tryz.underlying27
theorem ti_Luint8 : tyI Tryz.prog 28 = some ⟨.slice 5, 1, 24, .slice none 0 0⟩ := tyI_of (by kernel_rfl) Tryz.underlying28
theorem ti_api_Rec : tyI Tryz.prog 30 = some ⟨.struct #[⟨ "Kind", 3, 0, false, "", "", 0⟩, ⟨ "Epoch", 3, 1, false, "", "", 8⟩, ⟨ "Seq", 3, 2, false, "", "", 16⟩, ⟨ "Zone", 3, 3, false, "", "", 24⟩, ⟨ "Gen", 3, 4, false, "", "", 32⟩, ⟨ "Slot", 3, 5, false, "", "", 40⟩, ⟨ "W", 3, 6, false, "", "", 48⟩, ⟨ "Member", 3, 7, false, "", "", 56⟩, ⟨ "Status", 3, 8, false, "", "", 64⟩, ⟨ "Body", 28, 9, false, "", "", 72⟩], 10, 96, .agg #[.int .i64 0, .int .i64 0, .int .i64 0, .int .i64 0, .int .i64 0, .int .i64 0, .int .i64 0, .int .i64 0, .int .i64 0, .slice none 0 0]⟩ := tyI_of (by kernel_rfl) Tryz.underlying30
theorem ti_api_Found : tyI Tryz.prog 42 = some ⟨.struct #[⟨ "State", 27, 0, false, "", "", 0⟩, ⟨ "Count", 3, 15, false, "", "", 152⟩, ⟨ "Blocks", 3, 16, false, "", "", 160⟩], 17, 168, .agg #[.int .i64 0, .int .i64 0, .int .i64 0, .int .i64 0, .int .i64 0, .int .i64 0, .int .i64 0, .int .i64 0, .int .i64 0, .int .i64 0, .int .i64 0, .int .i64 0, .int .i64 0, .slice none 0 0, .slice none 0 0, .int .i64 0, .int .i64 0]⟩ := tyI_of (by kernel_rfl) Tryz.underlying42
theorem ti_api_Errno : tyI Tryz.prog 43 = some ⟨.int .i64, 1, 8, .int .i64 0⟩ := tyI_of (by kernel_rfl) Tryz.underlying43
theorem ti_Lapi_Par : tyI Tryz.prog 53 = some ⟨.slice 57, 1, 24, .slice none 0 0⟩ := tyI_of (by kernel_rfl) Tryz.underlying53
theorem ti_api_Zone : tyI Tryz.prog 55 = some ⟨.struct #[⟨ "Gen", 3, 0, false, "", "", 0⟩, ⟨ "Slot", 3, 1, false, "", "", 8⟩, ⟨ "Full", 4, 2, false, "", "", 16⟩, ⟨ "W", 3, 3, false, "", "", 24⟩, ⟨ "Whole", 4, 4, false, "", "", 32⟩, ⟨ "Pars", 53, 5, false, "", "", 40⟩], 6, 64, .agg #[.int .i64 0, .int .i64 0, .bool false, .int .i64 0, .bool false, .slice none 0 0]⟩ := tyI_of (by kernel_rfl) Tryz.underlying55
theorem ti_api_Par : tyI Tryz.prog 57 = some ⟨.struct #[⟨ "W", 3, 0, false, "", "", 0⟩, ⟨ "B", 28, 1, false, "", "", 8⟩], 2, 32, .agg #[.int .i64 0, .slice none 0 0]⟩ := tyI_of (by kernel_rfl) Tryz.underlying57
theorem ti_uint32 : tyI Tryz.prog 87 = some ⟨.int .u32, 1, 4, .int .u32 0⟩ := tyI_of (by kernel_rfl) Tryz.underlying87
theorem ti_Ppack_Reader : tyI Tryz.prog 98 = some ⟨.pointer 140, 1, 8, .pointer none⟩ := tyI_of (by kernel_rfl) Tryz.underlying98
theorem ti_A7int : tyI Tryz.prog 111 = some ⟨.array 7 3, 7, 56, .agg #[.int .i64 0, .int .i64 0, .int .i64 0, .int .i64 0, .int .i64 0, .int .i64 0, .int .i64 0]⟩ := tyI_of (by kernel_rfl) Tryz.underlying111
theorem ti_LPint : tyI Tryz.prog 124 = some ⟨.slice 127, 1, 24, .slice none 0 0⟩ := tyI_of (by kernel_rfl) Tryz.underlying124
theorem ti_Pint : tyI Tryz.prog 127 = some ⟨.pointer 3, 1, 8, .pointer none⟩ := tyI_of (by kernel_rfl) Tryz.underlying127
theorem ti_uint64 : tyI Tryz.prog 131 = some ⟨.int .u64, 1, 8, .int .u64 0⟩ := tyI_of (by kernel_rfl) Tryz.underlying131
theorem ti_pack_Reader : tyI Tryz.prog 140 = some ⟨.struct #[⟨ "b", 28, 0, false, "", "revetment/pack", 0⟩, ⟨ "at", 3, 1, false, "", "revetment/pack", 24⟩, ⟨ "e", 43, 2, false, "", "revetment/pack", 32⟩], 3, 40, .agg #[.slice none 0 0, .int .i64 0, .int .i64 0]⟩ := tyI_of (by kernel_rfl) Tryz.underlying140
theorem ti_LLuint8 : tyI Tryz.prog 152 = some ⟨.slice 28, 1, 24, .slice none 0 0⟩ := tyI_of (by kernel_rfl) Tryz.underlying152
theorem mixed : Tryz.prog.follows .mixedOrders = true := by kernel_rfl
end Go.Proofs.YtjklgbafnfoolaaGreat.AmF
namespace Go.AM
/-- What the tests of a walk say as facts, for simp. -/
theorem dE : (∀ (p : Prop) [Decidable p], (decide p = true) = p) ∧ (∀ (p : Prop) [Decidable p], (decide p = false) = ¬ p) ∧ (∀ {α : Type} [BEq α] [LawfulBEq α] {a b : α}, (a == b) = true ↔ a = b) ∧ (∀ {α : Type} [BEq α] [LawfulBEq α] {a b : α}, (a == b) = false ↔ a ≠ b) ∧ (∀ {α : Type} [BEq α] [LawfulBEq α] {a b : α}, (a != b) = true ↔ a ≠ b) ∧ (∀ {α : Type} [BEq α] [LawfulBEq α] {a b : α}, (a != b) = false ↔ a = b) ∧ (∀ {α : Type} (a b : α), (a ≠ b) = ¬ (a = b)) ∧ (∀ b : Bool, ((!b) = true) = (b = false)) ∧ (∀ b : Bool, ((!b) = false) = (b = true)) :=
  ⟨fun _ => decide_eq_true_eq, fun _ => by simp, beq_iff_eq, beq_eq_false_iff_ne, bne_iff_ne, bne_eq_false_iff_eq, fun _ _ => rfl, fun _ => Bool.not_eq_true' _, fun _ => by simp⟩
/-- An operation, and the rest. -/
theorem rs {P : Program} {n : Nat} {tm : TM} {H : Heap} {ops : Array Oper} {o : Oper} {rest : List Oper} {K : TM → Heap → Prop} {x : AV} {H' : Heap} (hd : dOk n o.dst = true) (hw : wantA ops tm o = some true) (hs : OpOk P tm H o x H') (k : runOps P n ops rest (tput tm o.dst x) H' K) : runOps P n ops (o :: rest) tm H K := ro hd hw (OpOk.step hs) k
/-- What is held, for simp. -/
theorem dH : (∀ H : Heap, HeldL [] H = True) ∧ (∀ H : Heap, HeldL (none :: H) [] = HeldL H []) ∧ (∀ (c : Option Blk) (H H' : Heap), HeldL (none :: H) (c :: H') = HeldL H H') ∧ (∀ (b : Blk) (H : Heap), HeldL (some b :: H) [] = False) ∧ (∀ (b : Blk) (c : Option Blk) (H H' : Heap), HeldL (some b :: H) (c :: H') = (c = some b ∧ HeldL H H')) ∧ (∀ (α β : Type) (f : α → β) (a : α) (l : List α), (a :: l).map f = f a :: l.map f) ∧ (∀ (α β : Type) (f : α → β), ([] : List α).map f = []) ∧ (∀ (α : Type) (a : α) (l m : List α), a :: l ++ m = a :: (l ++ m)) ∧ (∀ (α : Type) (l : List α), [] ++ l = l) ∧ (∀ (α : Type) (a b : α) (l : List α), (a :: l).set 0 b = b :: l) ∧ (∀ (α : Type) (a b : α) (l : List α) (i : Nat), (a :: l).set (i + 1) b = a :: l.set i b) :=
  ⟨fun _ => by simp only [HeldL], fun _ => by simp only [HeldL], fun _ _ _ => by simp only [HeldL], fun _ _ => by simp only [HeldL], fun _ _ _ _ => by simp only [HeldL], fun _ _ _ _ _ => rfl, fun _ _ _ => rfl, fun _ _ _ _ => rfl, fun _ _ => rfl, fun _ _ _ _ => rfl, fun _ _ _ _ _ => rfl⟩
/-- Rows of whole numbers, all frozen. -/
def rowsA (k : IntKind) (ls : List (List Int)) : List AV := ls.map fun l => .fz 1 (ints k l)
theorem rowsA_get_of {k : IntKind} {ls : List (List Int)} {i : Nat} {l : List Int} (h : ls[i]? = some l) : (rowsA k ls)[i]? = some (.fz 1 (ints k l)) := by simp [rowsA, h]
theorem rowsA_length (k : IntKind) (ls : List (List Int)) : (rowsA k ls).length = ls.length := by simp [rowsA]
theorem renL_rowsA (ρ : Nat → Option Nat) (k : IntKind) (ls : List (List Int)) : renL ρ (rowsA k ls) = rowsA k ls := by
  rw [renL_map]; simp [rowsA, AV.ren, renL_ints]
theorem take_succ_get {α : Type} {l : List α} {i : Nat} {x : α} (h : l[i]? = some x) : l.take (i + 1) = l.take i ++ [x] := by
  rw [List.take_add_one, h]; rfl
theorem wf_u8 {n : Int} (h : (Lit.int .u8 n).wf = true) : 0 ≤ n ∧ n < 256 := by
  simp [Lit.wf, IntKind.min, IntKind.max, IntKind.signed, IntKind.bits] at h
  omega
/-- Bytes as numbers. -/
def Bytes (l : List Int) : Prop := ∀ x ∈ l, 0 ≤ x ∧ x < 256
theorem bytes_of {l : List Int} (h : ∀ x ∈ l, (Lit.int .u8 x).wf = true) : Bytes l := fun x hx => wf_u8 (h x hx)
theorem Bytes.nil : Bytes [] := fun _ h => by cases h
theorem Bytes.append {a b : List Int} (ha : Bytes a) (hb : Bytes b) : Bytes (a ++ b) := fun x hx => (List.mem_append.1 hx).elim (ha x) (hb x)
theorem Bytes.cons {a : Int} {b : List Int} (ha : 0 ≤ a ∧ a < 256) (hb : Bytes b) : Bytes (a :: b) := fun x hx => (List.mem_cons.1 hx).elim (fun h => by rw [h]; exact ha) (hb x)
theorem Bytes.of_subset {a b : List Int} (h : Bytes a) (hs : ∀ x ∈ b, x ∈ a) : Bytes b := fun x hx => h x (hs x hx)
theorem Bytes.take {a : List Int} (h : Bytes a) (n : Nat) : Bytes (a.take n) := h.of_subset fun _ hx => List.mem_of_mem_take hx
theorem Bytes.drop {a : List Int} (h : Bytes a) (n : Nat) : Bytes (a.drop n) := h.of_subset fun _ hx => List.mem_of_mem_drop hx

def U32 (x : Int) : Prop := 0 ≤ x ∧ x < 4294967296
theorem bits32_u (o : BinOp) (a b : Int) : ∃ n : Int, Go.bits o .u32 a b = n % 4294967296 ∨ Go.bits o .u32 a b = 0 := by
  cases o <;> simp only [Go.bits, IntKind.wrap_u32] <;> first | exact ⟨_, .inl rfl⟩ | exact ⟨0, .inr rfl⟩
theorem bits32 (o : BinOp) (a b : Int) : U32 (Go.bits o .u32 a b) := by
  obtain ⟨n, h⟩ := bits32_u o a b
  unfold U32
  rcases h with h | h <;> rw [h] <;> omega
theorem wraps_u32 (n : Int) (h0 : 0 ≤ n) (h1 : n < 2 ^ 32) : IntKind.u32.wrap n = n := by rw [IntKind.wrap_u32]; omega
theorem and1 (x : Int) (h : U32 x) : Go.bits .and .u32 x 1 = x % 2 := by
  have := bits_mask .u32 32 (by decide) wraps_u32 1 (by decide) x h.1 (by have := h.2; omega)
  simpa using this
/-- Exclusive or of numbers below 2^32. -/
theorem xor_nat (a b : Nat) (ha : a < 4294967296) (hb : b < 4294967296) : Go.bits .xor .u32 a b = ((a ^^^ b : Nat) : Int) := by
  have h : a ^^^ b < 2 ^ 32 := Nat.xor_lt_two_pow ha hb
  have hp : (2 : Nat) ^ IntKind.u32.bits = 4294967296 := by decide
  simp only [Go.bits, BitVec.ofInt_natCast, BitVec.toNat_xor, BitVec.toNat_ofNat, hp, Nat.mod_eq_of_lt ha, Nat.mod_eq_of_lt hb]
  exact wraps_u32 _ (Int.natCast_nonneg _) (by exact_mod_cast h)
theorem xor8_nat (a b : Nat) (ha : a < 256) (hb : b < 256) : Go.bits .xor .u8 a b = ((a ^^^ b : Nat) : Int) := by
  have h : a ^^^ b < 2 ^ 8 := Nat.xor_lt_two_pow ha hb
  have hp : (2 : Nat) ^ IntKind.u8.bits = 256 := by decide
  simp only [Go.bits, BitVec.ofInt_natCast, BitVec.toNat_xor, BitVec.toNat_ofNat, hp, Nat.mod_eq_of_lt ha, Nat.mod_eq_of_lt hb]
  exact wraps_u8 _ (Int.natCast_nonneg _) (by exact_mod_cast h)
theorem xor_low (a c : Nat) (hc : c < 256) : a ^^^ c = a / 256 * 256 + ((a % 256) ^^^ c) := by
  have h1 : (a ^^^ c) / 2 ^ 8 = a / 2 ^ 8 ^^^ c / 2 ^ 8 := Nat.xor_div_two_pow
  have h2 : (a ^^^ c) % 2 ^ 8 = (a % 2 ^ 8) ^^^ (c % 2 ^ 8) := Nat.xor_mod_two_pow
  have h3 : c / 2 ^ 8 = 0 := Nat.div_eq_of_lt hc
  have h4 : c % 2 ^ 8 = c := Nat.mod_eq_of_lt hc
  rw [h3, Nat.xor_zero] at h1
  rw [h4] at h2
  have := Nat.div_add_mod (a ^^^ c) (2 ^ 8)
  rw [h1, h2] at this
  rw [← this]
  have e : (2 : Nat) ^ 8 = 256 := rfl
  rw [e, Nat.mul_comm]
theorem xor_all (x : Int) (h : U32 x) : Go.bits .xor .u32 x 4294967295 = 4294967295 - x := by
  obtain ⟨n, rfl⟩ := Int.eq_ofNat_of_zero_le h.1
  have hn : n < 4294967296 := by have := h.2; omega
  have e : ((4294967295 : Nat) : Int) = 4294967295 := rfl
  rw [← e, xor_nat n 4294967295 hn (by decide)]
  have h1 : (BitVec.ofNat 32 n ^^^ BitVec.allOnes 32).toNat = n ^^^ 4294967295 := by
    rw [BitVec.toNat_xor, BitVec.toNat_ofNat, BitVec.toNat_allOnes, Nat.mod_eq_of_lt (by omega)]
  rw [BitVec.xor_allOnes, BitVec.toNat_not, BitVec.toNat_ofNat, Nat.mod_eq_of_lt (by omega)] at h1
  rw [← h1]
  omega

section
variable {P : Program} {tm : TM} {H : Heap} {o : Oper} {t t' : TypeId} {p q : Operand} {i : TI}
theorem ok_shr (ho : o.op = .binOp .shr t p q t') (hi : tyI P t = some i) {k k' : IntKind} {a m : Int} (n : Nat) (hp : ev tm p = .v (.int k a)) (hq : ev tm q = .v (.int k' n)) (hn : n ≤ k.bits) (hm : (2 : Int) ^ n = m) : OpOk P tm H o (.v (.int k (a / m))) H :=
  ok_binOp ho hi (by
    rw [hp, hq]
    have h1 : ¬ ((n : Int) < 0) := by omega
    have h2 : min (n : Int).toNat k.bits = n := by simp; omega
    simp only [binA, binV, h1, if_false, Option.map_some, h2, hm]
    rw [Int.fdiv_eq_ediv_of_nonneg _ (by rw [← hm]; exact Int.pow_nonneg (by decide))])
theorem ok_shl (ho : o.op = .binOp .shl t p q t') (hi : tyI P t = some i) {k k' : IntKind} {a m : Int} (n : Nat) (hp : ev tm p = .v (.int k a)) (hq : ev tm q = .v (.int k' n)) (hn : n ≤ k.bits) (hm : (2 : Int) ^ n = m) : OpOk P tm H o (.v (.int k (k.wrap (a * m)))) H :=
  ok_binOp ho hi (by
    rw [hp, hq]
    have h1 : ¬ ((n : Int) < 0) := by omega
    have h2 : min (n : Int).toNat k.bits = n := by simp; omega
    simp only [binA, binV, h1, if_false, Option.map_some, h2, hm])
theorem ok_bits (op : BinOp) (ho : o.op = .binOp op t p q t') (hi : tyI P t = some i) {k : IntKind} {a b : Int} (hp : ev tm p = .v (.int k a)) (hq : ev tm q = .v (.int k b)) (hop : op = .and ∨ op = .or ∨ op = .xor) : OpOk P tm H o (.v (.int k (Go.bits op k a b))) H :=
  ok_binOp ho hi (by
    rw [hp, hq]
    rcases hop with rfl | rfl | rfl <;> simp [binA, binV, binI, Go.bits])
end
section
variable {P : Program} {tm : TM} {H : Heap}
theorem ok_len' {o : Oper} {p : Operand} {ts : Array TypeId} (ho : o.op = .call ⟨.builtin .len, #[p], ts⟩) {t : TypeId} (ht0 : ts[0]? = some t) {i : TI} (hi : tyI P t = some i) {n m : Nat} (hn : lenA H i.desc (ev tm p) = some n) (hm : n = m) : OpOk P tm H o (.v (.int .i64 m)) H := hm ▸ ok_len ho ht0 hi hn
end
/-- A number's last digits, one more at a time. -/
theorem emod_step (v A : Int) (hA : 0 < A) : v % (A * 256) = v / A % 256 * A + v % A := by
  have h1 := Int.mul_ediv_add_emod v A
  have h2 := Int.mul_ediv_add_emod (v / A) 256
  have h3 := Int.emod_nonneg (v / A) (show (256 : Int) ≠ 0 by decide)
  have h4 := Int.emod_lt_of_pos (v / A) (show (0 : Int) < 256 by decide)
  have h5 := Int.emod_nonneg v (Int.ne_of_gt hA)
  have h6 := Int.emod_lt_of_pos v hA
  have h7 : v / A % 256 * A ≤ 255 * A := Int.mul_le_mul_of_nonneg_right (by omega) (by omega)
  have h8 : 0 ≤ v / A % 256 * A := Int.mul_nonneg h3 (by omega)
  refine ((Int.ediv_emod_unique (a := v) (b := A * 256) (q := v / A / 256) (r := v / A % 256 * A + v % A) (by omega)).2 ⟨?_, by omega, by omega⟩).2
  have h9 : A * 256 * (v / A / 256) = A * (256 * (v / A / 256)) := Int.mul_assoc _ _ _
  have h10 : A * (v / A) = A * (256 * (v / A / 256)) + A * (v / A % 256) := by rw [← Int.mul_add, h2]
  have h11 : v / A % 256 * A = A * (v / A % 256) := Int.mul_comm _ _
  omega
end Go.AM
namespace Go.Proofs.YtjklgbafnfoolaaGreat.AmF
open Go Go.AM
set_option maxRecDepth 100000
set_option linter.unusedSimpArgs false
set_option linter.unusedVariables false
attribute [local simp] tkeep tget tput ev cav argsTM pickA normT putA splice AV.cells ints_length rowsA_length
theorem _root_.Go.AM.CSpec.res {P : Program} {f : FuncId} {hin : List Blk} {args : List AV} {hout : Heap} {x x' : AV} (h : CSpec P f hin args hout x) (he : Ent hout x x') : CSpec P f hin args hout x' :=
  ⟨h.1, fun g vals hH hg hr => (h.2 g vals hH hg hr).mono fun e w' ⟨v, g', h1, h2, h3, h4, h5, h6⟩ => ⟨v, g', h1, h2, h3, h4, he g' v h3 h4 h5, h6⟩⟩
theorem _root_.Go.AM.CSpec.frz' {P : Program} {f : FuncId} {args : List AV} {l r : List Int} {k : IntKind} (h : CSpec P f [] args [some ⟨1, true, ints k l⟩] (.sl 0 0 l.length)) (hr : l = r) : CSpec P f [] args [] (.fz 1 (ints k r)) := hr ▸ h.frz (by simp) (renL_ints _ _ _)
/-- A call to which rows are lent, and that makes a row of whole numbers. -/
theorem _root_.Go.AM.CSpec.lendI {P : Program} {H : Heap} {f : FuncId} {args args' args'' : List AV} {k : IntKind} {r : List Int} (h : CSpec P f [] args' [some ⟨1, true, ints k r⟩] (.sl 0 0 r.length)) (hv : EntL (frzH H) args args'') (ha : renL (pos []) args'' = args') : CallOk P f H args (.sl H.length 0 r.length) (H ++ [some ⟨1, true, ints k r⟩]) :=
  h.lendR (R := [⟨1, true, ints k r⟩]) (R' := [⟨1, true, ints k r⟩]) hv ha (by simp [Blk.ren, renL_ints]) rfl rfl (by simp [nofzL_ints])
theorem IB_ren (ρ : Nat → Option Nat) (k : IntKind) (l : List Int) : Blk.ren ρ ⟨1, true, ints k l⟩ = ⟨1, true, ints k l⟩ := by simp [Blk.ren, renL_ints]
/-- Two rows of bytes as texts. -/
def strEq (a b : List Int) : Bool := (strOf (a.map fun n => UInt8.ofNat n.toNat)).toList == (strOf (b.map fun n => UInt8.ofNat n.toNat)).toList
theorem strEq_refl (a : List Int) : strEq a a = true := by simp [strEq]

/-- A row that an operation makes, frozen as it comes. -/
theorem _root_.Go.AM.OpOk.frz {P : Program} {tm : TM} {H H' : Heap} {o : Oper} {id n es : Nat} {own : Bool} {l : List AV} (h : OpOk P tm H o (.sl id 0 n) H') (hg : hget H' id = some ⟨es, own, l⟩) (hl : l.length = n) : OpOk P tm H o (.fz es l) (H'.set id (some ⟨es, false, l⟩)) := by
  intro g a hH hgo ht
  obtain ⟨v, g1, h1, h2, h3, h4, h5⟩ := h g a hH hgo ht
  subst h2
  have he : TEnt g1.H.length [(0, AV.sl id 0 n)] g1.H [(0, .fz es l)] (g1.H.set id (some ⟨es, false, l⟩)) :=
    (TEnt.freeze id hg).trans ((TEnt.put1 0 (Ent.sl0 (b := ⟨es, false, l⟩) (by rw [hget_set, if_pos ⟨rfl, hget_lt hg⟩]) rfl hl)).trans (TEnt.to ⟨rfl, trivial⟩))
  obtain ⟨g2, k1, k2, k3, k4, k5, k6⟩ := he g1 (fun _ => v) rfl (Nat.le_refl _) h3 (fun t => by
    simp only [tget]
    split
    · exact h4
    · simp [Rel])
  have k4' := k4 0
  simp only [tget, if_true] at k4'
  have hsub : Sub g1 g2 := ⟨⟨k5.z, fun b _ => by rw [k1], fun i j hi hj => by cases hj; exact ⟨Nat.lt_of_lt_of_le hi k6.len, fun k' hk' => k6.id i k' hi hk'⟩⟩, k5⟩
  refine ⟨v, g2, ?_, k2, k3, k4', h5.trans hsub⟩
  rw [k1]; exact h1
theorem _root_.Go.AM.Ent.tup {H : Heap} {l l' : List AV} (h : EntL H l l') : Ent H (.tup l) (.tup l') := by
  intro g y hH hg hx
  simp only [Rel] at hx ⊢
  obtain ⟨cs, rfl, h2⟩ := hx
  exact ⟨cs, rfl, h g _ hH hg h2⟩
end Go.Proofs.YtjklgbafnfoolaaGreat.AmF
namespace Go.Proofs.YtjklgbafnfoolaaGreat.AmF
open Go Go.AM
set_option maxRecDepth 100000
set_option linter.unusedSimpArgs false
set_option linter.unusedVariables false
attribute [local simp] tkeep tget tput ev cav argsTM pickA normT putA splice AV.cells ints_length rowsA_length
/-- What an operation leaves behind, in other words. -/
theorem _root_.Go.AM.OpOk.tent {P : Program} {tm : TM} {H H' H'' : Heap} {o : Oper} {x x' : AV} (h : OpOk P tm H o x H') (he : TEnt H'.length [(0, x)] H' [(0, x')] H'') : OpOk P tm H o x' H'' := by
  intro g a hH hgo ht
  obtain ⟨v, g1, h1, h2, h3, h4, h5⟩ := h g a hH hgo ht
  subst h2
  obtain ⟨g2, k1, k2, k3, k4, k5, k6⟩ := he g1 (fun _ => v) rfl (Nat.le_refl _) h3 (fun t => by
    simp only [tget]
    split
    · exact h4
    · simp [Rel])
  have k4' := k4 0
  simp only [tget, if_true] at k4'
  have hsub : Sub g1 g2 := ⟨⟨k5.z, fun b _ => by rw [k1], fun i j hi hj => by cases hj; exact ⟨Nat.lt_of_lt_of_le hi k6.len, fun k' hk' => k6.id i k' hi hk'⟩⟩, k5⟩
  refine ⟨v, g2, ?_, k2, k3, k4', h5.trans hsub⟩
  rw [k1]; exact h1
/-- A nil row as an empty block of its own. -/
theorem _root_.Go.AM.OpOk.empty {P : Program} {tm : TM} {H H' : Heap} {o : Oper} (es : Nat) (he : 0 < es) (h : OpOk P tm H o (.v (.slice none 0 0)) H') : OpOk P tm H o (.sl H'.length 0 0) (H' ++ [some ⟨es, true, []⟩]) :=
  h.tent ((TEnt.empty 0 es he (.inr rfl)).trans (TEnt.to ⟨rfl, trivial⟩))
section
variable {P : Program} {tm : TM} {H : Heap} {o : Oper} {p q : Operand} {t t2 e : TypeId} {α : Type}
/-- Onto a row of a block, elements that are told by a function. -/
theorem ok_append_map (C : α → AV) (ho : o.op = .call ⟨.builtin .append, #[p, q], #[t, t2]⟩) {i j : TI} (hi : tyI P t = some i) (hd : i.desc = .slice e) (hj : tyI P e = some j) (hj0 : 0 < j.size) (hb0 : j.bytes ≠ 0) (hz : fits (cav j.zero) j.size = true)
    {i2 : TI} (hi2 : tyI P t2 = some i2) (hd2 : ∀ k, i2.desc ≠ .int k) {xs ys : List α} {es2 : Nat} {l2 : List AV} (hq : rowA H (ev tm q) = some (es2, l2)) (he2 : es2 = j.size) (hl2 : l2 = ys.map C) {id len : Nat} (hp : ev tm p = .sl id 0 len) {b : Blk} (hk : hget H id = some b) (hown : b.own = true) (hbe : b.es = j.size) (hbl : b.els = xs.map C) (hlen : len = xs.length)
    (hbound : (xs.length + ys.length) * j.bytes ≤ 140737488355328) : OpOk P tm H o (.sl H.length 0 (xs ++ ys).length) (H.set id none ++ [some ⟨j.size, true, (xs ++ ys).map C⟩]) := by
  subst hlen hl2 he2
  refine (ok_append_sl ho hi hd hj hj0 hb0 hz hi2 hd2 hq (.inl rfl) hp hk hown hbe (by rw [hbl, List.length_map, Nat.zero_add]) (by rw [List.length_map]; exact hbound)).eq ?_ ?_
  · rw [List.length_map, List.length_append]
  · rw [hbl, List.drop_zero, List.map_append]
theorem locA_map {F : α → List AV} {id k : Nat} {l : List α} {y : α} {b : Blk} (hb : hget H id = some b) (hbl : b.els = l.map fun a => .agg (F a)) (hy : l[k]? = some y) (hne : F y ≠ []) : locA H (.ref id k 0) = some (F y, 0) := by
  simp [locA, hb, hbl, hy, AV.cells, hne]
theorem ok_index_map {F : α → List AV} {x ix : Operand} (ho : o.op = .indexAddr t x ix) {i : TI} (hi : tyI P t = some i) (hd : i.desc = .slice e) {j : TI} (hj : tyI P e = some j) {l : List α} (hx : ev tm x = .fz j.size (l.map fun a => .agg (F a))) {kd : IntKind} {z : Int} (hz : ev tm ix = .v (.int kd z)) {k : Nat} (hk : z = k) {y : α} (hy : l[k]? = some y) (hne : F y ≠ []) : OpOk P tm H o (.fp (F y) 0) H := by
  subst hk
  obtain ⟨c, cs, hc⟩ : ∃ c cs, F y = c :: cs := by
    cases h : F y with
    | nil => exact absurd h hne
    | cons c cs => exact ⟨c, cs, rfl⟩
  rw [hc]
  exact ok_index_fz ho hi hd hj hx rfl hz (by omega) (y := .agg (F y)) (by simp [hy]) hc
end
end Go.Proofs.YtjklgbafnfoolaaGreat.AmF
namespace Go.Proofs.YtjklgbafnfoolaaGreat.AmF
open Go Go.AM
set_option maxRecDepth 100000
set_option linter.unusedSimpArgs false
set_option linter.unusedVariables false
attribute [local simp] tkeep tget tput ev cav argsTM pickA normT putA splice AV.cells ints_length rowsA_length
/-- A record. -/
structure Rc where
  kind : Int
  epoch : Int
  seq : Int
  zone : Int
  gen : Int
  slot : Int
  w : Int
  member : Int
  status : Int
  body : List Int
def Rc.l (x : Rc) : List Int := [x.kind, x.epoch, x.seq, x.zone, x.gen, x.slot, x.w, x.member, x.status]
def Rc.seven (x : Rc) : List Int := [x.epoch, x.seq, x.zone, x.gen, x.w, x.member, x.status]
def RcC (x : Rc) : List AV := [.int x.kind, .int x.epoch, .int x.seq, .int x.zone, .int x.gen, .int x.slot, .int x.w, .int x.member, .int x.status, .fz 1 (ints .u8 x.body)]
def RcB (x : Rc) : Blk := ⟨10, true, [.agg (RcC x)]⟩
theorem RcC_ren (ρ : Nat → Option Nat) (x : Rc) : renL ρ (RcC x) = RcC x := by simp [RcC, renL, AV.ren, renL_ints]
theorem RcB_ren (ρ : Nat → Option Nat) (x : Rc) : Blk.ren ρ (RcB x) = RcB x := by simp [RcB, Blk.ren, renL, AV.ren, RcC_ren]
abbrev Rc10 := Int × Int × Int × Int × Int × Int × Int × Int × Int × List Int
def rcOf (a : Rc10) : Rc := ⟨a.1, a.2.1, a.2.2.1, a.2.2.2.1, a.2.2.2.2.1, a.2.2.2.2.2.1, a.2.2.2.2.2.2.1, a.2.2.2.2.2.2.2.1, a.2.2.2.2.2.2.2.2.1, a.2.2.2.2.2.2.2.2.2⟩
end Go.Proofs.YtjklgbafnfoolaaGreat.AmF
