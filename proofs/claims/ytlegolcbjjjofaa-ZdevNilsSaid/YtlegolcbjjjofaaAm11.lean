/- The abstract machine: statements, in the order of the text and in whatever order. -/
import Derived.Test.YtlegolcbjjjofaaAm10
namespace Go.AM
variable {D : List Deferred} {P : Program} {n k : Nat} {tm : TM} {H : Heap} {Q : Post}

/-- One operation of a statement, a call too. -/
def StepOk (P : Program) (tm : TM) (H : Heap) (o : Oper) (x : AV) (H' : Heap) : Prop :=
  ∀ g a (next : Act → World → Prop) (Q : Exit → Act → World → Prop), g.H = H → GOk g → OpRel g tm a o → (∀ v g', g'.H = H' → GOk g' → Rel g' x v → Sub g g' → next (a.put o.dst v) g'.w) → o.wp P a g.w next Q
theorem OpOk.step {o : Oper} {x : AV} {H' : Heap} (h : OpOk P tm H o x H') : StepOk P tm H o x H' := by
  intro g a next Q hH hg ht hn
  obtain ⟨v, g', h1, h2, h3, h4, h5⟩ := h g a hH hg ht
  have := hn v g' h2 h3 h4 h5
  unfold Oper.wp
  rcases h1 with h1 | ⟨h1, rfl⟩
  · rw [h1, Oper.upon_value]; exact this
  · rw [h1, Oper.upon_skip]; exact this
theorem StepOk.congr {tm' : TM} {o : Oper} {x : AV} {H' : Heap} (h : StepOk P tm H o x H') (he : ∀ y, y ∈ o.op.operands → ev tm' y = ev tm y) : StepOk P tm' H o x H' :=
  fun g a next Q hH hg ht hn => h g a next Q hH hg (fun y hy => he y hy ▸ ht y hy) hn

def tput (tm : TM) (d : Option Tmp) (x : AV) : TM := match d with
  | none => tm
  | some d => (d, x) :: tm
def dOk (n : Nat) (d : Option Tmp) : Bool := match d with
  | none => true
  | some d => Nat.blt d n
theorem tget_tput (d : Option Tmp) (x : AV) (t : Nat) : tget (tput tm d x) t = if d = some t then x else tget tm t := by
  cases d with
  | none => simp [tput]
  | some d => simp [tput, tget]
theorem TmOk.mono {g g' : G} {a : Act} (h : Sub g g') (ht : TmOk D g tm a n) : TmOk D g' tm a n := ⟨ht.size, ht.defers, fun t => Rel.mono h.ren (ht.rel t)⟩
theorem TmOk.put {g : G} {a : Act} {d : Option Tmp} {x : AV} {v : Value} (ht : TmOk D g tm a n) (hx : Rel g x v) (hd : dOk n d = true) : TmOk D g (tput tm d x) (a.put d v) n := by
  cases d with
  | none => exact ht
  | some d =>
    have hd' : d < n := Nat.blt_eq.mp hd
    refine ⟨by simp [Act.put, ht.size], ht.defers, fun t => ?_⟩
    rw [tget_tput]
    by_cases h : d = t
    · subst h
      simp only [if_true]
      have : tmpsOf (a.put (some d) v) d = v := by
        simp [tmpsOf, Act.put, Array.getD_eq_getD_getElem?, ht.size, hd']
      rw [this]; exact hx
    · have h' : ¬ (some d = some t) := fun e => h (Option.some.inj e)
      rw [if_neg h']
      have : tmpsOf (a.put (some d) v) t = tmpsOf a t := by
        simp [tmpsOf, Act.put, Array.getD_eq_getD_getElem?, Array.getElem?_setIfInBounds_ne h]
      rw [this]; exact ht.rel t

/-- Is an operation under a guard wanted? -/
def wantA (ops : Array Oper) (tm : TM) (o : Oper) : Option Bool := match o.guard with
  | none => some true
  | some (j, want) => match (ops[j]?).bind (·.dst) with
    | none => none
    | some d => match tget tm d with
      | .v (.bool b) => some (b == want)
      | .v (.tuple _) => some false
      | _ => none
theorem wantA_sound {ops : Array Oper} {o : Oper} {b : Bool} {g : G} {a : Act} (ht : TmRel g tm (tmpsOf a)) (h : wantA ops tm o = some b) : Region.wanted o (yielded ops a.tmps) = b := by
  unfold wantA at h
  unfold Region.wanted
  split at h
  · rename_i hg; simp at h; simp [hg, h]
  · rename_i j want hg
    simp only [hg]
    split at h
    · cases h
    · rename_i d hd
      have hr := ht d
      simp only [yielded, hd, Option.bind_some]
      split at h
      · rename_i c hc
        rw [hc] at hr
        simp only [Rel, tmpsOf] at hr
        have hs : a.tmps[d]? = some (.bool c) := by
          rw [Array.getD_eq_getD_getElem?] at hr
          cases hh : a.tmps[d]? with
          | none => rw [hh] at hr; simp [undef] at hr
          | some u => rw [hh] at hr; simpa using hr
        simp at h
        simp only [hs]
        subst h
        cases c <;> cases want <;> rfl
      · rename_i cs hc
        rw [hc] at hr
        simp only [Rel, tmpsOf] at hr
        simp at h
        subst h
        rw [Array.getD_eq_getD_getElem?] at hr
        cases hh : a.tmps[d]? with
        | none => rfl
        | some u => rw [hh] at hr; simp at hr; subst hr; rfl
      · cases h

def runOps (P : Program) (n : Nat) (ops : Array Oper) : List Oper → TM → Heap → (TM → Heap → Prop) → Prop
  | [], tm, H, K => K tm H
  | o :: rest, tm, H, K => dOk n o.dst = true ∧ ((wantA ops tm o = some true ∧ ∃ x H', StepOk P tm H o x H' ∧ runOps P n ops rest (tput tm o.dst x) H' K) ∨ (wantA ops tm o = some false ∧ runOps P n ops rest (tput tm o.dst (.v undef)) H K))
theorem ro {ops : Array Oper} {o : Oper} {rest : List Oper} {K : TM → Heap → Prop} {x : AV} {H' : Heap} (hd : dOk n o.dst = true) (hw : wantA ops tm o = some true) (hs : StepOk P tm H o x H') (k : runOps P n ops rest (tput tm o.dst x) H' K) : runOps P n ops (o :: rest) tm H K :=
  ⟨hd, .inl ⟨hw, x, H', hs, k⟩⟩
theorem ro_skip {ops : Array Oper} {o : Oper} {rest : List Oper} {K : TM → Heap → Prop} (hd : dOk n o.dst = true) (hw : wantA ops tm o = some false) (k : runOps P n ops rest (tput tm o.dst (.v undef)) H K) : runOps P n ops (o :: rest) tm H K :=
  ⟨hd, .inr ⟨hw, k⟩⟩
theorem ro_nil {ops : Array Oper} {K : TM → Heap → Prop} (k : K tm H) : runOps P n ops [] tm H K := k

theorem runOps_sound {ops : Array Oper} {K : TM → Heap → Prop} {Qc : Exit → Act → World → Prop} (g0 : G) (hk : ∀ tm g a, K tm g.H → GOk g → TmOk D g tm a n → Ext g0 g → Pin k g0 g → Qc .normal a g.w) :
    ∀ (l : List Oper) (i : Nat), ops.toList.drop i = l → ∀ (tm : TM) (H : Heap), runOps P n ops l tm H K → ∀ g a, g.H = H → GOk g → TmOk D g tm a n → Ext g0 g → Pin k g0 g → wpOps P ops Qc (List.range' i l.length) a g.w
  | [], i, _, tm, H, h, g, a, hH, hg, ht, hx, hp => hk tm g a (hH ▸ h) hg ht hx hp
  | o :: rest, i, hl, tm, H, h, g, a, hH, hg, ht, hx, hp => by
    have hio : ops[i]? = some o := by
      have : (ops.toList.drop i)[0]? = some o := by rw [hl]; rfl
      simpa using this
    have hrest : ops.toList.drop (i + 1) = rest := by
      have : (ops.toList.drop i).drop 1 = rest := by rw [hl]; rfl
      rw [List.drop_drop] at this
      exact this
    simp only [List.length_cons, List.range'_succ, wpOps, hio]
    obtain ⟨hd, h⟩ := h
    rcases h with ⟨hw, x, H', hs, h⟩ | ⟨hw, h⟩
    · have hw' := wantA_sound ht.rel hw
      rw [if_pos hw']
      refine .inl (hs g a _ _ hH hg ht.rel.op fun v g' hH' hg' hr hsub => ?_)
      exact runOps_sound g0 hk rest (i + 1) hrest _ H' h g' _ hH' hg' ((ht.mono hsub).put hr hd) (hx.trans hsub.ext) (hp.trans (hsub.pin hp.len))
    · have hw' := wantA_sound ht.rel hw
      rw [if_neg (by rw [hw']; decide)]
      exact runOps_sound g0 hk rest (i + 1) hrest _ H h g _ hH hg (ht.put (by simp [Rel]) hd) hx hp
theorem T.region {id : Nat} {ops : Array Oper} (h : runOps P n ops ops.toList tm H (Q .normal)) : T D P n k (.region id ops false) tm H Q := by
  intro g a hH hk hg ht
  refine wp_region ?_
  have := runOps_sound (P := P) (k := k) (Qc := Q.up D n k g) g (fun tm' g' a' h1 h2 h3 h4 h5 => ⟨tm', g', rfl, h1, h2, h3, h4, h5⟩) ops.toList 0 (by simp) tm H h g a hH hg ht (.refl g) (.refl (hH ▸ hk))
  simpa [List.range_eq_range'] using this

-- whatever order
def TmEq (tm tm' : TM) : Prop := ∀ t, tget tm t = tget tm' t
theorem TmEq.ev {tm tm' : TM} (h : TmEq tm tm') (x : Operand) : ev tm x = ev tm' x := by
  cases x <;> simp [AM.ev, h _]
theorem TmEq.put {tm tm' : TM} (h : TmEq tm tm') (d : Option Tmp) (x : AV) : TmEq (tput tm d x) (tput tm' d x) := fun t => by
  rw [tget_tput, tget_tput, h t]
theorem TmEq.comm (tm : TM) {d e : Option Tmp} (x y : AV) (h : ∀ t, d = some t → e ≠ some t) : TmEq (tput (tput tm d x) e y) (tput (tput tm e y) d x) := fun t => by
  simp only [tget_tput]
  by_cases h1 : d = some t
  · rw [if_neg (h t h1), if_pos h1]
    simp [h1]
  · simp [h1]
theorem TmEq.want {tm tm' : TM} (h : TmEq tm tm') (ops : Array Oper) (o : Oper) : wantA ops tm o = wantA ops tm' o := by
  unfold wantA
  cases o.guard with
  | none => rfl
  | some p =>
    obtain ⟨j, want⟩ := p
    simp only
    cases (ops[j]?).bind (·.dst) with
    | none => rfl
    | some d => simp only [h d]
theorem TmOk.eq {tm' : TM} {g : G} {a : Act} (h : TmEq tm tm') (ht : TmOk D g tm a n) : TmOk D g tm' a n := ⟨ht.size, ht.defers, fun t => h t ▸ ht.rel t⟩

def stepA (P : Program) (n : Nat) (ops : Array Oper) (i : Nat) (tm : TM) (H : Heap) (C : TM → Heap → Prop) : Prop :=
  ∃ o, ops[i]? = some o ∧ dOk n o.dst = true ∧ ((wantA ops tm o = some true ∧ ∃ x H', StepOk P tm H o x H' ∧ C (tput tm o.dst x) H') ∨ (wantA ops tm o = some false ∧ C (tput tm o.dst (.v undef)) H))
theorem stepA.mono {ops : Array Oper} {i : Nat} {C C' : TM → Heap → Prop} (h : stepA P n ops i tm H C) (hc : ∀ tm H, C tm H → C' tm H) : stepA P n ops i tm H C' := by
  obtain ⟨o, h1, h2, h3⟩ := h
  refine ⟨o, h1, h2, h3.imp ?_ ?_⟩
  · rintro ⟨hw, x, H', hs, h⟩; exact ⟨hw, x, H', hs, hc _ _ h⟩
  · rintro ⟨hw, h⟩; exact ⟨hw, hc _ _ h⟩
def anyJ (P : Program) (n : Nat) (ops : Array Oper) (K : TM → Heap → Prop) (S : Nat → Heap → Prop) : Nat → Array Bool → TM → Heap → Prop
  | 0, listed, tm, H => Region.ready .any ops listed = [] ∧ K tm H
  | f + 1, listed, tm, H => (Region.ready .any ops listed = [] → K tm H) ∧ ∀ i ∈ Region.ready .any ops listed, stepA P n ops i tm H (fun tm' H' => S i H' ∧ anyJ P n ops K S f (listed.setIfInBounds i true) tm' H')
theorem anyJ_sound {ops : Array Oper} {K : TM → Heap → Prop} {S : Nat → Heap → Prop} {Qc : Exit → Act → World → Prop} (g0 : G) (hk : ∀ tm g a, K tm g.H → GOk g → TmOk D g tm a n → Ext g0 g → Pin k g0 g → Qc .normal a g.w) :
    ∀ (f : Nat) (listed : Array Bool) (tm : TM) (H : Heap), anyJ P n ops K S f listed tm H → ∀ g a, g.H = H → GOk g → TmOk D g tm a n → Ext g0 g → Pin k g0 g → wpAny P .any ops Qc f listed a g.w
  | 0, listed, tm, H, h, g, a, hH, hg, ht, hx, hp => ⟨h.1, hk tm g a (hH ▸ h.2) hg ht hx hp⟩
  | f + 1, listed, tm, H, h, g, a, hH, hg, ht, hx, hp => by
    refine ⟨fun hr => hk tm g a (hH ▸ h.1 hr) hg ht hx hp, fun i hi => ?_⟩
    obtain ⟨o, ho, hd, h⟩ := h.2 i hi
    unfold wpOp
    simp only [ho]
    rcases h with ⟨hw, x, H', hs, _, h⟩ | ⟨hw, _, h⟩
    · have hw' := wantA_sound ht.rel hw
      rw [if_pos hw']
      refine .inl (hs g a _ _ hH hg ht.rel.op fun v g' hH' hg' hr hsub => ?_)
      exact anyJ_sound g0 hk f _ _ H' h g' _ hH' hg' ((ht.mono hsub).put hr hd) (hx.trans hsub.ext) (hp.trans (hsub.pin hp.len))
    · have hw' := wantA_sound ht.rel hw
      rw [if_neg (by rw [hw']; decide)]
      exact anyJ_sound g0 hk f _ _ H h g _ hH hg (ht.put (by simp [Rel]) hd) hx hp
/-- The same but for the order in which the temporaries are written down. -/
def upTo (K : TM → Heap → Prop) : TM → Heap → Prop := fun tm H => ∃ tm', TmEq tm tm' ∧ K tm' H
theorem T.draw (hm : P.follows .mixedOrders = true) {id : Nat} {ops : Array Oper} (S : Nat → Heap → Prop) (h : anyJ P n ops (upTo (Q .normal)) S ops.size (Array.replicate ops.size false) tm H) : T D P n k (.region id ops true) tm H Q := by
  intro g a hH hk hg ht
  refine wp_region_any hm ?_
  obtain ⟨hgw, hsw⟩ := reworld (w' := { g.w with drawn := g.w.drawn + 1 }) (g := g) rfl ⟨rfl, rfl, rfl⟩ hg
  exact anyJ_sound (P := P) (k := k) (Qc := Q.up D n k g) g (fun tm' g' a' h1 h2 h3 h4 h5 => by
    obtain ⟨tm'', e, h1⟩ := h1
    exact ⟨tm'', g', rfl, h1, h2, h3.eq e, h4, h5⟩) _ _ tm H h { g with w := { g.w with drawn := g.w.drawn + 1 } } a hH hgw (ht.mono hsw) hsw.ext (hsw.pin (hH ▸ hk))

theorem anyJ.eq {ops : Array Oper} {K : TM → Heap → Prop} {S : Nat → Heap → Prop} : ∀ (f : Nat) (listed : Array Bool) (tm tm' : TM) (H : Heap), TmEq tm' tm → anyJ P n ops (upTo K) S f listed tm H → anyJ P n ops (upTo K) S f listed tm' H
  | 0, listed, tm, tm', H, he, h => ⟨h.1, by obtain ⟨t, e, h⟩ := h.2; exact ⟨t, fun x => (he x).trans (e x), h⟩⟩
  | f + 1, listed, tm, tm', H, he, h => by
    refine ⟨fun hr => by obtain ⟨t, e, h⟩ := h.1 hr; exact ⟨t, fun x => (he x).trans (e x), h⟩, fun i hi => ?_⟩
    obtain ⟨o, ho, hd, h⟩ := h.2 i hi
    refine ⟨o, ho, hd, h.imp ?_ ?_⟩
    · rintro ⟨hw, x, H', hs, hS, h⟩
      exact ⟨by rw [he.want]; exact hw, x, H', hs.congr (fun y _ => he.ev y), hS, anyJ.eq f _ _ _ _ (he.put _ _) h⟩
    · rintro ⟨hw, hS, h⟩
      exact ⟨by rw [he.want]; exact hw, hS, anyJ.eq f _ _ _ _ (he.put _ _) h⟩

/-- What has come up is closed under 'waits for'. -/
def closedB (ops : Array Oper) (listed : Array Bool) : Bool := (List.range ops.size).all fun j => !listed.getD j false || ((ops[j]?).map (·.after.all fun e => !Region.binds .any e || listed.getD e.on false)).getD true
def Closed (ops : Array Oper) (listed : Array Bool) : Prop := ∀ j o, ops[j]? = some o → listed.getD j false = true → ∀ e ∈ o.after, Region.binds .any e = true → listed.getD e.on false = true
theorem closedB_spec {ops : Array Oper} {listed : Array Bool} (h : closedB ops listed = true) : Closed ops listed := by
  intro j o ho hj e he hb
  have hlt := (Array.getElem?_eq_some_iff.1 ho).1
  have := List.all_eq_true.1 h j (by simpa using hlt)
  simp only [ho, Option.map_some, Option.getD_some, hj, Bool.not_true, Bool.false_or] at this
  have := (Array.all_eq_true_iff_forall_mem.1 this) e he
  simpa [hb] using this
theorem Closed.step {ops : Array Oper} {listed : Array Bool} {i : Nat} (h : Closed ops listed) (hi : i ∈ Region.ready .any ops listed) : Closed ops (listed.setIfInBounds i true) := by
  intro j o ho hj e he hb
  by_cases hji : i = j
  · subst hji
    obtain ⟨_, o', ho', hall⟩ := mem_ready.1 hi
    rw [ho] at ho'
    cases ho'
    exact getD_set_true (hall e he hb)
  · rw [getD_set_ne false hji] at hj
    exact getD_set_true (h j o ho hj e he hb)
def preds (ops : Array Oper) : Nat → Nat → List Nat
  | 0, _ => []
  | f + 1, j => match ops[j]? with
    | none => []
    | some o => let d := (o.after.toList.filter (Region.binds .any)).map (·.on); d ++ d.flatMap (preds ops f)
theorem preds_listed {ops : Array Oper} {listed : Array Bool} (hc : Closed ops listed) : ∀ (f j i : Nat), i ∈ preds ops f j → (∀ o, ops[j]? = some o → ∀ e ∈ o.after, Region.binds .any e = true → listed.getD e.on false = true) → listed.getD i false = true
  | 0, _, _, h, _ => by simp [preds] at h
  | f + 1, j, i, h, hj => by
    simp only [preds] at h
    cases ho : ops[j]? with
    | none => rw [ho] at h; simp at h
    | some o =>
      rw [ho] at h
      simp only [List.mem_append, List.mem_map, List.mem_filter, List.mem_flatMap] at h
      rcases h with ⟨e, ⟨he, hb⟩, rfl⟩ | ⟨m, ⟨e, ⟨he, hb⟩, rfl⟩, h⟩
      · exact hj o ho e (by simpa using he) hb
      · have hl := hj o ho e (by simpa using he) hb
        exact preds_listed hc f e.on i h (fun o' ho' => hc e.on o' ho' hl)

/-- Each block is as it was; there may be more. -/
def HeldL : Heap → Heap → Prop
  | [], _ => True
  | none :: H, [] => HeldL H []
  | none :: H, _ :: H' => HeldL H H'
  | some _ :: _, [] => False
  | some b :: H, c :: H' => c = some b ∧ HeldL H H'
theorem HeldL.get : ∀ {H H' : Heap}, HeldL H H' → ∀ {i : Nat} {b : Blk}, hget H i = some b → hget H' i = some b
  | [], _, _, i, b, h => by simp [hget] at h
  | none :: H, [], hh, i, b, h => by
    cases i with
    | zero => simp [hget] at h
    | succ i =>
      have := HeldL.get (H := H) (H' := []) (by simpa [HeldL] using hh) (i := i) (b := b) (by simpa [hget] using h)
      simp [hget] at this
  | none :: H, c :: H', hh, i, b, h => by
    cases i with
    | zero => simp [hget] at h
    | succ i =>
      have := HeldL.get (H := H) (H' := H') (by simpa [HeldL] using hh) (i := i) (b := b) (by simpa [hget] using h)
      simpa [hget] using this
  | some _ :: _, [], hh, i, b, h => by simp [HeldL] at hh
  | some b' :: H, c :: H', hh, i, b, h => by
    simp only [HeldL] at hh
    obtain ⟨rfl, hh⟩ := hh
    cases i with
    | zero => simpa [hget] using h
    | succ i =>
      have := HeldL.get hh (i := i) (b := b) (by simpa [hget] using h)
      simpa [hget] using this
theorem HeldL.refl : ∀ H : Heap, HeldL H H
  | [] => trivial
  | none :: H => by simp only [HeldL]; exact HeldL.refl H
  | some b :: H => ⟨rfl, HeldL.refl H⟩
theorem HeldL.append : ∀ (H R : Heap), HeldL H (H ++ R)
  | [], _ => trivial
  | none :: H, R => by simp only [List.cons_append, HeldL]; exact HeldL.append H R
  | some b :: H, R => ⟨rfl, HeldL.append H R⟩
theorem HeldL.none_all : ∀ {H : Heap}, HeldL H [] → ∀ R : Heap, HeldL H R
  | [], _, _ => trivial
  | none :: H, h, [] => h
  | none :: H, h, _ :: R => by simp only [HeldL] at h ⊢; exact HeldL.none_all h R
  | some _ :: _, h, _ => by simp [HeldL] at h
theorem HeldL.trans_append {H H' R : Heap} (h : HeldL H H') : HeldL H (H' ++ R) := by
  induction H generalizing H' with
  | nil => trivial
  | cons b H ih =>
    cases H' with
    | nil =>
      cases b with
      | none =>
        simp only [HeldL] at h
        cases R with
        | nil => simpa [HeldL] using h
        | cons c R =>
          simp only [List.nil_append, HeldL]
          exact HeldL.none_all h R
      | some b => simp [HeldL] at h
    | cons c H' =>
      cases b with
      | none => simp only [List.cons_append, HeldL] at h ⊢; exact ih h
      | some b => simp only [List.cons_append, HeldL] at h ⊢; exact ⟨h.1, ih h.2⟩
theorem locA_held {H H' : Heap} (h : HeldL H H') {x : AV} {r : List AV × Nat} (hx : locA H x = some r) : locA H' x = some r := by
  cases x <;> simp only [locA, reduceCtorEq] at hx ⊢
  case fp l f => exact hx
  case ref id i f =>
    obtain ⟨k, hk, hx⟩ := Option.bind_eq_some_iff.1 hx
    rw [h.get hk]
    exact hx
theorem rowA_held {H H' : Heap} (h : HeldL H H') {x : AV} {r : Nat × List AV} (hx : rowA H x = some r) : rowA H' x = some r := by
  unfold rowA at hx ⊢
  split at hx
  · exact hx
  · rename_i id off len
    obtain ⟨k, hk, hx⟩ := Option.bind_eq_some_iff.1 hx
    simp only [h.get hk, Option.bind_some]
    exact hx
  · exact hx
  · exact hx
  · cases hx
theorem elemA_held {H H' : Heap} (h : HeldL H H') {d : TypeDesc} {x : AV} {sz z : Nat} {r : AV} (hx : elemA H d x sz z = some r) : elemA H' d x sz z = some r := by
  unfold elemA at hx ⊢
  split at hx
  · exact hx
  · rename_i e id off len
    obtain ⟨k, hk, hx⟩ := Option.bind_eq_some_iff.1 hx
    simp only [h.get hk, Option.bind_some]
    exact hx
  · exact hx
  · cases hx
theorem sliceA_held {H H' : Heap} (h : HeldL H H') {d : TypeDesc} {x : AV} {sz : Nat} {lo hi mx : Option Int} {r : AV} (hx : sliceA H d sz x lo hi mx = some r) : sliceA H' d sz x lo hi mx = some r := by
  unfold sliceA at hx ⊢
  cases mx with
  | some m => exact hx
  | none =>
    simp only at hx ⊢
    split at hx <;> try exact hx
    rename_i e id off len
    obtain ⟨k, hk, hx⟩ := Option.bind_eq_some_iff.1 hx
    simp only [h.get hk, Option.bind_some]
    exact hx
/-- Behind operation j what is read is as it was, unless all that reads has come up. -/
def SH (late : List Nat) (R : Heap → Prop) : Nat → Heap → Prop := fun j H => late.contains j = true ∨ R H
def takeOk (n : Nat) (ops : Array Oper) (listed : Array Bool) (late : List Nat) (i : Nat) : Bool :=
  Region.free .any ops listed i && (Region.ready .any ops listed).contains i && closedB ops listed && late.all (fun j => (preds ops ops.size j).contains i || j == i) && (match ops[i]? with | some o => dOk n o.dst | none => false)
theorem any_first {ops : Array Oper} {K : TM → Heap → Prop} {S : Nat → Heap → Prop} {i : Nat} {oi : Oper} {x : AV} {R : Heap → Prop} (hi : ops[i]? = some oi) (hdi : dOk n oi.dst = true) (hRS : ∀ H', R H' → S i H') :
    ∀ (f : Nat) (listed : Array Bool) (tm : TM) (H : Heap), Closed ops listed → (∀ j H', listed.getD j true = false → i ∉ preds ops ops.size j → j ≠ i → S j H' → R H') →
      (∀ j oj, ops[j]? = some oj → j ≠ i → listed.getD j true = false → (∀ e ∈ oj.after, Region.binds .any e = true → e.on ≠ i) → oi.apart ops oj = true) →
      i ∈ Region.ready .any ops listed →
      ((wantA ops tm oi = some true ∧ ∀ H', R H' → StepOk P tm H' oi x H') ∨ (wantA ops tm oi = some false ∧ x = .v undef)) → R H →
      anyJ P n ops (upTo K) S f (listed.setIfInBounds i true) (tput tm oi.dst x) H → anyJ P n ops (upTo K) S (f + 1) listed tm H := by
  have here : ∀ (f : Nat) (listed : Array Bool) (tm : TM) (H : Heap), ((wantA ops tm oi = some true ∧ ∀ H', R H' → StepOk P tm H' oi x H') ∨ (wantA ops tm oi = some false ∧ x = .v undef)) → R H → anyJ P n ops (upTo K) S f (listed.setIfInBounds i true) (tput tm oi.dst x) H →
      stepA P n ops i tm H (fun tm' H' => S i H' ∧ anyJ P n ops (upTo K) S f (listed.setIfInBounds i true) tm' H') := by
    intro f listed tm H hy hR h
    refine ⟨oi, hi, hdi, ?_⟩
    rcases hy with ⟨hw, hs⟩ | ⟨hw, rfl⟩
    · exact .inl ⟨hw, x, H, hs H hR, hRS H hR, h⟩
    · exact .inr ⟨hw, hRS H hR, h⟩
  intro f
  induction f with
  | zero =>
    intro listed tm H hc hS hfree hr hy hR h
    refine ⟨fun h0 => (by rw [h0] at hr; cases hr), fun j hj => ?_⟩
    by_cases hji : j = i
    · subst hji; exact here _ _ _ _ hy hR h
    · have := ready_mono hj hji
      rw [h.1] at this
      cases this
  | succ f ih =>
    intro listed tm H hc hS hfree hr hy hR h
    refine ⟨fun h0 => (by rw [h0] at hr; cases hr), fun j hj => ?_⟩
    by_cases hji : j = i
    · subst hji; exact here _ _ _ _ hy hR h
    · have h1 := h.2 j (ready_mono hj hji)
      obtain ⟨hjun, oj', hoj', hall⟩ := mem_ready.1 hj
      have hiun := (mem_ready.1 hr).1
      have hiun' : listed.getD i false = false := by
        rcases Nat.lt_or_ge i listed.size with h' | h'
        · simp [h'] at hiun ⊢; exact hiun
        · simp [Array.getElem?_eq_none h'] at hiun
      have hnot : ∀ e ∈ oj'.after, Region.binds .any e = true → e.on ≠ i := fun e he hb heq => by
        have h1 := hall e he hb
        rw [heq, hiun'] at h1
        cases h1
      have hnp : i ∉ preds ops ops.size j := fun hp => by
        have := preds_listed hc _ j i hp (fun o ho e he hb => by rw [hoj'] at ho; cases ho; exact hall e he hb)
        rw [hiun'] at this
        cases this
      obtain ⟨p1, p2, p3⟩ := Oper.apart_spec (hfree j oj' hoj' hji hjun hnot)
      -- what oj sees
      have hev : ∀ y, y ∈ oj'.op.operands → ev tm y = ev (tput tm oi.dst x) y := fun y hy => by
        cases y with
        | tmp t =>
          simp only [ev, tget_tput]
          rw [if_neg]
          intro hd
          refine p1 t hd ?_
          simp only [Oper.looksAt, List.mem_append, List.mem_filterMap]
          exact .inl ⟨.tmp t, by simpa using hy, rfl⟩
        | _ => rfl
      have hevi : ∀ z (y : Operand), y ∈ oi.op.operands → ev (tput tm oj'.dst z) y = ev tm y := fun z y hy => by
        cases y with
        | tmp t =>
          simp only [ev, tget_tput]
          rw [if_neg]
          intro hd
          refine p3 t hd ?_
          simp only [Oper.looksAt, List.mem_append, List.mem_filterMap]
          exact .inl ⟨.tmp t, by simpa using hy, rfl⟩
        | _ => rfl
      have hwj : wantA ops tm oj' = wantA ops (tput tm oi.dst x) oj' := by
        unfold wantA
        cases hg : oj'.guard with
        | none => rfl
        | some p =>
          obtain ⟨q, want⟩ := p
          simp only
          cases hq : (ops[q]?).bind (·.dst) with
          | none => rfl
          | some d =>
            simp only [tget_tput]
            rw [if_neg]
            intro hd
            refine p1 d hd ?_
            simp [Oper.looksAt, hg, hq]
      have hwi : ∀ z, wantA ops (tput tm oj'.dst z) oi = wantA ops tm oi := fun z => by
        unfold wantA
        cases hg : oi.guard with
        | none => rfl
        | some p =>
          obtain ⟨q, want⟩ := p
          simp only
          cases hq : (ops[q]?).bind (·.dst) with
          | none => rfl
          | some d =>
            simp only [tget_tput]
            rw [if_neg]
            intro hd
            refine p3 d hd ?_
            simp [Oper.looksAt, hg, hq]
      have hfree' : ∀ m om, ops[m]? = some om → m ≠ i → (listed.setIfInBounds j true).getD m true = false → (∀ e ∈ om.after, Region.binds .any e = true → e.on ≠ i) → oi.apart ops om = true := fun m om hm hmi hun hno => by
        refine hfree m om hm hmi ?_ hno
        by_cases hjm : j = m
        · subst hjm; exact hjun
        · rw [getD_set_ne true hjm] at hun; exact hun
      have next : ∀ z H', S j H' → anyJ P n ops (upTo K) S f ((listed.setIfInBounds i true).setIfInBounds j true) (tput (tput tm oi.dst x) oj'.dst z) H' → anyJ P n ops (upTo K) S (f + 1) (listed.setIfInBounds j true) (tput tm oj'.dst z) H' := by
        intro z H' hSj hrest
        have hSS : ∀ m H', (listed.setIfInBounds j true).getD m true = false → i ∉ preds ops ops.size m → m ≠ i → S m H' → R H' := fun m H' hm => hS m H' (by
          by_cases hjm : j = m
          · subst hjm; exact hjun
          · rw [getD_set_ne true hjm] at hm; exact hm)
        refine ih (listed.setIfInBounds j true) _ H' (hc.step hj) hSS hfree' (ready_mono hr (Ne.symm hji)) ?_ (hS j H' hjun hnp hji hSj) ?_
        · rcases hy with ⟨hw, hs⟩ | ⟨hw, rfl⟩
          · exact .inl ⟨by rw [hwi]; exact hw, fun H' hR' => (hs H' hR').congr (hevi z)⟩
          · exact .inr ⟨by rw [hwi]; exact hw, rfl⟩
        · rw [Array.setIfInBounds_comm _ _ hji]
          exact anyJ.eq _ _ _ _ _ (fun t => (TmEq.comm tm x z (fun t h1 h2 => p2 t h1 h2) t).symm) hrest
      obtain ⟨oj, hoj, hdj, h2⟩ := h1
      rw [hoj'] at hoj
      cases hoj
      refine ⟨oj', hoj', hdj, ?_⟩
      rcases h2 with ⟨hw, z, H', hs, hSj, hrest⟩ | ⟨hw, hSj, hrest⟩
      · exact .inl ⟨by rw [hwj]; exact hw, z, H', hs.congr hev, hSj, next z H' hSj hrest⟩
      · exact .inr ⟨by rw [hwj]; exact hw, hSj, next _ H hSj hrest⟩

section
variable {ops : Array Oper} {K : TM → Heap → Prop} {late : List Nat} {R : Heap → Prop} {f : Nat} {listed : Array Bool}
/-- An operation that only reads is taken ahead of the others. -/
theorem any_take (i : Nat) {oi : Oper} (hi : ops[i]? = some oi) (hs : takeOk n ops listed late i = true) (hw : wantA ops tm oi = some true) (hR : R H) {x : AV} (hx : ∀ H', R H' → StepOk P tm H' oi x H')
    (k : anyJ P n ops (upTo K) (SH late R) f (listed.setIfInBounds i true) (tput tm oi.dst x) H) : anyJ P n ops (upTo K) (SH late R) (f + 1) listed tm H := by
  simp only [takeOk, Bool.and_eq_true, hi] at hs
  obtain ⟨⟨⟨⟨h1, h2⟩, h3⟩, h4⟩, h5⟩ := hs
  refine any_first (R := R) hi h5 (fun H' h => .inr h) f listed tm H (closedB_spec h3) (fun j H' _ hn hji hS => ?_) (Region.free_spec hi h1) (by simpa using h2) (.inl ⟨hw, hx⟩) hR k
  rcases hS with hS | hS
  · have := List.all_eq_true.1 h4 j (by simpa using hS)
    simp only [Bool.or_eq_true, beq_iff_eq] at this
    rcases this with h | h
    · exact absurd (by simpa using h) hn
    · exact absurd h hji
  · exact hS
theorem any_skip (i : Nat) {oi : Oper} (hi : ops[i]? = some oi) (hs : takeOk n ops listed late i = true) (hw : wantA ops tm oi = some false) (hR : R H)
    (k : anyJ P n ops (upTo K) (SH late R) f (listed.setIfInBounds i true) (tput tm oi.dst (.v undef)) H) : anyJ P n ops (upTo K) (SH late R) (f + 1) listed tm H := by
  simp only [takeOk, Bool.and_eq_true, hi] at hs
  obtain ⟨⟨⟨⟨h1, h2⟩, h3⟩, h4⟩, h5⟩ := hs
  refine any_first (R := R) hi h5 (fun H' h => .inr h) f listed tm H (closedB_spec h3) (fun j H' _ hn hji hS => ?_) (Region.free_spec hi h1) (by simpa using h2) (.inr ⟨hw, rfl⟩) hR k
  rcases hS with hS | hS
  · have := List.all_eq_true.1 h4 j (by simpa using hS)
    simp only [Bool.or_eq_true, beq_iff_eq] at this
    rcases this with h | h
    · exact absurd (by simpa using h) hn
    · exact absurd h hji
  · exact hS
/-- The one that may come up comes up. -/
theorem any_one {S : Nat → Heap → Prop} (i : Nat) {oi : Oper} (hi : ops[i]? = some oi) (hr : Region.ready .any ops listed = [i]) (hd : dOk n oi.dst = true) (hw : wantA ops tm oi = some true) {x : AV} {H' : Heap} (hx : StepOk P tm H oi x H') (hS : S i H')
    (k : anyJ P n ops (upTo K) S f (listed.setIfInBounds i true) (tput tm oi.dst x) H') : anyJ P n ops (upTo K) S (f + 1) listed tm H :=
  ⟨fun h => (by rw [hr] at h; cases h), fun j hj => by
    rw [hr] at hj
    have : j = i := by simpa using hj
    subst this
    exact ⟨oi, hi, hd, .inl ⟨hw, x, H', hx, hS, k⟩⟩⟩
theorem any_one_skip {S : Nat → Heap → Prop} (i : Nat) {oi : Oper} (hi : ops[i]? = some oi) (hr : Region.ready .any ops listed = [i]) (hd : dOk n oi.dst = true) (hw : wantA ops tm oi = some false) (hS : S i H)
    (k : anyJ P n ops (upTo K) S f (listed.setIfInBounds i true) (tput tm oi.dst (.v undef)) H) : anyJ P n ops (upTo K) S (f + 1) listed tm H :=
  ⟨fun h => (by rw [hr] at h; cases h), fun j hj => by
    rw [hr] at hj
    have : j = i := by simpa using hj
    subst this
    exact ⟨oi, hi, hd, .inr ⟨hw, hS, k⟩⟩⟩
theorem any_done {S : Nat → Heap → Prop} (hr : Region.ready .any ops listed = []) (k : K tm H) : anyJ P n ops (upTo K) S f listed tm H := by
  cases f with
  | zero => exact ⟨hr, tm, fun _ => rfl, k⟩
  | succ f => exact ⟨fun _ => ⟨tm, fun _ => rfl, k⟩, fun i hi => by rw [hr] at hi; cases hi⟩
end
end Go.AM
