/- The abstract machine: what the texts of walks use. -/
import Derived.Test.YtlegolcbjjjofaaAm13
namespace Go.AM
variable {D : List Deferred} {P : Program} {n k : Nat} {tm : TM} {H : Heap} {Q : Post}

theorem tyI_of {t : TypeId} {d : TypeDesc} {z : Value} {s b : Nat} (h : (P.info? t).map (fun i => (i.zero, i.size, i.bytes)) = some (some z, s, b)) (hd : P.underlying t = some d) : tyI P t = some ⟨d, s, b, z⟩ := by
  obtain ⟨i, h1, h2⟩ := Option.map_eq_some_iff.1 h
  simp only [Prod.mk.injEq] at h2
  obtain ⟨h2, h3, h4⟩ := h2
  subst h3 h4
  simp [tyI, h1, hd, h2]

theorem T.cond_ub {c : Operand} {x y : Code} (hc : ev tm c = .ub) (ht : T D P n k x tm H Q) (hf : T D P n k y tm H Q) : T D P n k (.cond c x y) tm H Q := by
  intro g a hH hk hg ha
  have h := ev_rel ha.rel c
  rw [hc] at h
  simp only [Rel] at h
  obtain ⟨b, hb⟩ := h
  exact wp_cond_split hb (fun _ => ht g a hH hk hg ha) (fun _ => hf g a hH hk hg ha)
theorem ok_nil_ub {o : Oper} {op : BinOp} {t t' : TypeId} {p q : Operand} (ho : o.op = .binOp op t p q t') {i : TI} (hi : tyI P t = some i) {e : TypeId} (hd : i.desc = .slice e) (hop : op = .eql ∨ op = .neq) {es : Nat} {l : List AV} (hp : ev tm p = .fz es l) (hq : ev tm q = .v (.slice none 0 0)) : OpOk P tm H o .ub H := by
  have hd' : P.underlying t = some (.slice e) := by
    rw [← hd]
    unfold tyI at hi
    obtain ⟨ti, h1, h⟩ := Option.bind_eq_some_iff.1 hi
    obtain ⟨d, h2, h⟩ := Option.bind_eq_some_iff.1 h
    obtain ⟨z, h3, h⟩ := Option.map_eq_some_iff.1 h
    subst h
    exact h2
  refine OpOk.val fun g a hH hg ht => ?_
  have h1 := ht p (by simp [ho, Op.operands])
  have h2 := ht q (by simp [ho, Op.operands])
  rw [hp] at h1
  rw [hq] at h2
  simp only [Rel] at h1 h2
  obtain ⟨A, c, xs, hA, _⟩ := h1
  have hu : ∀ w, (underlying t).run P w = .ok (.slice e) w := fun w => by simp [underlying, hd']
  have hE : (Op.equal t (.slice A l.length c) (.slice none 0 0)).run P g.w = .ok A.isNone g.w := equal_run hd' g.w _ _ _ (fun m => by cases A <;> simp [Op.equalIn, hu])
  rcases hop with rfl | rfl
  · exact ⟨.bool A.isNone, by simp [execOp, ho, hA, h2, eqGuard, binOp, hE], by simp [Rel]⟩
  · exact ⟨.bool (!A.isNone), by simp [execOp, ho, hA, h2, eqGuard, binOp, hE], by simp [Rel]⟩

/-- Each is found. -/
def AllGet (tm : TM) : TM → Prop
  | [] => True
  | (t, x) :: r => tget tm t = x ∧ AllGet tm r
theorem AllGet.spec : ∀ {tm' : TM}, AllGet tm tm' → ∀ t, tget tm' t = .any ∨ tget tm' t = tget tm t
  | [], _, t => .inl rfl
  | (a, x) :: r, h, t => by
    simp only [tget]
    by_cases ha : a = t
    · subst ha; rw [if_pos rfl]; exact .inr h.1.symm
    · rw [if_neg ha]; exact AllGet.spec h.2 t
theorem TEnt.to {tm' : TM} (h : AllGet tm tm') : TEnt k tm H tm' H := .keep h.spec
/-- Blocks counted anew, temporaries dropped. -/
theorem TEnt.fin {tm' : TM} {H' : Heap} (src : List Nat) (hn : src.Nodup) (hk : ∀ j, j < k → src[j]? = some j) (hH : normH src H = H') (ht : AllGet (normT src tm) tm') : TEnt k tm H tm' H' :=
  (TEnt.norm src hn hk).trans (hH ▸ TEnt.to ht)
theorem T.to {c : Code} {tm' : TM} (h : AllGet tm tm') (ht : T D P n k c tm' H Q) : T D P n k c tm H Q := T.ent (.to h) ht
theorem TEnt.toH {tm' : TM} {H' : Heap} (hH : H = H') (h : AllGet tm tm') : TEnt k tm H tm' H' := hH ▸ .to h
/-- An empty row as a block of its own. -/
theorem TEnt.empty (t es : Nat) (he : 0 < es) (h : tget tm t = .z0 ∨ tget tm t = .v (.slice none 0 0)) : TEnt k tm H ((t, .sl H.length 0 0) :: tm) (H ++ [some ⟨es, true, []⟩]) := by
  intro g vs hH hk hg ht
  subst hH
  obtain ⟨hgv, hsv⟩ := vpush_ok he hg
  refine ⟨g.vpush es, rfl, rfl, hgv, fun t' => ?_, hsv.ext, hsv.pin hk⟩
  simp only [tget]
  by_cases ht' : t = t'
  · subst ht'
    rw [if_pos rfl]
    have hr := ht t
    have hv : ∃ A, vs t = .slice A 0 0 := by
      rcases h with h | h
      · rw [h] at hr; simpa only [Rel] using hr
      · rw [h] at hr; simp only [Rel] at hr; exact ⟨none, hr⟩
    obtain ⟨A, hv⟩ := hv
    rw [hv]
    simp only [Rel]
    refine ⟨by simp [G.vpush], A, 0, rfl, fun k' hk' => ⟨Nat.le_refl _, ?_, fun h => absurd rfl h⟩⟩
    have e1 : (g.vpush es).sz g.H.length = 0 := by simp [G.vpush]
    have e2 : (g.vpush es).bs g.H.length = 0 := by simp [G.vpush]
    rw [e1, e2]; simp
  · rw [if_neg ht']
    exact Rel.mono hsv.ren (ht t')
theorem TEnt.put1 (t : Nat) {x' : AV} (h : Ent H (tget tm t) x') : TEnt k tm H ((t, x') :: tm) H := .one fun s => by
  simp only [tget]
  by_cases hs : t = s
  · subst hs; rw [if_pos rfl]; exact h
  · rw [if_neg hs]; exact .refl _

/-- A loop: the states that it may stand in at a round's beginning, each with how many rounds are left. -/
theorem T.loopI {c : Code} {ι : Type} (good : ι → Prop) (μ : ι → Nat) (S : ι → TM × Heap) (i0 : ι) (g0 : good i0) (h0 : TEnt k tm H (S i0).1 (S i0).2)
    (round : ∀ i, good i → T D P n k c (S i).1 (S i).2 (thenK (fun tm' H' => ∃ j, good j ∧ μ j < μ i ∧ TEnt k tm' H' (S j).1 (S j).2) Q)) : T D P n k (.loop c) tm H Q := by
  refine T.ent h0 (T.loop (fun m tm H => ∃ i, good i ∧ μ i = m ∧ TEnt k tm H (S i).1 (S i).2) (μ i0) ⟨i0, g0, rfl, .refl⟩ ?_)
  rintro m tm H ⟨i, hi, rfl, he⟩
  refine T.ent he ((round i hi).mono fun e tm' H' hq => ?_)
  cases e with
  | normal =>
    simp only [thenK] at hq ⊢
    obtain ⟨j, h1, h2, h3⟩ := hq
    exact ⟨μ j, h2, j, h1, rfl, h3⟩
  | _ => exact hq
/-- What follows is walked once, from a state that several ways come to. -/
theorem T.join {y : Code} {K : TM → Heap → Prop} {G : Prop} (hK : ∀ tm H, T D P n k y tm H Q → K tm H) (tmJ : TM) (HJ : Heap) (h1 : (∀ tm H, TEnt k tm H tmJ HJ → K tm H) → G) (h2 : T D P n k y tmJ HJ Q) : G :=
  h1 fun tm H he => hK tm H (T.ent he h2)

/-- A function out of its body; where it ends stands behind a letter. -/
theorem CSpec.body {f : FuncId} {fn : Func} {c : Code} {hin : List Blk} {args : List AV} {hout : Heap} {x : AV} (hf : P.funcs[f]? = some fn) (hb : fn.body = some c) (hnm : (fn.name == "runtime.NumGoroutine") = false) (hn : fn.ntmps = n) (hk : hin.length = k) (hle : Nat.ble args.length n = true)
    (h : ∀ Q : Post, (∀ tm H rs, resA P tm H fn.results.toList = some rs → TEnt k [(0, tupA rs)] H [(0, x)] hout → Q .ret tm H ∧ Q .normal tm H) → T [] P n k c (argsTM 0 args) (hin.map some) Q) : CSpec P f hin args hout x := by
  subst hn hk
  refine CSpec.intro hf hb hnm (Nat.le_of_ble_eq_true hle) (h _ fun tm H rs h1 h2 => ⟨⟨.inr rfl, rs, h1, h2⟩, ⟨.inl rfl, rs, h1, h2⟩⟩)

-- whole numbers of 64 bits
abbrev AV.int (n : Int) : AV := .v (.int .i64 n)
abbrev AV.b (b : Bool) : AV := .v (.bool b)
section
variable {o : Oper} {t t' : TypeId} {p q : Operand} {i : TI} {a b : Int}
theorem ok_add64 (ho : o.op = .binOp .add t p q t') (hi : tyI P t = some i) (hp : ev tm p = .int a) (hq : ev tm q = .int b) (h : -9223372036854775808 ≤ a + b) (h' : a + b ≤ 9223372036854775807) : OpOk P tm H o (.int (a + b)) H :=
  ok_binOp ho hi (by rw [hp, hq]; simp [binA, binV, binI, wrap_i64 h h'])
theorem ok_sub64 (ho : o.op = .binOp .sub t p q t') (hi : tyI P t = some i) (hp : ev tm p = .int a) (hq : ev tm q = .int b) (h : -9223372036854775808 ≤ a - b) (h' : a - b ≤ 9223372036854775807) : OpOk P tm H o (.int (a - b)) H :=
  ok_binOp ho hi (by rw [hp, hq]; simp [binA, binV, binI, wrap_i64 h h'])
theorem ok_mul64 (ho : o.op = .binOp .mul t p q t') (hi : tyI P t = some i) (hp : ev tm p = .int a) (hq : ev tm q = .int b) (h : -9223372036854775808 ≤ a * b) (h' : a * b ≤ 9223372036854775807) : OpOk P tm H o (.int (a * b)) H :=
  ok_binOp ho hi (by rw [hp, hq]; simp [binA, binV, binI, wrap_i64 h h'])
/-- A test whose outcome is known. -/
theorem OpOk.bool {c d : Bool} (h : OpOk P tm H o (.b c) H) (hc : c = d) : OpOk P tm H o (.b d) H := hc ▸ h
end
theorem OpOk.eq {o : Oper} {x x' : AV} {H' H'' : Heap} (h : OpOk P tm H o x H') (hx : x = x') (hH : H' = H'') : OpOk P tm H o x' H'' := hx ▸ hH ▸ h
theorem StepOk.eq {o : Oper} {x x' : AV} {H' H'' : Heap} (h : StepOk P tm H o x H') (hx : x = x') (hH : H' = H'') : StepOk P tm H o x' H'' := hx ▸ hH ▸ h

-- rows of whole numbers
def ints (k : IntKind) (l : List Int) : List AV := l.map fun n => .v (.int k n)
theorem ints_length (k : IntKind) (l : List Int) : (ints k l).length = l.length := by simp [ints]
theorem ints_append (k : IntKind) (l m : List Int) : ints k l ++ ints k m = ints k (l ++ m) := by simp [ints]
theorem ints_one (k : IntKind) (x : Int) : [AV.v (.int k x)] = ints k [x] := rfl
theorem ints_nil (k : IntKind) : ints k [] = [] := rfl
theorem ints_get (k : IntKind) (l : List Int) (i : Nat) : (ints k l)[i]? = (l[i]?).map fun n => .v (.int k n) := by simp [ints]
theorem ints_get_of {k : IntKind} {l : List Int} {i : Nat} {x : Int} (h : l[i]? = some x) : (ints k l)[i]? = some (.v (.int k x)) := by simp [ints_get, h]
theorem ints_set (k : IntKind) (l : List Int) (i : Nat) (x : Int) : (ints k l).set i (.v (.int k x)) = ints k (l.set i x) := by simp [ints, List.map_set]
theorem ints_take (k : IntKind) (l : List Int) (i : Nat) : (ints k l).take i = ints k (l.take i) := by simp [ints, List.map_take]
theorem ints_drop (k : IntKind) (l : List Int) (i : Nat) : (ints k l).drop i = ints k (l.drop i) := by simp [ints, List.map_drop]
theorem ints_replicate (k : IntKind) (m : Nat) (x : Int) : List.replicate m (AV.v (.int k x)) = ints k (List.replicate m x) := by simp [ints]
theorem renL_ints (ρ : Nat → Option Nat) (k : IntKind) (l : List Int) : renL ρ (ints k l) = ints k l := by
  rw [renL_map]; simp [ints, AV.ren]
theorem nofzL_ints (k : IntKind) : ∀ l : List Int, nofzL (ints k l) = true
  | [] => by simp [ints, nofzL]
  | x :: l => by
    have := nofzL_ints k l
    simp only [ints, List.map_cons, nofzL, AV.nofz, Bool.true_and] at this ⊢
    exact this
theorem bytesOf_ints : ∀ l : List Int, bytesOf (ints .u8 l) = some (l.map fun n => UInt8.ofNat n.toNat)
  | [] => rfl
  | x :: l => by
    have := bytesOf_ints l
    simp only [ints, List.map_cons, bytesOf, byteOf, Option.bind_some] at this ⊢
    rw [this]; rfl

theorem ok_moveb {o : Oper} {x : Operand} {c : Bool} (ho : o.op = .move x ∨ o.op = .assign x) (h : ev tm x = .b c) : OpOk P tm H o (.b c) H := h ▸ ok_move ho
theorem ok_pickb {o : Oper} {c x y : Operand} {t d : Bool} (ho : o.op = .pick c x y) (hc : ev tm c = .v (.bool t)) (h : pickA t (ev tm x) (ev tm y) = .b d) : OpOk P tm H o (.b d) H := h ▸ ok_pick ho hc
/-- A truth that is not known: both ways. -/
theorem ro_case {ops : Array Oper} {o : Oper} {rest : List Oper} {K : TM → Heap → Prop} {c : Bool} {H' : Heap} (hd : dOk n o.dst = true) (hw : wantA ops tm o = some true) (hs : StepOk P tm H o (.b c) H')
    (kt : c = true → runOps P n ops rest (tput tm o.dst (.b true)) H' K) (kf : c = false → runOps P n ops rest (tput tm o.dst (.b false)) H' K) : runOps P n ops (o :: rest) tm H K := by
  cases c
  · exact ro hd hw hs (kf rfl)
  · exact ro hd hw hs (kt rfl)
theorem any_take_case {ops : Array Oper} {K : TM → Heap → Prop} {late : List Nat} {R : Heap → Prop} {f : Nat} {listed : Array Bool} (i : Nat) {oi : Oper} (hi : ops[i]? = some oi) (hs : takeOk n ops listed late i = true) (hw : wantA ops tm oi = some true) (hR : R H) {c : Bool} (hx : ∀ H', R H' → StepOk P tm H' oi (.b c) H')
    (kt : c = true → anyJ P n ops (upTo K) (SH late R) f (listed.setIfInBounds i true) (tput tm oi.dst (.b true)) H) (kf : c = false → anyJ P n ops (upTo K) (SH late R) f (listed.setIfInBounds i true) (tput tm oi.dst (.b false)) H) : anyJ P n ops (upTo K) (SH late R) (f + 1) listed tm H := by
  cases c
  · exact any_take i hi hs hw hR hx (kf rfl)
  · exact any_take i hi hs hw hR hx (kt rfl)
/-- An element of a frozen row. -/
theorem ok_index_fz {o : Oper} {t e : TypeId} {x ix : Operand} (ho : o.op = .indexAddr t x ix) {i : TI} (hi : tyI P t = some i) (hd : i.desc = .slice e) {j : TI} (hj : tyI P e = some j) {es : Nat} {l : List AV} (hx : ev tm x = .fz es l) (hs : es = j.size) {kd : IntKind} {z : Int} (hz : ev tm ix = .v (.int kd z)) (h0 : 0 ≤ z) {y : AV} (hy : l[z.toNat]? = some y) {c : AV} {cs : List AV} (hc : y.cells = c :: cs) : OpOk P tm H o (.fp (c :: cs) 0) H :=
  ok_indexAddr ho hi (.inl hd) hj hz h0 (by simp [hx, hd, elemA, hs, hy, hc])
/-- On to what follows: these temporaries are kept, all is written out. -/
theorem keepK {y : Code} {K : TM → Heap → Prop} (hK : ∀ tm H, T D P n k y tm H Q → K tm H) (l : List Nat) {tm' : TM} {H' : Heap} (ht : tkeep l tm = tm') (hH : H = H') (h : T D P n k y tm' H' Q) : K tm H :=
  hK tm H (T.keep l (by rw [ht, hH]; exact h))
theorem T.drawH (hm : P.follows .mixedOrders = true) (late : List Nat) {id : Nat} {ops : Array Oper} (h : anyJ P n ops (upTo (Q .normal)) (SH late (HeldL H)) ops.size (Array.replicate ops.size false) tm H) : T D P n k (.region id ops true) tm H Q := T.draw hm _ h
section
variable {o : Oper} {t t' : TypeId} {p q : Operand} {i : TI} {a b : Int}
theorem ok_quo64 (ho : o.op = .binOp .quo t p q t') (hi : tyI P t = some i) (hp : ev tm p = .int a) (hq : ev tm q = .int b) (h : 0 ≤ a) (h' : a ≤ 9223372036854775807) (hb : 0 < b) : OpOk P tm H o (.int (a / b)) H := by
  have h1 : a / b ≤ a := Int.ediv_le_self b h
  have h2 : 0 ≤ a / b := Int.ediv_nonneg h (by omega)
  refine ok_binOp ho hi ?_
  rw [hp, hq]
  have hb0 : ¬ b = 0 := by omega
  simp only [binA, binV, binI, if_true, hb0, if_false, Option.map_some, Int.tdiv_eq_ediv_of_nonneg h]
  rw [wrap_i64 (by omega) (by omega)]
theorem ok_rem64 (ho : o.op = .binOp .rem t p q t') (hi : tyI P t = some i) (hp : ev tm p = .int a) (hq : ev tm q = .int b) (h : 0 ≤ a) (hb : 0 < b) : OpOk P tm H o (.int (a % b)) H := by
  refine ok_binOp ho hi ?_
  rw [hp, hq]
  have hb0 : ¬ b = 0 := by omega
  simp only [binA, binV, binI, if_true, hb0, if_false, Option.map_some, Int.tmod_eq_emod_of_nonneg h]
end
/-- An element of a frozen row of whole numbers. -/
theorem ok_index_ints {o : Oper} {t e : TypeId} {x ix : Operand} (ho : o.op = .indexAddr t x ix) {i : TI} (hi : tyI P t = some i) (hd : i.desc = .slice e) {j : TI} (hj : tyI P e = some j) (hs : j.size = 1) {k : IntKind} {l : List Int} (hx : ev tm x = .fz 1 (ints k l)) {kd : IntKind} {z : Int} (hz : ev tm ix = .v (.int kd z)) (h0 : 0 ≤ z) {y : Int} (hy : l[z.toNat]? = some y) : OpOk P tm H o (.fp [.v (.int k y)] 0) H :=
  ok_indexAddr ho hi (.inl hd) hj hz h0 (by simp [hx, hd, elemA, hs, ints_get, hy, AV.cells])
/-- An element of a row of a block. -/
theorem ok_index_sl {o : Oper} {t e : TypeId} {x ix : Operand} (ho : o.op = .indexAddr t x ix) {i : TI} (hi : tyI P t = some i) (hd : i.desc = .slice e) {j : TI} (hj : tyI P e = some j) {id off len : Nat} (hx : ev tm x = .sl id off len) {b : Blk} (hb : hget H id = some b) (hs : b.es = j.size) {kd : IntKind} {z : Int} (hz : ev tm ix = .v (.int kd z)) (h0 : 0 ≤ z) (h1 : z < len) : OpOk P tm H o (.ref id (off + z.toNat) 0) H :=
  ok_indexAddr ho hi (.inl hd) hj hz h0 (by
    have : z.toNat < len := by omega
    simp [hx, hd, elemA, hb, hs, this])
/-- What stands at an element of a row of whole numbers. -/
theorem ok_load_ints {o : Oper} {t : TypeId} {x : Operand} (ho : o.op = .load t x) {i : TI} (hi : tyI P t = some i) (hd : isAggD i.desc = false) {id m : Nat} (hx : ev tm x = .ref id m 0) {b : Blk} (hb : hget H id = some b) {k : IntKind} {l : List Int} (hl : b.els = ints k l) {y : Int} (hy : l[m]? = some y) : OpOk P tm H o (.v (.int k y)) H :=
  ok_load ho hi (cl := [.v (.int k y)]) (f := 0) (by simp [hx, locA, hb, hl, ints_get, hy, AV.cells]) (by simp [loadA, hd])
end Go.AM
