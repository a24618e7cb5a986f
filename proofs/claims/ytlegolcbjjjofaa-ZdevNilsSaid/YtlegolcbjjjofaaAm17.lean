/- The abstract machine: several operations that may come up. -/
import Derived.Test.YtlegolcbjjjofaaAm16
namespace Go.AM
variable {D : List Deferred} {P : Program} {n k : Nat} {tm : TM} {H : Heap} {Q : Post} {ops : Array Oper} {K : TM → Heap → Prop} {late : List Nat} {R : Heap → Prop} {f : Nat} {listed : Array Bool}
/-- Whichever of those that may come up comes up. -/
theorem any_many {S : Nat → Heap → Prop} (L : List Nat) (hr : Region.ready .any ops listed = L) (hne : L ≠ []) (h : ∀ i ∈ L, stepA P n ops i tm H (fun tm' H' => S i H' ∧ anyJ P n ops (upTo K) S f (listed.setIfInBounds i true) tm' H')) : anyJ P n ops (upTo K) S (f + 1) listed tm H :=
  ⟨fun h0 => absurd (hr.symm.trans h0) hne, fun i hi => h i (hr ▸ hi)⟩
theorem step_one {i : Nat} {o : Oper} {S : Nat → Heap → Prop} {C : TM → Heap → Prop} {x : AV} {H' : Heap} (hi : ops[i]? = some o) (hd : dOk n o.dst = true) (hw : wantA ops tm o = some true) (hs : StepOk P tm H o x H') (hS : S i H') (k : C (tput tm o.dst x) H') : stepA P n ops i tm H (fun tm' H' => S i H' ∧ C tm' H') :=
  ⟨o, hi, hd, .inl ⟨hw, x, H', hs, hS, k⟩⟩
/-- As 'SH', but behind the early ones, too, only so much is as it was. -/
def SH2 (late early : List Nat) (R0 R : Heap → Prop) : Nat → Heap → Prop := fun j H => R0 H ∧ (late.contains j = true ∨ early.contains j = true ∨ R H)
section
variable {R0 : Heap → Prop} {early : List Nat}
theorem take2_spec {i : Nat} {R : Heap → Prop} (h4 : (late.all fun j => (preds ops ops.size j).contains i || j == i) = true) (he : (early.all fun j => listed.getD j true) = true) : ∀ j H', listed.getD j true = false → i ∉ preds ops ops.size j → j ≠ i → SH2 late early R0 R j H' → R0 H' ∧ R H' := by
  intro j H' hun hn hji hS
  refine ⟨hS.1, ?_⟩
  rcases hS.2 with hS | hS | hS
  · have := List.all_eq_true.1 h4 j (by simpa using hS)
    simp only [Bool.or_eq_true, beq_iff_eq] at this
    rcases this with h | h
    · exact absurd (by simpa using h) hn
    · exact absurd h hji
  · have := List.all_eq_true.1 he j (by simpa using hS)
    rw [hun] at this
    cases this
  · exact hS
theorem any_take2 (i : Nat) {oi : Oper} (hi : ops[i]? = some oi) (hs : takeOk n ops listed late i = true) (he : (early.all fun j => listed.getD j true) = true) (hw : wantA ops tm oi = some true) (hR0 : R0 H) (hR : R H) {x : AV} (hx : ∀ H', R H' → StepOk P tm H' oi x H')
    (k : anyJ P n ops (upTo K) (SH2 late early R0 R) f (listed.setIfInBounds i true) (tput tm oi.dst x) H) : anyJ P n ops (upTo K) (SH2 late early R0 R) (f + 1) listed tm H := by
  simp only [takeOk, Bool.and_eq_true, hi] at hs
  obtain ⟨⟨⟨⟨h1, h2⟩, h3⟩, h4⟩, h5⟩ := hs
  exact any_first (R := fun H => R0 H ∧ R H) hi h5 (fun H' h => ⟨h.1, .inr (.inr h.2)⟩) f listed tm H (closedB_spec h3) (take2_spec h4 he) (Region.free_spec hi h1) (by simpa using h2) (.inl ⟨hw, fun H' h => hx H' h.2⟩) ⟨hR0, hR⟩ k
theorem any_skip2 (i : Nat) {oi : Oper} (hi : ops[i]? = some oi) (hs : takeOk n ops listed late i = true) (he : (early.all fun j => listed.getD j true) = true) (hw : wantA ops tm oi = some false) (hR0 : R0 H) (hR : R H)
    (k : anyJ P n ops (upTo K) (SH2 late early R0 R) f (listed.setIfInBounds i true) (tput tm oi.dst (.v undef)) H) : anyJ P n ops (upTo K) (SH2 late early R0 R) (f + 1) listed tm H := by
  simp only [takeOk, Bool.and_eq_true, hi] at hs
  obtain ⟨⟨⟨⟨h1, h2⟩, h3⟩, h4⟩, h5⟩ := hs
  exact any_first (R := fun H => R0 H ∧ R H) hi h5 (fun H' h => ⟨h.1, .inr (.inr h.2)⟩) f listed tm H (closedB_spec h3) (take2_spec h4 he) (Region.free_spec hi h1) (by simpa using h2) (.inr ⟨hw, rfl⟩) ⟨hR0, hR⟩ k
theorem any_early (i : Nat) {oi : Oper} (hi : ops[i]? = some oi) (hs : takeOk n ops listed [] i = true) (he : early.contains i = true) (hw : wantA ops tm oi = some true) (hR0 : R0 H) {x : AV} (hx : ∀ H', R0 H' → StepOk P tm H' oi x H')
    (k : anyJ P n ops (upTo K) (SH2 late early R0 R) f (listed.setIfInBounds i true) (tput tm oi.dst x) H) : anyJ P n ops (upTo K) (SH2 late early R0 R) (f + 1) listed tm H := by
  simp only [takeOk, Bool.and_eq_true, hi] at hs
  obtain ⟨⟨⟨⟨h1, h2⟩, h3⟩, h4⟩, h5⟩ := hs
  exact any_first (R := R0) hi h5 (fun H' h => ⟨h, .inr (.inl he)⟩) f listed tm H (closedB_spec h3) (fun j H' _ _ _ hS => hS.1) (Region.free_spec hi h1) (by simpa using h2) (.inl ⟨hw, hx⟩) hR0 k
/-- What follows is walked once, from any of a family of states that the ways come to. -/
theorem T.joinE {y : Code} {K : TM → Heap → Prop} {G : Prop} (hK : ∀ tm H, T D P n k y tm H Q → K tm H) {ι : Type} (good : ι → Prop) (S : ι → TM × Heap) (h1 : (∀ tm H s, good s → TEnt k tm H (S s).1 (S s).2 → K tm H) → G) (h2 : ∀ s, good s → T D P n k y (S s).1 (S s).2 Q) : G :=
  h1 fun tm H s hs he => hK tm H (T.ent he (h2 s hs))
theorem T.draw2 (hm : P.follows .mixedOrders = true) (late early : List Nat) (H0 : Heap) {id : Nat} {ops : Array Oper} (h : anyJ P n ops (upTo (Q .normal)) (SH2 late early (HeldL H0) (HeldL H)) ops.size (Array.replicate ops.size false) tm H) : T D P n k (.region id ops true) tm H Q := T.draw hm _ h
end
end Go.AM
