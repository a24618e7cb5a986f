/- The abstract machine: several operations that may come up. -/
import Derived.Test.YtmegpanmiagheaaAm16
namespace Go.AM
variable {P : Program} {n k : Nat} {tm : TM} {H : Heap} {Q : Post} {ops : Array Oper} {K : TM → Heap → Prop} {late : List Nat} {R : Heap → Prop} {f : Nat} {listed : Array Bool}
/-- Whichever of those that may come up comes up. -/
theorem any_many (L : List Nat) (hr : Region.ready .any ops listed = L) (hne : L ≠ []) (h : ∀ i ∈ L, stepA P n ops i tm H (fun tm' H' => SH late R i H' ∧ anyJ P n ops (upTo K) (SH late R) f (listed.setIfInBounds i true) tm' H')) : anyJ P n ops (upTo K) (SH late R) (f + 1) listed tm H :=
  ⟨fun h0 => absurd (hr.symm.trans h0) hne, fun i hi => h i (hr ▸ hi)⟩
theorem step_one {i : Nat} {o : Oper} {S : Nat → Heap → Prop} {C : TM → Heap → Prop} {x : AV} {H' : Heap} (hi : ops[i]? = some o) (hd : dOk n o.dst = true) (hw : wantA ops tm o = some true) (hs : StepOk P tm H o x H') (hS : S i H') (k : C (tput tm o.dst x) H') : stepA P n ops i tm H (fun tm' H' => S i H' ∧ C tm' H') :=
  ⟨o, hi, hd, .inl ⟨hw, x, H', hs, hS, k⟩⟩
end Go.AM
