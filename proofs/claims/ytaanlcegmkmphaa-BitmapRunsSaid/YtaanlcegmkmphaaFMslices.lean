-- Written by wip/tools/mine.py (a program of this session, over the kit's print and texts of its own).
import Derived.ArgAppend
import Derived.Below
import Derived.BigQuiet
import Derived.Deep.AppendLies
import Derived.Deep.CutBlock
import Derived.Deep.DeepCutAuto
import Derived.Deep.Draws
import Derived.Deep.LoopGhost
import Derived.Deep.OwnRows
import Derived.Deep.QuietTactic
import Derived.Deep.RegionHeld3
import Derived.KernelRfl
import Derived.Laws.BitsLemmas
import Derived.Laws.BytesArg
import Derived.Laws.IdiomCopy
import Derived.Laws.MakeOwn
import Derived.Laws.OwnMore
import Derived.Laws.Rows
import Derived.Laws.Slices
import Derived.Lib.AppendStr
import Derived.Lib.ConvBytes
import Derived.Maps.AppendAt
import Derived.OrdersHeld
import Derived.OwnWalk
import Derived.RowKit
import Derived.RowKit3
import Derived.Tactics
import Derived.Test.YtaanlcegmkmphaaFMyWords
import Derived.Test.YtaanlcegmkmphaaProg
import Derived.Test.YtaanlcegmkmphaaFWApart
import Derived.Test.YtaanlcegmkmphaaFWArr
import Derived.Test.YtaanlcegmkmphaaFWAt
import Derived.Test.YtaanlcegmkmphaaFWEqStruct
import Derived.Test.YtaanlcegmkmphaaFWFoot
import Derived.Test.YtaanlcegmkmphaaFWFootNe
import Derived.Test.YtaanlcegmkmphaaFWFour
import Derived.Test.YtaanlcegmkmphaaFWGuard
import Derived.Test.YtaanlcegmkmphaaFWInv
import Derived.Test.YtaanlcegmkmphaaFWInvWords
import Derived.Test.YtaanlcegmkmphaaFWKept
import Derived.Test.YtaanlcegmkmphaaFWLast
import Derived.Test.YtaanlcegmkmphaaFWMore
import Derived.Test.YtaanlcegmkmphaaFWN
import Derived.Test.YtaanlcegmkmphaaFWNEv
import Derived.Test.YtaanlcegmkmphaaFWQPut
import Derived.Test.YtaanlcegmkmphaaFWRepsOne
import Derived.Test.YtaanlcegmkmphaaFWShare
import Derived.Test.YtaanlcegmkmphaaFWTab
import Derived.Test.YtaanlcegmkmphaaFWWords
import Derived.Test.YtaanlcegmkmphaaFWZeros
import Derived.WalkKit
import Derived.WideLaws
import Derived.Test.YtaanlcegmkmphaaFM0
namespace Go.Proofs.Ytaanlcegmkmphaa.M
open Go.RowKit Go.Proofs.YtaanlcegmkmphaaW.PrintWords Go.Proofs.YtaanlcegmkmphaaW.PrintLast Go.Proofs.YtaanlcegmkmphaaW.PrintMore Go.Proofs.YtaanlcegmkmphaaW.MyWords
attribute [local go_sem] max2_int min2_int max_two min_two max_three min_three max_four min_four -- for this text's walks alone
set_option linter.unusedVariables false
set_option linter.unusedSimpArgs false

def slices_Clone_uint64_uint64.f (l0 : List Int) : Option (List Int) := if l0.length < 17592186044416 then (some l0) else (none)
set_option maxHeartbeats 8000000 in
set_option maxRecDepth 100000 in
theorem slices_Clone_uint64_uint64.calls (A0 : Option Addr) (c0 : Nat) (l0 : List Int) (r : List Int) (w : World) (hr0 : Kd.C (Kd.int .u64) w A0 l0.length l0) (hc0 : l0.length ≤ c0) (h : slices_Clone_uint64_uint64.f l0 = some r) :
    Calls Try.prog 186 #[.slice A0 l0.length c0] w fun e w' => ∃ v0_ : Value, e = .returned (v0_) ∧ Kd.R (Kd.int .u64) 177 w' w.heap.size (fun _ => True) v0_ r ∧ Below w.heap.size w w' := by
  have HR0 := Aside0.mk hr0
  have HC0 := Aside0.mk hc0
  have HB := Aside0.mk (Below.refl w.heap.size w)
  unfold slices_Clone_uint64_uint64.f at h
  by_cases c3 : l0.length < 17592186044416
  case neg => rw [if_neg c3] at h; exact absurd h (by simp)
  rw [if_pos c3] at h
  obtain rfl := Option.some.inj h
  clear h
  have LMc3 := Aside0.mk c3
  clear c3
  cases A0 with
  | none =>
    have hl : l0 = [] := my_C_none hr0
    subst hl
    clear hr0 hc0
    have hq := fun (w : World) (n c : Nat) => Lib.run_eql_slice_nil (P := Try.prog) w 52 _ none n c 0 0 Try.underlying52
    go_enter Try.func186, Try.ntmps186
    go_wp2
    go_ret
    exact ⟨_, rfl, Kd.R_nil _ _ _ _ _, by repeat (first | (with_reducible first | exact HB.out | apply below_alloc | apply pw_below_drewN | apply below_drew1) | exact HB.out)⟩
  | some a0 =>
    clear hr0 hc0
    obtain ⟨y1, hy1⟩ : ∃ y_ : List Int, y_ = ([] : List Int) := ⟨_, rfl⟩
    obtain ⟨y2, hy2⟩ : ∃ y_ : List Int, y_ = y1 ++ l0 := ⟨_, rfl⟩
    have Ny1 := Aside0.mk hy1
    have Ny2 := Aside0.mk hy2
    have LM2 : Aside0 (y1.length + l0.length < 17592186044416) := ⟨by rw [hy1]; simpa using LMc3.out⟩
    have hyr : l0 = y2 := by rw [hy2, hy1]; rfl
    have NR := Aside0.mk hyr
    clear hy1 hy2 hyr
    have hq := fun (w : World) (n c : Nat) => Lib.run_eql_slice_nil (P := Try.prog) w 52 _ (some a0) n c 0 0 Try.underlying52
    go_enter Try.func186, Try.ntmps186
    go_wp2_with (first | ((with_reducible refine gate_dst (N := 5) rfl ?_); refine Kd.R_lit (Kd.int .u64) _ 177 ?hg (N := 5) ?hd (xs := ([] : List Int)) (inner := []) (ok := fun _ => True) (okp := fun _ => True) ?hr ?hp (fun _ hk => hk) trivial (Below.refl _ _) (Nat.le_refl _) (by simp) ?_; (case hd => rfl); (case hg => rfl); (case hr => first | (go_simp; done) | (go_simp; rfl)); (case hp => exact (Reps.none _ _)); intro v117 w8 ho9 hb hg_ hnew_; clear hg_ hnew_; (first | rw [← Ny1.out] at ho9 | (simp only [Int.reduceToNat] at ho9; rw [← Ny1.out] at ho9)); have n0_ := Aside0.mk (Kd.R_lower ho9 (below_size (by repeat (first | (with_reducible first | exact HB.out | apply below_alloc | apply pw_below_drewN | apply below_drew1) | exact HB.out)))); have n1_ := Aside0.mk (below_step (by repeat (first | (with_reducible first | exact HB.out | apply below_alloc | apply pw_below_drewN | apply below_drew1) | exact HB.out)) hb); clear HB; have HO118 := n0_; have HB := n1_; clear n0_ n1_; clear hb ho9) | ((with_reducible refine gate_builtin (b := .append) (xs := #[.tmp 5, .tmp 6]) rfl ?_); at_builtin; refine Kd.R_append_rows (Kd.int .u64) (w0 := w) w.heap.size rfl (.tmp 5) (.tmp 6) 52 177 (.int .u64 0) 8 rfl Try.underlying52 info177 rfl (by decide) (by omega) v117 y1 l0 _ _ _ (fun _ => True) (fun _ => False) rfl rfl ?aO ?aR (fun _ _ h => h) (fun _ h => h.elim) ?aF ?aB ?aS ?aL ?_; (case aR => repeat (first | exact (Kd.C_below HR0.out HB.out) | (with_reducible refine Kd.C_alloc ?_ _) | (with_reducible refine Kd.C_drewN ?_ _) | (with_reducible refine Kd.C_drew ?_))); (case aB => exact (by repeat (first | (with_reducible first | exact HB.out | apply below_alloc | apply pw_below_drewN | apply below_drew1) | exact HB.out))); (case aF => exact (fun _ _ => trivial)); (case aO => exact (by (with_reducible repeat (first | apply Kd.R_alloc | apply Kd.R_drewN | apply Kd.R_drew)); exact HO118.out)); (case aS => exact (below_size (by repeat (first | (with_reducible first | exact HB.out | apply below_alloc | apply pw_below_drewN | apply below_drew1) | exact HB.out)))); (case aL => have := LM2.out; omega); intro v120 w10 ho hb hg hat; rw [← Ny2.out] at ho; have n0_ := Aside0.mk (hb); have n1_ := Aside0.mk (ho); clear HB; clear HO118; have HB := n0_; have HO121 := n1_; clear n0_ n1_; clear ho hb hg hat))
    go_ret
    exact ⟨_, rfl, by rw [NR.out]; (with_reducible repeat (first | apply Kd.R_alloc | apply Kd.R_drewN | apply Kd.R_drew)); exact HO121.out, (by repeat (first | (with_reducible first | exact HB.out | apply below_alloc | apply pw_below_drewN | apply below_drew1) | exact HB.out))⟩

-- NOT PRINTED: function 135 (slices_Clone_byte_byte_135)

-- told with xor.Zero

-- told with xor.Zero

end Go.Proofs.Ytaanlcegmkmphaa.M
