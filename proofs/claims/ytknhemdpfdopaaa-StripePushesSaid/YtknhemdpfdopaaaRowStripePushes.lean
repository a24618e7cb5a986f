/- The law revetmentlaw15.StripePushes: for every input the call returns true, and each argument reads behind the call as it read before. No condition. -/
import Derived.Test.YtknhemdpfdopaaaRows
import Derived.Test.YtknhemdpfdopaaaAfStripe8
import Derived.Test.YtknhemdpfdopaaaAmRow
import Derived.WalkKit
import Derived.ProofKit
import Derived.OpenShut
import Derived.ShutString
import Derived.ChangeOld
import Derived.Below
import Derived.SizedLaws
import Derived.Carry
import Derived.ChangeMaps5
namespace Go.Proofs.Ytknhemdpfdopaaa.RowStripePushes
open Go Go.AM Go.ChangeShapes Go.WideShapes Go.ChangeAt Go.RowKit Go.Proofs.Ytknhemdpfdopaaa Go.Proofs.Ytknhemdpfdopaaa.AmF
open Go.ChangeMaps (open_string shut_string)
set_option linter.unusedVariables false
theorem own : ownKnob Try.prog.godebug = none := by kernel_rfl
theorem laidOut : laidOutB Try.prog = true := by kernel_rfl
set_option maxRecDepth 100000 in
set_option maxHeartbeats 1000000 in
theorem lifted (os : Os) (started : os.Started) (H : Type) (enc : TypeId × Value → H) :
    ReturnsInHanded {} Try.checked os 10 .any (Rows.stripePushesSpec.pre6 enc Try.prog Try.f10 Rows.stripePushesRow.domain false) (Rows.stripePushesSpec.post enc Try.prog Try.f10 false true false false) := by
  refine returnsInHanded_of_change_sized (C := Try.checked) own started (by kernel_rfl) Try.func10
    (ChangeSpec.witness6 (enc := enc) (C := Try.checked) false ⟨#[], #[.agg #[.int .i64 0, .int .i64 0, .int .i64 0, .int .i64 0, .int .i64 0, .int .i64 0, .int .i64 0, .int .i64 0, .int .i64 0, .int .i64 0, .int .i64 0], .slice none 0 0, .slice none 0 0], []⟩ 8 (by kernel_rfl) (by kernel_rfl) (by kernel_rfl) (by kernel_rfl)) ?_
  intro W base args ds gs before hval0 hW hcnd hsz0 _
  have hsz : (DataW.weightsEach Try.prog (Try.f10.params.toList ++ Rows.stripePushesSpec.plain.varTypes Try.prog) (ds ++ gs)).all (· ≤ reachBytes) = true := hsz0
  have hval : ∀ (j : Nat) t v, Try.f10.params[j]? = some t → args[j]? = some v → Value.okWide Try.prog W .any base t v := hval0
  have hW' := hW
  obtain ⟨p, q, hA0, hV, rfl, hfz, hnd⟩ := hW
  have hA : DataW.TrodAll enc Try.prog W 0 (fun _ => true) true Try.f10.params.toList args.toList ds p := hA0
  rw [show Try.f10.params = #[39, 33, 30] from rfl] at hA hval hsz
  obtain ⟨v0, vs0, d0, ds0, p0, q0, hargs, rfl, rfl, h0, r0⟩ := trodAll_cons hA
  obtain ⟨v1, vs1, d1, ds1, p1, q1, rfl, rfl, rfl, h1, r1⟩ := trodAll_cons r0
  obtain ⟨v2, vs2, d2, ds2, p2, q2, rfl, rfl, rfl, h2, r2⟩ := trodAll_cons r1
  obtain ⟨rfl, rfl, rfl⟩ := trodAll_nil r2
  obtain rfl : args = #[v0, v1, v2] := by cases args; simp_all
  obtain ⟨rfl, rfl⟩ := trodVars_none hV
  obtain ⟨cs0, rfl, _⟩ := okWide_struct Try.underlying39 (hval 0 39 v0 rfl rfl)
  have k0 := h0
  have lt0 := lt_of_trod k0
  obtain ⟨a0, e0, wf0⟩ := Opens.at_agg (d := Kd.struct (Kd.pair (Kd.int .i64) (Kd.pair (Kd.int .i64) (Kd.pair (Kd.int .i64) (Kd.pair (Kd.int .i64) (Kd.pair (Kd.int .i64) (Kd.pair (Kd.int .i64) (Kd.pair (Kd.int .i64) (Kd.pair (Kd.int .i64) (Kd.pair (Kd.int .i64) (Kd.pair (Kd.int .i64) (Kd.int .i64))))))))))) id) (Opens.struct id Try.underlying39 (by kernel_rfl) (FOpens.cons (Opens.int Try.underlying3) rfl (by kernel_rfl) (FOpens.cons (Opens.int Try.underlying3) rfl (by kernel_rfl) (FOpens.cons (Opens.int Try.underlying3) rfl (by kernel_rfl) (FOpens.cons (Opens.int Try.underlying3) rfl (by kernel_rfl) (FOpens.cons (Opens.int Try.underlying3) rfl (by kernel_rfl) (FOpens.cons (Opens.int Try.underlying3) rfl (by kernel_rfl) (FOpens.cons (Opens.int Try.underlying3) rfl (by kernel_rfl) (FOpens.cons (Opens.int Try.underlying3) rfl (by kernel_rfl) (FOpens.cons (Opens.int Try.underlying3) rfl (by kernel_rfl) (FOpens.cons (Opens.int Try.underlying3) rfl (by kernel_rfl) (FOpens.one (Opens.int Try.underlying3) rfl (by kernel_rfl)))))))))))) (fun _ => rfl)) (fun _ => rfl) k0 (weights_at hsz (j := 0) (t := 39) rfl rfl)
  obtain ⟨A1, len1, c1, rfl⟩ := okWide_slice Try.underlying33 (hval 1 33 v1 rfl rfl)
  have k1 := h1
  have lt1 := lt_of_trod k1
  obtain ⟨a1, e1, wf1⟩ := Opens.at_one (d := Kd.slice (Kd.slice (Kd.int .u8))) (Opens.slice (B := 24) (Opens.slice (B := 1) (Opens.int Try.underlying5) Try.underlying30 (by kernel_rfl) (by decide) (by kernel_rfl)) Try.underlying33 (by kernel_rfl) (by decide) (by kernel_rfl)) rfl (fun _ => rfl) k1 (weights_at hsz (j := 1) (t := 33) rfl rfl)
  obtain ⟨A2, len2, c2, rfl⟩ := okWide_slice Try.underlying30 (hval 2 30 v2 rfl rfl)
  have k2 := h2
  have lt2 := lt_of_trod k2
  obtain ⟨a2, e2, wf2⟩ := Opens.at_one (d := Kd.slice (Kd.int .u8)) (Opens.slice (B := 1) (Opens.int Try.underlying5) Try.underlying30 (by kernel_rfl) (by decide) (by kernel_rfl)) rfl (fun _ => rfl) k2 (weights_at hsz (j := 2) (t := 30) rfl rfl)
  refine (CSpec.law (stripePushes_ok (cfOf a0) a1 a2 (fun l hl => bytes_of (wf1.2 l hl).2) (bytes_of wf2.2) (by have := wf1.1; omega) (fun l hl => by have := (wf1.2 l hl).1; omega) (by have := wf2.1; omega)) (RelL.cons e0 (RelL.cons e1 (RelL.cons e2 RelL.nil)))).mono fun e W' ⟨he, hb⟩ => ?_
  have bel : Below W.heap.size W W' := hb
  subst he
  exact ⟨_, rfl, _, _, _, [], _, [], hW', trodAll_mk1 (shut_bool Try.underlying4 _), (trodAll_cons_mk (Below.trod laidOut (by kernel_rfl) (of_decide_eq_true (by kernel_rfl)) k0 bel lt0) (trodAll_cons_mk (Below.trod laidOut (by kernel_rfl) (of_decide_eq_true (by kernel_rfl)) k1 bel lt1) (trodAll_cons_mk (Below.trod laidOut (by kernel_rfl) (of_decide_eq_true (by kernel_rfl)) k2 bel lt2) trodAll_mk0))), rfl, bel.frame _, fun h => by cases h⟩
theorem over : Rows.stripePushesRow.holds Try.pinned (OpenSpec.ofChange Rows.stripePushesSpec) :=
  OpenClaim.holds_of_wide 10 Try.f10 rfl rfl rfl rfl rfl rfl rfl ⟨rfl, rfl, rfl, rfl, rfl⟩ rfl rfl rfl rfl rfl (by kernel_rfl) Try.func10 (by kernel_rfl)
    (of_decide_eq_true (by kernel_rfl)) (by unfold Func.isWrapper; first | (rw [if_pos (by decide +kernel)]; kernel_rfl) | (rw [if_neg (by decide +kernel)]; exact ⟨rfl, rfl⟩))
    (fun os started H enc _ => lifted os started H enc)
theorem proved : Rows.StripePushesSaid := over
end Go.Proofs.Ytknhemdpfdopaaa.RowStripePushes
namespace Go.Proofs.Ytknhemdpfdopaaa
/-- The row, under a short name, for the claim. -/
theorem stripePushes_holds : Rows.StripePushesSaid := RowStripePushes.proved
#print axioms stripePushes_holds
end Go.Proofs.Ytknhemdpfdopaaa
