/- The law revetmentlaw05.ZdevNils: for every input the call returns true, and each argument reads behind the call as it read before. No condition. -/
import Derived.Test.YtlegolcbjjjofaaRows
import Derived.Test.YtlegolcbjjjofaaAfZdev10
import Derived.Test.YtlegolcbjjjofaaAmRow
import Derived.WalkKit
import Derived.ProofKit
import Derived.OpenShut
import Derived.ShutString
import Derived.ChangeOld
import Derived.Below
import Derived.SizedLaws
import Derived.Carry
import Derived.ChangeMaps5
namespace Go.Proofs.Ytlegolcbjjjofaa.RowZdevNils
open Go Go.AM Go.ChangeShapes Go.WideShapes Go.ChangeAt Go.RowKit Go.Proofs.Ytlegolcbjjjofaa Go.Proofs.Ytlegolcbjjjofaa.AmF
open Go.ChangeMaps (open_string shut_string)
set_option linter.unusedVariables false
theorem own : ownKnob Try.prog.godebug = none := by kernel_rfl
theorem laidOut : laidOutB Try.prog = true := by kernel_rfl
set_option maxRecDepth 100000 in
set_option maxHeartbeats 1000000 in
theorem lifted (os : Os) (started : os.Started) (H : Type) (enc : TypeId × Value → H) :
    ReturnsInHanded {} Try.checked os 4 .any (Rows.zdevNilsSpec.pre6 enc Try.prog Try.f4 Rows.zdevNilsRow.domain false) (Rows.zdevNilsSpec.post enc Try.prog Try.f4 false true false false) := by
  refine returnsInHanded_of_change_sized (C := Try.checked) own started (by kernel_rfl) Try.func4
    (ChangeSpec.witness6 (enc := enc) (C := Try.checked) false ⟨#[], #[.int .i64 0, .slice none 0 0], []⟩ 8 (by kernel_rfl) (by kernel_rfl) (by kernel_rfl) (by kernel_rfl)) ?_
  intro W base args ds gs before hval0 hW hcnd hsz0 _
  have hsz : (DataW.weightsEach Try.prog (Try.f4.params.toList ++ Rows.zdevNilsSpec.plain.varTypes Try.prog) (ds ++ gs)).all (· ≤ reachBytes) = true := hsz0
  have hval : ∀ (j : Nat) t v, Try.f4.params[j]? = some t → args[j]? = some v → Value.okWide Try.prog W .any base t v := hval0
  have hW' := hW
  obtain ⟨p, q, hA0, hV, rfl, hfz, hnd⟩ := hW
  have hA : DataW.TrodAll enc Try.prog W 0 (fun _ => true) true Try.f4.params.toList args.toList ds p := hA0
  rw [show Try.f4.params = #[3, 30] from rfl] at hA hval hsz
  obtain ⟨v0, vs0, d0, ds0, p0, q0, hargs, rfl, rfl, h0, r0⟩ := trodAll_cons hA
  obtain ⟨v1, vs1, d1, ds1, p1, q1, rfl, rfl, rfl, h1, r1⟩ := trodAll_cons r0
  obtain ⟨rfl, rfl, rfl⟩ := trodAll_nil r1
  obtain rfl : args = #[v0, v1] := by cases args; simp_all
  obtain ⟨rfl, rfl⟩ := trodVars_none hV
  obtain ⟨a0, rfl, rfl, rfl, wf0⟩ := open_int Try.underlying3 (hval 0 3 v0 rfl rfl) h0
  have e0 : Rel (g0 W) (.v (.int .i64 a0)) (.int .i64 a0) := by simp [Rel]
  obtain ⟨A1, len1, c1, rfl⟩ := okWide_slice Try.underlying30 (hval 1 30 v1 rfl rfl)
  have k1 := h1
  have lt1 := lt_of_trod k1
  obtain ⟨a1, e1, wf1⟩ := Opens.at_one (d := Kd.slice (Kd.int .u8)) (Opens.slice (B := 1) (Opens.int Try.underlying5) Try.underlying30 (by kernel_rfl) (by decide) (by kernel_rfl)) rfl (fun _ => rfl) k1 (weights_at hsz (j := 1) (t := 30) rfl rfl)
  refine (CSpec.law (zdevNils_ok a0 a1) (RelL.cons e0 (RelL.cons e1 RelL.nil))).mono fun e W' ⟨he, hb⟩ => ?_
  have bel : Below W.heap.size W W' := hb
  subst he
  exact ⟨_, rfl, _, _, _, [], _, [], hW', trodAll_mk1 (shut_bool Try.underlying4 _), (trodAll_cons_mk (shut_int Try.underlying3 wf0) (trodAll_cons_mk (Below.trod laidOut (by kernel_rfl) (of_decide_eq_true (by kernel_rfl)) k1 bel lt1) trodAll_mk0)), rfl, bel.frame _, fun h => by cases h⟩
theorem over : Rows.zdevNilsRow.holds Try.pinned (OpenSpec.ofChange Rows.zdevNilsSpec) :=
  OpenClaim.holds_of_wide 4 Try.f4 rfl rfl rfl rfl rfl rfl rfl ⟨rfl, rfl, rfl, rfl, rfl⟩ rfl rfl rfl rfl rfl (by kernel_rfl) Try.func4 (by kernel_rfl)
    (of_decide_eq_true (by kernel_rfl)) (by unfold Func.isWrapper; first | (rw [if_pos (by decide +kernel)]; kernel_rfl) | (rw [if_neg (by decide +kernel)]; exact ⟨rfl, rfl⟩))
    (fun os started H enc _ => lifted os started H enc)
theorem proved : Rows.ZdevNilsSaid := over
end Go.Proofs.Ytlegolcbjjjofaa.RowZdevNils
namespace Go.Proofs.Ytlegolcbjjjofaa
/-- The row, under a short name, for the claim. -/
theorem zdevNils_holds : Rows.ZdevNilsSaid := RowZdevNils.proved
#print axioms zdevNils_holds
end Go.Proofs.Ytlegolcbjjjofaa
