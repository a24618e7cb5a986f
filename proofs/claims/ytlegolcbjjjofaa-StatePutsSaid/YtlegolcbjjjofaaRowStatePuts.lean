/- The law revetmentlaw11.StatePuts: for every input the call returns true, and each argument reads behind the call as it read before. No condition. -/
import Derived.Test.YtlegolcbjjjofaaRows
import Derived.Test.YtlegolcbjjjofaaAfSputlaw
import Derived.Test.YtlegolcbjjjofaaAmRow
import Derived.WalkKit
import Derived.ProofKit
import Derived.OpenShut
import Derived.ShutString
import Derived.ChangeOld
import Derived.Below
import Derived.SizedLaws
import Derived.Carry
import Derived.ChangeMaps5
namespace Go.Proofs.Ytlegolcbjjjofaa.RowStatePuts
open Go Go.AM Go.ChangeShapes Go.WideShapes Go.ChangeAt Go.RowKit Go.Proofs.Ytlegolcbjjjofaa Go.Proofs.Ytlegolcbjjjofaa.AmF
open Go.ChangeMaps (open_string shut_string)
set_option linter.unusedVariables false
theorem own : ownKnob Try.prog.godebug = none := by kernel_rfl
theorem laidOut : laidOutB Try.prog = true := by kernel_rfl
set_option maxRecDepth 100000 in
set_option maxHeartbeats 1000000 in
theorem lifted (os : Os) (started : os.Started) (H : Type) (enc : TypeId × Value → H) :
    ReturnsInHanded {} Try.checked os 8 .any (Rows.statePutsSpec.pre6 enc Try.prog Try.f8 Rows.statePutsRow.domain false) (Rows.statePutsSpec.post enc Try.prog Try.f8 false true false false) := by
  refine returnsInHanded_of_change_sized (C := Try.checked) own started (by kernel_rfl) Try.func8
    (ChangeSpec.witness6 (enc := enc) (C := Try.checked) false ⟨#[], #[.agg #[.int .i64 0, .int .i64 0, .int .i64 0, .int .i64 0, .int .i64 0, .int .i64 0, .int .i64 0, .int .i64 0, .int .i64 0, .int .i64 0, .int .i64 0, .int .i64 0, .int .i64 0, .slice none 0 0, .slice none 0 0], .agg #[.int .i64 0, .int .i64 0, .int .i64 0, .int .i64 0, .int .i64 0, .int .i64 0, .int .i64 0, .int .i64 0, .int .i64 0, .int .i64 0, .int .i64 0, .int .i64 0, .int .i64 0, .slice none 0 0, .slice none 0 0]], []⟩ 8 (by kernel_rfl) (by kernel_rfl) (by kernel_rfl) (by kernel_rfl)) ?_
  intro W base args ds gs before hval0 hW hcnd hsz0 _
  have hsz : (DataW.weightsEach Try.prog (Try.f8.params.toList ++ Rows.statePutsSpec.plain.varTypes Try.prog) (ds ++ gs)).all (· ≤ reachBytes) = true := hsz0
  have hval : ∀ (j : Nat) t v, Try.f8.params[j]? = some t → args[j]? = some v → Value.okWide Try.prog W .any base t v := hval0
  have hW' := hW
  obtain ⟨p, q, hA0, hV, rfl, hfz, hnd⟩ := hW
  have hA : DataW.TrodAll enc Try.prog W 0 (fun _ => true) true Try.f8.params.toList args.toList ds p := hA0
  rw [show Try.f8.params = #[51, 51] from rfl] at hA hval hsz
  obtain ⟨v0, vs0, d0, ds0, p0, q0, hargs, rfl, rfl, h0, r0⟩ := trodAll_cons hA
  obtain ⟨v1, vs1, d1, ds1, p1, q1, rfl, rfl, rfl, h1, r1⟩ := trodAll_cons r0
  obtain ⟨rfl, rfl, rfl⟩ := trodAll_nil r1
  obtain rfl : args = #[v0, v1] := by cases args; simp_all
  obtain ⟨rfl, rfl⟩ := trodVars_none hV
  obtain ⟨cs0, rfl, _⟩ := okWide_struct Try.underlying51 (hval 0 51 v0 rfl rfl)
  have k0 := h0
  have lt0 := lt_of_trod k0
  obtain ⟨a0, e0, wf0⟩ := Opens.at_agg (d := Kd.struct (Kd.pair (Kd.struct (Kd.pair (Kd.int .i64) (Kd.pair (Kd.int .i64) (Kd.pair (Kd.int .i64) (Kd.pair (Kd.int .i64) (Kd.pair (Kd.int .i64) (Kd.pair (Kd.int .i64) (Kd.pair (Kd.int .i64) (Kd.pair (Kd.int .i64) (Kd.pair (Kd.int .i64) (Kd.pair (Kd.int .i64) (Kd.int .i64))))))))))) id) (Kd.pair (Kd.int .i64) (Kd.pair (Kd.int .i64) (Kd.pair (Kd.slice (Kd.int .i64)) (Kd.slice (Kd.struct (Kd.pair (Kd.int .i64) (Kd.pair (Kd.int .i64) (Kd.pair (Kd.bool) (Kd.pair (Kd.int .i64) (Kd.pair (Kd.bool) (Kd.slice (Kd.struct (Kd.pair (Kd.int .i64) (Kd.slice (Kd.int .u8))) id))))))) id)))))) id) (Opens.struct id Try.underlying51 (by kernel_rfl) (FOpens.cons (Opens.struct id Try.underlying47 (by kernel_rfl) (FOpens.cons (Opens.int Try.underlying3) rfl (by kernel_rfl) (FOpens.cons (Opens.int Try.underlying3) rfl (by kernel_rfl) (FOpens.cons (Opens.int Try.underlying3) rfl (by kernel_rfl) (FOpens.cons (Opens.int Try.underlying3) rfl (by kernel_rfl) (FOpens.cons (Opens.int Try.underlying3) rfl (by kernel_rfl) (FOpens.cons (Opens.int Try.underlying3) rfl (by kernel_rfl) (FOpens.cons (Opens.int Try.underlying3) rfl (by kernel_rfl) (FOpens.cons (Opens.int Try.underlying3) rfl (by kernel_rfl) (FOpens.cons (Opens.int Try.underlying3) rfl (by kernel_rfl) (FOpens.cons (Opens.int Try.underlying3) rfl (by kernel_rfl) (FOpens.one (Opens.int Try.underlying3) rfl (by kernel_rfl)))))))))))) (fun _ => rfl)) rfl (by kernel_rfl) (FOpens.cons (Opens.int Try.underlying3) rfl (by kernel_rfl) (FOpens.cons (Opens.int Try.underlying3) rfl (by kernel_rfl) (FOpens.cons (Opens.slice (B := 8) (Opens.int Try.underlying3) Try.underlying48 (by kernel_rfl) (by decide) (by kernel_rfl)) rfl (by kernel_rfl) (FOpens.one (Opens.slice (B := 64) (Opens.struct id Try.underlying68 (by kernel_rfl) (FOpens.cons (Opens.int Try.underlying3) rfl (by kernel_rfl) (FOpens.cons (Opens.int Try.underlying3) rfl (by kernel_rfl) (FOpens.cons (Opens.bool Try.underlying4) rfl (by kernel_rfl) (FOpens.cons (Opens.int Try.underlying3) rfl (by kernel_rfl) (FOpens.cons (Opens.bool Try.underlying4) rfl (by kernel_rfl) (FOpens.one (Opens.slice (B := 32) (Opens.struct id Try.underlying97 (by kernel_rfl) (FOpens.cons (Opens.int Try.underlying3) rfl (by kernel_rfl) (FOpens.one (Opens.slice (B := 1) (Opens.int Try.underlying5) Try.underlying30 (by kernel_rfl) (by decide) (by kernel_rfl)) rfl (by kernel_rfl))) (fun _ => rfl)) Try.underlying66 (by kernel_rfl) (by decide) (by kernel_rfl)) rfl (by kernel_rfl))))))) (fun _ => rfl)) Try.underlying49 (by kernel_rfl) (by decide) (by kernel_rfl)) rfl (by kernel_rfl)))))) (fun _ => rfl)) (fun _ => rfl) k0 (weights_at hsz (j := 0) (t := 51) rfl rfl)
  obtain ⟨cs1, rfl, _⟩ := okWide_struct Try.underlying51 (hval 1 51 v1 rfl rfl)
  have k1 := h1
  have lt1 := lt_of_trod k1
  obtain ⟨a1, e1, wf1⟩ := Opens.at_agg (d := Kd.struct (Kd.pair (Kd.struct (Kd.pair (Kd.int .i64) (Kd.pair (Kd.int .i64) (Kd.pair (Kd.int .i64) (Kd.pair (Kd.int .i64) (Kd.pair (Kd.int .i64) (Kd.pair (Kd.int .i64) (Kd.pair (Kd.int .i64) (Kd.pair (Kd.int .i64) (Kd.pair (Kd.int .i64) (Kd.pair (Kd.int .i64) (Kd.int .i64))))))))))) id) (Kd.pair (Kd.int .i64) (Kd.pair (Kd.int .i64) (Kd.pair (Kd.slice (Kd.int .i64)) (Kd.slice (Kd.struct (Kd.pair (Kd.int .i64) (Kd.pair (Kd.int .i64) (Kd.pair (Kd.bool) (Kd.pair (Kd.int .i64) (Kd.pair (Kd.bool) (Kd.slice (Kd.struct (Kd.pair (Kd.int .i64) (Kd.slice (Kd.int .u8))) id))))))) id)))))) id) (Opens.struct id Try.underlying51 (by kernel_rfl) (FOpens.cons (Opens.struct id Try.underlying47 (by kernel_rfl) (FOpens.cons (Opens.int Try.underlying3) rfl (by kernel_rfl) (FOpens.cons (Opens.int Try.underlying3) rfl (by kernel_rfl) (FOpens.cons (Opens.int Try.underlying3) rfl (by kernel_rfl) (FOpens.cons (Opens.int Try.underlying3) rfl (by kernel_rfl) (FOpens.cons (Opens.int Try.underlying3) rfl (by kernel_rfl) (FOpens.cons (Opens.int Try.underlying3) rfl (by kernel_rfl) (FOpens.cons (Opens.int Try.underlying3) rfl (by kernel_rfl) (FOpens.cons (Opens.int Try.underlying3) rfl (by kernel_rfl) (FOpens.cons (Opens.int Try.underlying3) rfl (by kernel_rfl) (FOpens.cons (Opens.int Try.underlying3) rfl (by kernel_rfl) (FOpens.one (Opens.int Try.underlying3) rfl (by kernel_rfl)))))))))))) (fun _ => rfl)) rfl (by kernel_rfl) (FOpens.cons (Opens.int Try.underlying3) rfl (by kernel_rfl) (FOpens.cons (Opens.int Try.underlying3) rfl (by kernel_rfl) (FOpens.cons (Opens.slice (B := 8) (Opens.int Try.underlying3) Try.underlying48 (by kernel_rfl) (by decide) (by kernel_rfl)) rfl (by kernel_rfl) (FOpens.one (Opens.slice (B := 64) (Opens.struct id Try.underlying68 (by kernel_rfl) (FOpens.cons (Opens.int Try.underlying3) rfl (by kernel_rfl) (FOpens.cons (Opens.int Try.underlying3) rfl (by kernel_rfl) (FOpens.cons (Opens.bool Try.underlying4) rfl (by kernel_rfl) (FOpens.cons (Opens.int Try.underlying3) rfl (by kernel_rfl) (FOpens.cons (Opens.bool Try.underlying4) rfl (by kernel_rfl) (FOpens.one (Opens.slice (B := 32) (Opens.struct id Try.underlying97 (by kernel_rfl) (FOpens.cons (Opens.int Try.underlying3) rfl (by kernel_rfl) (FOpens.one (Opens.slice (B := 1) (Opens.int Try.underlying5) Try.underlying30 (by kernel_rfl) (by decide) (by kernel_rfl)) rfl (by kernel_rfl))) (fun _ => rfl)) Try.underlying66 (by kernel_rfl) (by decide) (by kernel_rfl)) rfl (by kernel_rfl))))))) (fun _ => rfl)) Try.underlying49 (by kernel_rfl) (by decide) (by kernel_rfl)) rfl (by kernel_rfl)))))) (fun _ => rfl)) (fun _ => rfl) k1 (weights_at hsz (j := 1) (t := 51) rfl rfl)
  refine (CSpec.law (statePuts_row a0 a1 (by have h := wf0.2.2.2.1.1; simp only [id] at h; omega) (by have h := wf0.2.2.2.2.1; simp only [id] at h; omega) (fun z hz => ⟨by have h := (wf0.2.2.2.2.2 z hz).2.2.2.2.2.1; simp only [id] at h; omega, fun p hp => by have h := ((wf0.2.2.2.2.2 z hz).2.2.2.2.2.2 p hp).2.1; simp only [id] at h; omega⟩) (fun z hz p hp => bytes_of ((wf0.2.2.2.2.2 z hz).2.2.2.2.2.2 p hp).2.2) (by have h := wf1.2.2.2.1.1; simp only [id] at h; omega) (by have h := wf1.2.2.2.2.1; simp only [id] at h; omega) (fun z hz => ⟨by have h := (wf1.2.2.2.2.2 z hz).2.2.2.2.2.1; simp only [id] at h; omega, fun p hp => by have h := ((wf1.2.2.2.2.2 z hz).2.2.2.2.2.2 p hp).2.1; simp only [id] at h; omega⟩)) (RelL.cons e0 (RelL.cons e1 RelL.nil))).mono fun e W' ⟨he, hb⟩ => ?_
  have bel : Below W.heap.size W W' := hb
  subst he
  exact ⟨_, rfl, _, _, _, [], _, [], hW', trodAll_mk1 (shut_bool Try.underlying4 _), (trodAll_cons_mk (Below.trod laidOut (by kernel_rfl) (of_decide_eq_true (by kernel_rfl)) k0 bel lt0) (trodAll_cons_mk (Below.trod laidOut (by kernel_rfl) (of_decide_eq_true (by kernel_rfl)) k1 bel lt1) trodAll_mk0)), rfl, bel.frame _, fun h => by cases h⟩
theorem over : Rows.statePutsRow.holds Try.pinned (OpenSpec.ofChange Rows.statePutsSpec) :=
  OpenClaim.holds_of_wide 8 Try.f8 rfl rfl rfl rfl rfl rfl rfl ⟨rfl, rfl, rfl, rfl, rfl⟩ rfl rfl rfl rfl rfl (by kernel_rfl) Try.func8 (by kernel_rfl)
    (of_decide_eq_true (by kernel_rfl)) (by unfold Func.isWrapper; first | (rw [if_pos (by decide +kernel)]; kernel_rfl) | (rw [if_neg (by decide +kernel)]; exact ⟨rfl, rfl⟩))
    (fun os started H enc _ => lifted os started H enc)
theorem proved : Rows.StatePutsSaid := over
end Go.Proofs.Ytlegolcbjjjofaa.RowStatePuts
namespace Go.Proofs.Ytlegolcbjjjofaa
/-- The row, under a short name, for the claim. -/
theorem statePuts_holds : Rows.StatePutsSaid := RowStatePuts.proved
#print axioms statePuts_holds
end Go.Proofs.Ytlegolcbjjjofaa
