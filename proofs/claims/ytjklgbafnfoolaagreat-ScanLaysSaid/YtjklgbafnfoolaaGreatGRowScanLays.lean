/- The law revetmentlaw12.ScanLays: for every input the call returns true, and each argument reads behind the call as it read before. No condition. -/
import Derived.Test.YtjklgbafnfoolaaGreatGScanLays11
import Derived.Test.YtjklgbafnfoolaaGreatRows
import Derived.WalkKit
import Derived.ProofKit
import Derived.OpenShut
import Derived.ShutString
import Derived.ChangeOld
import Derived.Below
import Derived.SizedLaws
import Derived.Carry
import Derived.ChangeMaps5
namespace Go.Proofs.YtjklgbafnfoolaaGreat.RowScanLays
open Go Go.AM Go.ChangeShapes Go.WideShapes Go.ChangeAt Go.RowKit Go.Proofs.YtjklgbafnfoolaaGreat Go.Proofs.YtjklgbafnfoolaaGreat.AmF
open Go.ChangeMaps (open_string shut_string)
set_option linter.unusedVariables false
theorem own : ownKnob Tryz.prog.godebug = none := by kernel_rfl
theorem laidOut : laidOutB Tryz.prog = true := by kernel_rfl
set_option maxRecDepth 100000 in
set_option maxHeartbeats 1000000 in
theorem lifted (os : Os) (started : os.Started) (H : Type) (enc : TypeId × Value → H) :
    ReturnsInHanded {} Tryz.checked os 3 .any (Rows.scanLaysSpec.pre6 enc Tryz.prog Tryz.f3 Rows.scanLaysRow.domain false) (Rows.scanLaysSpec.post enc Tryz.prog Tryz.f3 false true false false) := by
  refine returnsInHanded_of_change_sized (C := Tryz.checked) own started (by kernel_rfl) Tryz.func3
    (ChangeSpec.witness6 (enc := enc) (C := Tryz.checked) false ⟨#[], #[.agg #[.int .i64 0, .int .i64 0, .int .i64 0, .int .i64 0, .int .i64 0, .int .i64 0, .int .i64 0, .int .i64 0, .int .i64 0, .int .i64 0, .int .i64 0, .int .i64 0, .int .i64 0, .slice none 0 0, .slice none 0 0], .int .i64 0, .agg #[.int .i64 0, .int .i64 0, .int .i64 0, .int .i64 0, .int .i64 0, .int .i64 0, .int .i64 0, .int .i64 0, .int .i64 0, .slice none 0 0]], []⟩ 8 (by kernel_rfl) (by kernel_rfl) (by kernel_rfl) (by kernel_rfl)) ?_
  intro W base args ds gs before hval0 hW hcnd hsz0 _
  have hsz : (DataW.weightsEach Tryz.prog (Tryz.f3.params.toList ++ Rows.scanLaysSpec.plain.varTypes Tryz.prog) (ds ++ gs)).all (· ≤ reachBytes) = true := hsz0
  have hval : ∀ (j : Nat) t v, Tryz.f3.params[j]? = some t → args[j]? = some v → Value.okWide Tryz.prog W .any base t v := hval0
  have hW' := hW
  obtain ⟨p, q, hA0, hV, rfl, hfz, hnd⟩ := hW
  have hA : DataW.TrodAll enc Tryz.prog W 0 (fun _ => true) true Tryz.f3.params.toList args.toList ds p := hA0
  rw [show Tryz.f3.params = #[27, 3, 30] from rfl] at hA hval hsz
  obtain ⟨v0, vs0, d0, ds0, p0, q0, hargs, rfl, rfl, h0, r0⟩ := trodAll_cons hA
  obtain ⟨v1, vs1, d1, ds1, p1, q1, rfl, rfl, rfl, h1, r1⟩ := trodAll_cons r0
  obtain ⟨v2, vs2, d2, ds2, p2, q2, rfl, rfl, rfl, h2, r2⟩ := trodAll_cons r1
  obtain ⟨rfl, rfl, rfl⟩ := trodAll_nil r2
  obtain rfl : args = #[v0, v1, v2] := by cases args; simp_all
  obtain ⟨rfl, rfl⟩ := trodVars_none hV
  obtain ⟨cs0, rfl, _⟩ := okWide_struct Tryz.underlying27 (hval 0 27 v0 rfl rfl)
  have k0 := h0
  have lt0 := lt_of_trod k0
  obtain ⟨a0, e0, wf0⟩ := Opens.at_agg (d := Kd.struct (Kd.pair (Kd.struct (Kd.pair (Kd.int .i64) (Kd.pair (Kd.int .i64) (Kd.pair (Kd.int .i64) (Kd.pair (Kd.int .i64) (Kd.pair (Kd.int .i64) (Kd.pair (Kd.int .i64) (Kd.pair (Kd.int .i64) (Kd.pair (Kd.int .i64) (Kd.pair (Kd.int .i64) (Kd.pair (Kd.int .i64) (Kd.int .i64))))))))))) id) (Kd.pair (Kd.int .i64) (Kd.pair (Kd.int .i64) (Kd.pair (Kd.slice (Kd.int .i64)) (Kd.slice (Kd.struct (Kd.pair (Kd.int .i64) (Kd.pair (Kd.int .i64) (Kd.pair (Kd.bool) (Kd.pair (Kd.int .i64) (Kd.pair (Kd.bool) (Kd.slice (Kd.struct (Kd.pair (Kd.int .i64) (Kd.slice (Kd.int .u8))) id))))))) id)))))) id) (Opens.struct id Tryz.underlying27 (by kernel_rfl) (FOpens.cons (Opens.struct id Tryz.underlying23 (by kernel_rfl) (FOpens.cons (Opens.int Tryz.underlying3) rfl (by kernel_rfl) (FOpens.cons (Opens.int Tryz.underlying3) rfl (by kernel_rfl) (FOpens.cons (Opens.int Tryz.underlying3) rfl (by kernel_rfl) (FOpens.cons (Opens.int Tryz.underlying3) rfl (by kernel_rfl) (FOpens.cons (Opens.int Tryz.underlying3) rfl (by kernel_rfl) (FOpens.cons (Opens.int Tryz.underlying3) rfl (by kernel_rfl) (FOpens.cons (Opens.int Tryz.underlying3) rfl (by kernel_rfl) (FOpens.cons (Opens.int Tryz.underlying3) rfl (by kernel_rfl) (FOpens.cons (Opens.int Tryz.underlying3) rfl (by kernel_rfl) (FOpens.cons (Opens.int Tryz.underlying3) rfl (by kernel_rfl) (FOpens.one (Opens.int Tryz.underlying3) rfl (by kernel_rfl)))))))))))) (fun _ => rfl)) rfl (by kernel_rfl) (FOpens.cons (Opens.int Tryz.underlying3) rfl (by kernel_rfl) (FOpens.cons (Opens.int Tryz.underlying3) rfl (by kernel_rfl) (FOpens.cons (Opens.slice (B := 8) (Opens.int Tryz.underlying3) Tryz.underlying24 (by kernel_rfl) (by decide) (by kernel_rfl)) rfl (by kernel_rfl) (FOpens.one (Opens.slice (B := 64) (Opens.struct id Tryz.underlying55 (by kernel_rfl) (FOpens.cons (Opens.int Tryz.underlying3) rfl (by kernel_rfl) (FOpens.cons (Opens.int Tryz.underlying3) rfl (by kernel_rfl) (FOpens.cons (Opens.bool Tryz.underlying4) rfl (by kernel_rfl) (FOpens.cons (Opens.int Tryz.underlying3) rfl (by kernel_rfl) (FOpens.cons (Opens.bool Tryz.underlying4) rfl (by kernel_rfl) (FOpens.one (Opens.slice (B := 32) (Opens.struct id Tryz.underlying57 (by kernel_rfl) (FOpens.cons (Opens.int Tryz.underlying3) rfl (by kernel_rfl) (FOpens.one (Opens.slice (B := 1) (Opens.int Tryz.underlying5) Tryz.underlying28 (by kernel_rfl) (by decide) (by kernel_rfl)) rfl (by kernel_rfl))) (fun _ => rfl)) Tryz.underlying53 (by kernel_rfl) (by decide) (by kernel_rfl)) rfl (by kernel_rfl))))))) (fun _ => rfl)) Tryz.underlying25 (by kernel_rfl) (by decide) (by kernel_rfl)) rfl (by kernel_rfl)))))) (fun _ => rfl)) (fun _ => rfl) k0 (weights_at hsz (j := 0) (t := 27) rfl rfl)
  obtain ⟨a1, rfl, rfl, rfl, wf1⟩ := open_int Tryz.underlying3 (hval 1 3 v1 rfl rfl) h1
  have e1 : Rel (g0 W) (.v (.int .i64 a1)) (.int .i64 a1) := by simp [Rel]
  obtain ⟨cs2, rfl, _⟩ := okWide_struct Tryz.underlying30 (hval 2 30 v2 rfl rfl)
  have k2 := h2
  have lt2 := lt_of_trod k2
  obtain ⟨a2, e2, wf2⟩ := Opens.at_agg (d := Kd.struct (Kd.pair (Kd.int .i64) (Kd.pair (Kd.int .i64) (Kd.pair (Kd.int .i64) (Kd.pair (Kd.int .i64) (Kd.pair (Kd.int .i64) (Kd.pair (Kd.int .i64) (Kd.pair (Kd.int .i64) (Kd.pair (Kd.int .i64) (Kd.pair (Kd.int .i64) (Kd.slice (Kd.int .u8))))))))))) id) (Opens.struct id Tryz.underlying30 (by kernel_rfl) (FOpens.cons (Opens.int Tryz.underlying3) rfl (by kernel_rfl) (FOpens.cons (Opens.int Tryz.underlying3) rfl (by kernel_rfl) (FOpens.cons (Opens.int Tryz.underlying3) rfl (by kernel_rfl) (FOpens.cons (Opens.int Tryz.underlying3) rfl (by kernel_rfl) (FOpens.cons (Opens.int Tryz.underlying3) rfl (by kernel_rfl) (FOpens.cons (Opens.int Tryz.underlying3) rfl (by kernel_rfl) (FOpens.cons (Opens.int Tryz.underlying3) rfl (by kernel_rfl) (FOpens.cons (Opens.int Tryz.underlying3) rfl (by kernel_rfl) (FOpens.cons (Opens.int Tryz.underlying3) rfl (by kernel_rfl) (FOpens.one (Opens.slice (B := 1) (Opens.int Tryz.underlying5) Tryz.underlying28 (by kernel_rfl) (by decide) (by kernel_rfl)) rfl (by kernel_rfl))))))))))) (fun _ => rfl)) (fun _ => rfl) k2 (weights_at hsz (j := 2) (t := 30) rfl rfl)
  refine (CSpec.law (scanLays_row a0 a1 a2 (by have h := wf0.2.2.2.1.1; simp only [id] at h; omega) (by have h := wf0.2.2.2.2.1; simp only [id] at h; omega) (fun z hz => ⟨by have h := (wf0.2.2.2.2.2 z hz).2.2.2.2.2.1; simp only [id] at h; omega, fun p hp => by have h := ((wf0.2.2.2.2.2 z hz).2.2.2.2.2.2 p hp).2.1; simp only [id] at h; omega⟩) (fun z hz p hp => bytes_of ((wf0.2.2.2.2.2 z hz).2.2.2.2.2.2 p hp).2.2) (bytes_of wf2.2.2.2.2.2.2.2.2.2.2) (by have h := wf2.2.2.2.2.2.2.2.2.2.1; simp only [id] at h; show a2.2.2.2.2.2.2.2.2.2.length ≤ 140737488355328; omega)) (RelL.cons e0 (RelL.cons e1 (RelL.cons e2 RelL.nil)))).mono fun e W' ⟨he, hb⟩ => ?_
  have bel : Below W.heap.size W W' := hb
  subst he
  exact ⟨_, rfl, _, _, _, [], _, [], hW', trodAll_mk1 (shut_bool Tryz.underlying4 _), (trodAll_cons_mk (Below.trod laidOut (by kernel_rfl) (of_decide_eq_true (by kernel_rfl)) k0 bel lt0) (trodAll_cons_mk (shut_int Tryz.underlying3 wf1) (trodAll_cons_mk (Below.trod laidOut (by kernel_rfl) (of_decide_eq_true (by kernel_rfl)) k2 bel lt2) trodAll_mk0))), rfl, bel.frame _, fun h => by cases h⟩
theorem over : Rows.scanLaysRow.holds Tryz.pinned (OpenSpec.ofChange Rows.scanLaysSpec) :=
  OpenClaim.holds_of_wide 3 Tryz.f3 rfl rfl rfl rfl rfl rfl rfl ⟨rfl, rfl, rfl, rfl, rfl⟩ rfl rfl rfl rfl rfl (by kernel_rfl) Tryz.func3 (by kernel_rfl)
    (of_decide_eq_true (by kernel_rfl)) (by unfold Func.isWrapper; first | (rw [if_pos (by decide +kernel)]; kernel_rfl) | (rw [if_neg (by decide +kernel)]; exact ⟨rfl, rfl⟩))
    (fun os started H enc _ => lifted os started H enc)
theorem proved : Rows.ScanLaysSaid := over
end Go.Proofs.YtjklgbafnfoolaaGreat.RowScanLays
namespace Go.Proofs.YtjklgbafnfoolaaGreat
/-- The row, under a short name, for the claim. -/
theorem scanLays_holds : Rows.ScanLaysSaid := RowScanLays.proved
#print axioms scanLays_holds
end Go.Proofs.YtjklgbafnfoolaaGreat
