/- Walks over the abstract machine: a member: what it is, and what is counted. -/
import Derived.Test.YtlegolcbjjjofaaAfZdev1
namespace Go.Proofs.Ytlegolcbjjjofaa.AmF
open Go Go.AM
set_option maxRecDepth 100000
set_option maxHeartbeats 4000000
set_option linter.unusedSimpArgs false
set_option linter.unusedVariables false
attribute [local simp] tkeep tget tput ev cav argsTM pickA normT putA splice AV.cells ints_length rowsA_length Zqs_len
/-- A member. -/
structure Dv where
  zs : List Zq
  lim : Int
  dead : Bool
  bad : Int
def DvB (d : Dv) (p : Nat) : Blk := ⟨4, true, [.agg [.sl p 0 d.zs.length, .int d.lim, .b d.dead, .int d.bad]]⟩
theorem DvB_ren {ρ : Nat → Option Nat} {p q : Nat} (hρ : ρ p = some q) (d : Dv) : some (Blk.ren ρ (DvB d p)) = some (DvB d q) := by simp [DvB, Blk.ren, renL, AV.ren, hρ]
def ZqsB (l : List Zq) : Blk := ⟨5, true, Zqs l⟩
theorem ZqsB_ren (ρ : Nat → Option Nat) (l : List Zq) : some (Blk.ren ρ (ZqsB l)) = some (ZqsB l) := by simp [ZqsB, Blk.ren, Zqs_ren]
def ErB (e : Int) : Blk := ⟨1, true, [.int e]⟩
theorem ErB_ren (ρ : Nat → Option Nat) (e : Int) : some (Blk.ren ρ (ErB e)) = some (ErB e) := by simp [ErB, Blk.ren, renL, AV.ren]
theorem hp3 {a a' b b' c c' : Option Blk} (h1 : a = a') (h2 : b = b') (h3 : c = c') : [a, b, c] = [a', b', c'] := by subst h1 h2 h3; rfl
theorem hp2 {a a' b b' : Option Blk} (h1 : a = a') (h2 : b = b') : [a, b] = [a', b'] := by subst h1 h2; rfl
theorem srcq3 : ∀ j, j < 3 → [0, 1, 2][j]? = some j := by decide
theorem srcq2 : ∀ j, j < 2 → [0, 1][j]? = some j := by decide
theorem srcq1 : ∀ j, j < 1 → [0][j]? = some j := by decide
/-- What may not be. -/
def badE (e : Int) : Prop := e = 2 ∨ e = 3 ∨ e = 6 ∨ e = 4 ∨ e = 8
instance (e : Int) : Decidable (badE e) := by unfold badE; infer_instance
def cntE (d : Dv) (e : Int) : Dv := if badE e then { d with bad := d.bad + 1 } else d
theorem cntE_y {d : Dv} {e : Int} (h : badE e) : cntE d e = { d with bad := d.bad + 1 } := if_pos h
theorem cntE_n {d : Dv} {e : Int} (h : ¬ badE e) : cntE d e = d := if_neg h
theorem cnt_ok (d : Dv) (e : Int) (hb : 0 ≤ d.bad ∧ d.bad ≤ 1000000) : DSpec Try.prog 47 [DvB d 1, ZqsB d.zs, ErB e] [.ref 0 0 0, .ref 2 0 0] [some (DvB (cntE d e) 1), some (ZqsB d.zs), some (ErB e)] := by
 refine DSpec.body Try.func47 rfl rfl rfl rfl rfl fun Q hQ => ?_
 refine T.seq fun K1 hK1 => ?_
 refine T.seq fun K2 hK2 => ?_
 refine T.region ?_
 refine rs rfl rfl (ok_move (.inl rfl)) ?_
 refine rs rfl rfl (OpOk.bool (d := false) (ok_binOp rfl ti_Pzdev_Dev rfl) (rfl)) ?_
 refine ro_nil ?_
 refine keepK hK2 [0, 1, 5] (by dsimp) (by dsimp) ?_
 refine T.cond_false rfl ?_
 refine T.skip ?_
 refine keepK hK1 [0, 1] (by dsimp) (by dsimp) ?_
 refine T.seq fun K3 hK3 => ?_
 refine T.region ?_
 refine rs rfl rfl (ok_move (.inl rfl)) ?_
 refine rs rfl rfl (ok_nilCheck rfl rfl) ?_
 refine rs rfl rfl (ok_load rfl ti_api_Errno rfl rfl) ?_
 refine ro_nil ?_
 refine keepK hK3 [0, 8] (by dsimp) (by dsimp) ?_
 refine T.block ?_
 refine T.seq fun K4 hK4 => ?_
 refine T.seq fun K5 hK5 => ?_
 refine T.region ?_
 refine rs rfl rfl (ok_binOp rfl ti_api_Errno rfl) ?_
 refine rs rfl rfl (ok_move (.inr rfl)) ?_
 refine ro_nil ?_
 refine keepK hK5 [0, 8, 9] (by dsimp) (by dsimp) ?_
 refine T.cond rfl (fun hc => ?_) (fun hc => ?_) -- cond 1
 ·(try simp only [dE] at hc)
  refine T.skip ?_
  refine keepK hK4 [0, 9] (by dsimp) (by dsimp) ?_
  refine T.cond rfl (fun hc => ?_) (fun hc => ?_) -- cond 2
  ·(try simp only [dE] at hc)
   refine T.region ?_
   refine rs rfl rfl (ok_move (.inl rfl)) ?_
   refine rs rfl rfl (ok_nilCheck rfl rfl) ?_
   refine rs rfl rfl (ok_fieldAddr rfl ti_zdev_Dev rfl rfl ti_int (by decide) rfl) ?_
   refine rs rfl rfl (ok_load rfl ti_int rfl rfl) ?_
   refine rs rfl rfl (ok_add64 rfl ti_int rfl rfl (by omega) (by omega)) ?_
   refine rs rfl rfl (ok_nilCheck rfl rfl) ?_
   refine rs rfl rfl (ok_fieldAddr rfl ti_zdev_Dev rfl rfl ti_int (by decide) rfl) ?_
   refine rs rfl rfl ((ok_store rfl ti_int (by decide) rfl rfl rfl rfl rfl (by first | exact Nat.le_of_ble_eq_true rfl | simp) (by first | exact .inl ⟨rfl, rfl⟩ | exact .inr rfl)).eq (x' := .any) (H'' := [some (DvB { d with bad := d.bad + 1 } 1), some (ZqsB d.zs), some (ErB e)]) rfl rfl) ?_
   refine ro_nil ?_
   exact (hQ _ _ _ rfl (by first | (rw [cntE_y (d := d) (e := e) (by unfold badE; omega)]; exact TEnt.fin [0, 1, 2] (by decide) srcq3 (hp3 (DvB_ren (by decide) _) (ZqsB_ren _ _) (ErB_ren _ _)) ⟨rfl, trivial⟩) | (rw [cntE_n (d := d) (e := e) (by unfold badE; omega)]; exact TEnt.fin [0, 1, 2] (by decide) srcq3 (hp3 (DvB_ren (by decide) _) (ZqsB_ren _ _) (ErB_ren _ _)) ⟨rfl, trivial⟩))).2 -- end
  ·(try simp only [dE] at hc)
   refine T.skip ?_
   exact (hQ _ _ _ rfl (by first | (rw [cntE_y (d := d) (e := e) (by unfold badE; omega)]; exact TEnt.fin [0, 1, 2] (by decide) srcq3 (hp3 (DvB_ren (by decide) _) (ZqsB_ren _ _) (ErB_ren _ _)) ⟨rfl, trivial⟩) | (rw [cntE_n (d := d) (e := e) (by unfold badE; omega)]; exact TEnt.fin [0, 1, 2] (by decide) srcq3 (hp3 (DvB_ren (by decide) _) (ZqsB_ren _ _) (ErB_ren _ _)) ⟨rfl, trivial⟩))).2 -- end
 ·(try simp only [dE] at hc)
  refine T.seq fun K6 hK6 => ?_
  refine T.region ?_
  refine rs rfl rfl (ok_binOp rfl ti_api_Errno rfl) ?_
  refine rs rfl rfl (ok_move (.inr rfl)) ?_
  refine ro_nil ?_
  refine keepK hK6 [0, 8, 9] (by dsimp) (by dsimp) ?_
  refine T.cond rfl (fun hc => ?_) (fun hc => ?_) -- cond 3
  ·(try simp only [dE] at hc)
   refine T.skip ?_
   refine keepK hK4 [0, 9] (by dsimp) (by dsimp) ?_
   refine T.cond rfl (fun hc => ?_) (fun hc => ?_) -- cond 4
   ·(try simp only [dE] at hc)
    refine T.region ?_
    refine rs rfl rfl (ok_move (.inl rfl)) ?_
    refine rs rfl rfl (ok_nilCheck rfl rfl) ?_
    refine rs rfl rfl (ok_fieldAddr rfl ti_zdev_Dev rfl rfl ti_int (by decide) rfl) ?_
    refine rs rfl rfl (ok_load rfl ti_int rfl rfl) ?_
    refine rs rfl rfl (ok_add64 rfl ti_int rfl rfl (by omega) (by omega)) ?_
    refine rs rfl rfl (ok_nilCheck rfl rfl) ?_
    refine rs rfl rfl (ok_fieldAddr rfl ti_zdev_Dev rfl rfl ti_int (by decide) rfl) ?_
    refine rs rfl rfl ((ok_store rfl ti_int (by decide) rfl rfl rfl rfl rfl (by first | exact Nat.le_of_ble_eq_true rfl | simp) (by first | exact .inl ⟨rfl, rfl⟩ | exact .inr rfl)).eq (x' := .any) (H'' := [some (DvB { d with bad := d.bad + 1 } 1), some (ZqsB d.zs), some (ErB e)]) rfl rfl) ?_
    refine ro_nil ?_
    exact (hQ _ _ _ rfl (by first | (rw [cntE_y (d := d) (e := e) (by unfold badE; omega)]; exact TEnt.fin [0, 1, 2] (by decide) srcq3 (hp3 (DvB_ren (by decide) _) (ZqsB_ren _ _) (ErB_ren _ _)) ⟨rfl, trivial⟩) | (rw [cntE_n (d := d) (e := e) (by unfold badE; omega)]; exact TEnt.fin [0, 1, 2] (by decide) srcq3 (hp3 (DvB_ren (by decide) _) (ZqsB_ren _ _) (ErB_ren _ _)) ⟨rfl, trivial⟩))).2 -- end
   ·(try simp only [dE] at hc)
    refine T.skip ?_
    exact (hQ _ _ _ rfl (by first | (rw [cntE_y (d := d) (e := e) (by unfold badE; omega)]; exact TEnt.fin [0, 1, 2] (by decide) srcq3 (hp3 (DvB_ren (by decide) _) (ZqsB_ren _ _) (ErB_ren _ _)) ⟨rfl, trivial⟩) | (rw [cntE_n (d := d) (e := e) (by unfold badE; omega)]; exact TEnt.fin [0, 1, 2] (by decide) srcq3 (hp3 (DvB_ren (by decide) _) (ZqsB_ren _ _) (ErB_ren _ _)) ⟨rfl, trivial⟩))).2 -- end
  ·(try simp only [dE] at hc)
   refine T.seq fun K7 hK7 => ?_
   refine T.region ?_
   refine rs rfl rfl (ok_binOp rfl ti_api_Errno rfl) ?_
   refine rs rfl rfl (ok_move (.inr rfl)) ?_
   refine ro_nil ?_
   refine keepK hK7 [0, 8, 9] (by dsimp) (by dsimp) ?_
   refine T.cond rfl (fun hc => ?_) (fun hc => ?_) -- cond 5
   ·(try simp only [dE] at hc)
    refine T.skip ?_
    refine keepK hK4 [0, 9] (by dsimp) (by dsimp) ?_
    refine T.cond rfl (fun hc => ?_) (fun hc => ?_) -- cond 6
    ·(try simp only [dE] at hc)
     refine T.region ?_
     refine rs rfl rfl (ok_move (.inl rfl)) ?_
     refine rs rfl rfl (ok_nilCheck rfl rfl) ?_
     refine rs rfl rfl (ok_fieldAddr rfl ti_zdev_Dev rfl rfl ti_int (by decide) rfl) ?_
     refine rs rfl rfl (ok_load rfl ti_int rfl rfl) ?_
     refine rs rfl rfl (ok_add64 rfl ti_int rfl rfl (by omega) (by omega)) ?_
     refine rs rfl rfl (ok_nilCheck rfl rfl) ?_
     refine rs rfl rfl (ok_fieldAddr rfl ti_zdev_Dev rfl rfl ti_int (by decide) rfl) ?_
     refine rs rfl rfl ((ok_store rfl ti_int (by decide) rfl rfl rfl rfl rfl (by first | exact Nat.le_of_ble_eq_true rfl | simp) (by first | exact .inl ⟨rfl, rfl⟩ | exact .inr rfl)).eq (x' := .any) (H'' := [some (DvB { d with bad := d.bad + 1 } 1), some (ZqsB d.zs), some (ErB e)]) rfl rfl) ?_
     refine ro_nil ?_
     exact (hQ _ _ _ rfl (by first | (rw [cntE_y (d := d) (e := e) (by unfold badE; omega)]; exact TEnt.fin [0, 1, 2] (by decide) srcq3 (hp3 (DvB_ren (by decide) _) (ZqsB_ren _ _) (ErB_ren _ _)) ⟨rfl, trivial⟩) | (rw [cntE_n (d := d) (e := e) (by unfold badE; omega)]; exact TEnt.fin [0, 1, 2] (by decide) srcq3 (hp3 (DvB_ren (by decide) _) (ZqsB_ren _ _) (ErB_ren _ _)) ⟨rfl, trivial⟩))).2 -- end
    ·(try simp only [dE] at hc)
     refine T.skip ?_
     exact (hQ _ _ _ rfl (by first | (rw [cntE_y (d := d) (e := e) (by unfold badE; omega)]; exact TEnt.fin [0, 1, 2] (by decide) srcq3 (hp3 (DvB_ren (by decide) _) (ZqsB_ren _ _) (ErB_ren _ _)) ⟨rfl, trivial⟩) | (rw [cntE_n (d := d) (e := e) (by unfold badE; omega)]; exact TEnt.fin [0, 1, 2] (by decide) srcq3 (hp3 (DvB_ren (by decide) _) (ZqsB_ren _ _) (ErB_ren _ _)) ⟨rfl, trivial⟩))).2 -- end
   ·(try simp only [dE] at hc)
    refine T.seq fun K8 hK8 => ?_
    refine T.region ?_
    refine rs rfl rfl (ok_binOp rfl ti_api_Errno rfl) ?_
    refine rs rfl rfl (ok_move (.inr rfl)) ?_
    refine ro_nil ?_
    refine keepK hK8 [0, 8, 9] (by dsimp) (by dsimp) ?_
    refine T.cond rfl (fun hc => ?_) (fun hc => ?_) -- cond 7
    ·(try simp only [dE] at hc)
     refine T.skip ?_
     refine keepK hK4 [0, 9] (by dsimp) (by dsimp) ?_
     refine T.cond rfl (fun hc => ?_) (fun hc => ?_) -- cond 8
     ·(try simp only [dE] at hc)
      refine T.region ?_
      refine rs rfl rfl (ok_move (.inl rfl)) ?_
      refine rs rfl rfl (ok_nilCheck rfl rfl) ?_
      refine rs rfl rfl (ok_fieldAddr rfl ti_zdev_Dev rfl rfl ti_int (by decide) rfl) ?_
      refine rs rfl rfl (ok_load rfl ti_int rfl rfl) ?_
      refine rs rfl rfl (ok_add64 rfl ti_int rfl rfl (by omega) (by omega)) ?_
      refine rs rfl rfl (ok_nilCheck rfl rfl) ?_
      refine rs rfl rfl (ok_fieldAddr rfl ti_zdev_Dev rfl rfl ti_int (by decide) rfl) ?_
      refine rs rfl rfl ((ok_store rfl ti_int (by decide) rfl rfl rfl rfl rfl (by first | exact Nat.le_of_ble_eq_true rfl | simp) (by first | exact .inl ⟨rfl, rfl⟩ | exact .inr rfl)).eq (x' := .any) (H'' := [some (DvB { d with bad := d.bad + 1 } 1), some (ZqsB d.zs), some (ErB e)]) rfl rfl) ?_
      refine ro_nil ?_
      exact (hQ _ _ _ rfl (by first | (rw [cntE_y (d := d) (e := e) (by unfold badE; omega)]; exact TEnt.fin [0, 1, 2] (by decide) srcq3 (hp3 (DvB_ren (by decide) _) (ZqsB_ren _ _) (ErB_ren _ _)) ⟨rfl, trivial⟩) | (rw [cntE_n (d := d) (e := e) (by unfold badE; omega)]; exact TEnt.fin [0, 1, 2] (by decide) srcq3 (hp3 (DvB_ren (by decide) _) (ZqsB_ren _ _) (ErB_ren _ _)) ⟨rfl, trivial⟩))).2 -- end
     ·(try simp only [dE] at hc)
      refine T.skip ?_
      exact (hQ _ _ _ rfl (by first | (rw [cntE_y (d := d) (e := e) (by unfold badE; omega)]; exact TEnt.fin [0, 1, 2] (by decide) srcq3 (hp3 (DvB_ren (by decide) _) (ZqsB_ren _ _) (ErB_ren _ _)) ⟨rfl, trivial⟩) | (rw [cntE_n (d := d) (e := e) (by unfold badE; omega)]; exact TEnt.fin [0, 1, 2] (by decide) srcq3 (hp3 (DvB_ren (by decide) _) (ZqsB_ren _ _) (ErB_ren _ _)) ⟨rfl, trivial⟩))).2 -- end
    ·(try simp only [dE] at hc)
     refine T.region ?_
     refine rs rfl rfl (ok_binOp rfl ti_api_Errno rfl) ?_
     refine rs rfl rfl (ok_move (.inr rfl)) ?_
     refine ro_nil ?_
     refine keepK hK4 [0, 9] (by dsimp) (by dsimp) ?_
     refine T.cond rfl (fun hc => ?_) (fun hc => ?_) -- cond 9
     ·(try simp only [dE] at hc)
      refine T.region ?_
      refine rs rfl rfl (ok_move (.inl rfl)) ?_
      refine rs rfl rfl (ok_nilCheck rfl rfl) ?_
      refine rs rfl rfl (ok_fieldAddr rfl ti_zdev_Dev rfl rfl ti_int (by decide) rfl) ?_
      refine rs rfl rfl (ok_load rfl ti_int rfl rfl) ?_
      refine rs rfl rfl (ok_add64 rfl ti_int rfl rfl (by omega) (by omega)) ?_
      refine rs rfl rfl (ok_nilCheck rfl rfl) ?_
      refine rs rfl rfl (ok_fieldAddr rfl ti_zdev_Dev rfl rfl ti_int (by decide) rfl) ?_
      refine rs rfl rfl ((ok_store rfl ti_int (by decide) rfl rfl rfl rfl rfl (by first | exact Nat.le_of_ble_eq_true rfl | simp) (by first | exact .inl ⟨rfl, rfl⟩ | exact .inr rfl)).eq (x' := .any) (H'' := [some (DvB { d with bad := d.bad + 1 } 1), some (ZqsB d.zs), some (ErB e)]) rfl rfl) ?_
      refine ro_nil ?_
      exact (hQ _ _ _ rfl (by first | (rw [cntE_y (d := d) (e := e) (by unfold badE; omega)]; exact TEnt.fin [0, 1, 2] (by decide) srcq3 (hp3 (DvB_ren (by decide) _) (ZqsB_ren _ _) (ErB_ren _ _)) ⟨rfl, trivial⟩) | (rw [cntE_n (d := d) (e := e) (by unfold badE; omega)]; exact TEnt.fin [0, 1, 2] (by decide) srcq3 (hp3 (DvB_ren (by decide) _) (ZqsB_ren _ _) (ErB_ren _ _)) ⟨rfl, trivial⟩))).2 -- end
     ·(try simp only [dE] at hc)
      refine T.skip ?_
      exact (hQ _ _ _ rfl (by first | (rw [cntE_y (d := d) (e := e) (by unfold badE; omega)]; exact TEnt.fin [0, 1, 2] (by decide) srcq3 (hp3 (DvB_ren (by decide) _) (ZqsB_ren _ _) (ErB_ren _ _)) ⟨rfl, trivial⟩) | (rw [cntE_n (d := d) (e := e) (by unfold badE; omega)]; exact TEnt.fin [0, 1, 2] (by decide) srcq3 (hp3 (DvB_ren (by decide) _) (ZqsB_ren _ _) (ErB_ren _ _)) ⟨rfl, trivial⟩))).2 -- end
theorem cnt_nil (e : Int) : DSpec Try.prog 47 [ErB e] [.v (.pointer none), .ref 0 0 0] [some (ErB e)] := by
 refine DSpec.body Try.func47 rfl rfl rfl rfl rfl fun Q hQ => ?_
 refine T.seq fun K1 hK1 => ?_
 refine T.seq fun K2 hK2 => ?_
 refine T.region ?_
 refine rs rfl rfl (ok_move (.inl rfl)) ?_
 refine rs rfl rfl (OpOk.bool (d := true) (ok_binOp rfl ti_Pzdev_Dev rfl) (rfl)) ?_
 refine ro_nil ?_
 refine keepK hK2 [0, 1, 5] (by dsimp) (by dsimp) ?_
 refine T.cond_true rfl ?_
 refine T.ret (hQ _ _ _ rfl ?_).1 -- ret 1
 exact TEnt.fin [0] (by decide) srcq1 (by show [some (Blk.ren _ (ErB e))] = _; rw [ErB_ren]) ⟨rfl, trivial⟩
end Go.Proofs.Ytlegolcbjjjofaa.AmF
