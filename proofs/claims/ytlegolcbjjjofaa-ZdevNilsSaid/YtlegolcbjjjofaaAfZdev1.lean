/- Walks over the abstract machine: one zone of a member. -/
import Derived.Test.YtlegolcbjjjofaaAm21
import Derived.Test.YtlegolcbjjjofaaAfMore
namespace Go.Proofs.Ytlegolcbjjjofaa.AmF
open Go Go.AM
set_option maxRecDepth 100000
set_option maxHeartbeats 4000000
set_option linter.unusedSimpArgs false
set_option linter.unusedVariables false
attribute [local simp] tkeep tget tput ev cav argsTM pickA normT putA splice AV.cells ints_length rowsA_length
/-- A zone of a member. -/
structure Zq where
  cap : Int
  blk : Int
  data : List Int
  safe : Int
  done : Bool
def ZqC (z : Zq) : List AV := [.int z.cap, .int z.blk, .fz 1 (ints .u8 z.data), .int z.safe, .b z.done]
theorem ZqC_ren (ρ : Nat → Option Nat) (z : Zq) : renL ρ (ZqC z) = ZqC z := by simp [ZqC, renL, AV.ren, renL_ints]
def ZqB (z : Zq) : Blk := ⟨5, true, [.agg (ZqC z)]⟩
theorem ZqB_ren (ρ : Nat → Option Nat) (z : Zq) : Blk.ren ρ (ZqB z) = ZqB z := by simp [ZqB, Blk.ren, renL, AV.ren, ZqC_ren]
theorem ZqC_take (z : Zq) : List.take 5 (ZqC z) = ZqC z := rfl
def Zqs (l : List Zq) : List AV := l.map fun z => .agg (ZqC z)
theorem Zqs_len (l : List Zq) : (Zqs l).length = l.length := by simp [Zqs]
theorem Zqs_ren (ρ : Nat → Option Nat) (l : List Zq) : renL ρ (Zqs l) = Zqs l := by
  rw [renL_map]; simp [Zqs, AV.ren, ZqC_ren]
/-- Zones of at least one block of at least one byte, not longer than a block tells. -/
def ZqOk (z : Zq) : Prop := (1 ≤ z.cap ∧ z.cap ≤ 4096) ∧ (1 ≤ z.blk ∧ z.blk ≤ 4096) ∧ z.data.length ≤ 16777216
def wpZ (z : Zq) : Int := (z.data.length : Int) / z.blk
theorem wpZ_bd {z : Zq} (h : ZqOk z) : 0 ≤ wpZ z ∧ wpZ z ≤ 16777216 := by
  obtain ⟨h1, h2, h3⟩ := h
  unfold wpZ
  exact ⟨Int.ediv_nonneg (by omega) (by omega), Int.le_trans (Int.ediv_le_self _ (by omega)) (by omega)⟩
theorem znew5_ok (cap blk : Int) (h : (1 ≤ cap ∧ cap ≤ 4096) ∧ (1 ≤ blk ∧ blk ≤ 4096)) : CSpec Try.prog 46 [] [.int cap, .int blk] [] (.agg (ZqC ⟨cap, blk, [], 0, false⟩)) := by
 refine CSpec.body Try.func46 rfl rfl rfl rfl rfl fun Q hQ => ?_
 refine T.seq fun K1 hK1 => ?_
 refine T.region ?_
 refine rs rfl rfl (ok_alloc rfl ti_zone_Zone rfl (by decide)) ?_
 refine ro_nil ?_
 refine keepK hK1 [0, 1, 4] (by dsimp) (by dsimp) ?_
 refine T.seq fun K2 hK2 => ?_
 refine T.region ?_
 refine rs rfl rfl (ok_move (.inl rfl)) ?_
 refine rs rfl rfl ((ok_max rfl rfl rfl).eq (x' := .int cap) (by exact congrArg AV.int (by omega)) rfl) ?_
 refine rs rfl rfl ((ok_min rfl rfl rfl).eq (x' := .int cap) (by exact congrArg AV.int (by omega)) rfl) ?_
 refine rs rfl rfl (ok_move (.inl rfl)) ?_
 refine rs rfl rfl ((ok_max rfl rfl rfl).eq (x' := .int blk) (by exact congrArg AV.int (by omega)) rfl) ?_
 refine rs rfl rfl ((ok_min rfl rfl rfl).eq (x' := .int blk) (by exact congrArg AV.int (by omega)) rfl) ?_
 refine rs rfl rfl (ok_build rfl ti_zone_Zone rfl) ?_
 refine rs rfl rfl (ok_store rfl ti_zone_Zone (by decide) rfl rfl rfl rfl rfl (by first | exact Nat.le_of_ble_eq_true rfl | simp) (by first | exact .inl ⟨rfl, rfl⟩ | exact .inr rfl)) ?_
 refine ro_nil ?_
 refine keepK hK2 [4] (by dsimp) (by dsimp) ?_
 refine T.ret (hQ _ _ _ rfl ?_).1 -- ret 1
 exact (TEnt.put1 0 (x' := .agg (ZqC ⟨cap, blk, [], 0, false⟩)) (Ent.agg (EntL.cons (Ent.refl _) (EntL.cons (Ent.refl _) (EntL.cons (Ent.nil 1) (EntL.refl _)))))).trans (TEnt.fin [] (by decide) (by simp) rfl ⟨by simp [AV.ren, ZqC_ren], trivial⟩)
theorem wp_ok (z : Zq) (h : ZqOk z) : CSpec Try.prog 95 [] [.agg (ZqC z)] [] (.int (wpZ z)) := by
 obtain ⟨h1, h2, h3⟩ := h
 refine CSpec.body Try.func95 rfl rfl rfl rfl rfl fun Q hQ => ?_
 refine T.seq fun K1 hK1 => ?_
 refine T.region ?_
 refine rs rfl rfl (ok_box (n := 5) rfl rfl (by decide)) ?_
 refine rs rfl rfl (ok_move (.inr rfl)) ?_
 refine ro_nil ?_
 refine keepK hK1 [1] (by dsimp) (by dsimp) ?_
 refine T.seq fun K2 hK2 => ?_
 refine T.region ?_
 refine rs rfl rfl (ok_fieldAddr rfl ti_zone_Zone rfl rfl ti_Luint8 (by decide) rfl) ?_
 refine rs rfl rfl (ok_load rfl ti_Luint8 rfl rfl) ?_
 refine rs rfl rfl (ok_len' rfl rfl ti_Luint8 rfl (by first | exact ints_length _ _ | exact rowsA_length _ _ | exact Cms_len _ | exact mapLen _ | rfl)) ?_
 refine rs rfl rfl (ok_fieldAddr rfl ti_zone_Zone rfl rfl ti_int (by decide) rfl) ?_
 refine rs rfl rfl (ok_load rfl ti_int rfl rfl) ?_
 refine rs rfl rfl ((ok_max rfl rfl rfl).eq (x' := .int z.blk) (by exact congrArg AV.int (by omega)) rfl) ?_
 refine rs rfl rfl ((ok_quo64 rfl ti_int rfl rfl (by omega) (by omega) (by omega)).eq (x' := .int (wpZ z)) rfl rfl) ?_
 refine rs rfl rfl (ok_move (.inr rfl)) ?_
 refine ro_nil ?_
 refine keepK hK2 [2] (by dsimp) (by dsimp) ?_
 refine T.ret (hQ _ _ _ rfl ?_).1 -- ret 1
 exact TEnt.fin [] (by decide) (by simp) rfl ⟨rfl, trivial⟩
/-- Is it in use? -/
def actZ (z : Zq) : Bool := !z.done && (decide (0 < wpZ z) && decide (wpZ z < z.cap))
theorem zact_ok (z : Zq) (h : ZqOk z) : CSpec Try.prog 50 [] [.agg (ZqC z)] [] (.b (actZ z)) := by
 refine CSpec.body Try.func50 rfl rfl rfl rfl rfl fun Q hQ => ?_
 refine T.seq fun K1 hK1 => ?_
 refine T.region ?_
 refine rs rfl rfl (ok_box (n := 5) rfl rfl (by decide)) ?_
 refine rs rfl rfl (ok_moveb (c := false) (.inr rfl) rfl) ?_
 refine ro_nil ?_
 refine keepK hK1 [1] (by dsimp) (by dsimp) ?_
 refine T.seq fun K2 hK2 => ?_
 refine T.drawH mixed [] ?_
 refine any_take 0 rfl (by first | rfl | decide +kernel) rfl (HeldL.refl _) (fun H' hH => OpOk.step (ok_fieldAddr rfl ti_zone_Zone rfl rfl ti_bool (by decide) rfl)) ?_
 refine any_take 1 rfl (by first | rfl | decide +kernel) rfl (HeldL.refl _) (fun H' hH => OpOk.step (ok_load rfl ti_bool (locA_held hH rfl) rfl)) ?_
 refine any_take 2 rfl (by first | rfl | decide +kernel) rfl (HeldL.refl _) (fun H' hH => OpOk.step (ok_unOp rfl rfl)) ?_
 refine any_take_case 3 rfl (by first | rfl | decide +kernel) rfl (HeldL.refl _) (fun H' hH => OpOk.step (ok_moveb (.inl rfl) rfl)) (fun hb => ?_) (fun hb => ?_)
 ·(try simp only [dE] at hb)
  refine any_take 4 rfl (by first | rfl | decide +kernel) rfl (HeldL.refl _) (fun H' hH => OpOk.step (ok_load rfl ti_zone_Zone (locA_held hH rfl) rfl)) ?_
  refine any_one 5 rfl (by first | rfl | decide +kernel) rfl rfl (ok_call rfl rfl rfl ((wp_ok z h).plain (by simp [renL, AV.ren, ZqC_take, ZqC_ren]) rfl)) (.inr (by first | (simp [HeldL]; done) | (simp only [dH]; (repeat' first | trivial | rfl | constructor)))) ?_
  refine any_take 6 rfl (by first | rfl | decide +kernel) rfl (by first | exact HeldL.refl _ | exact HeldL.append _ _ | simp [HeldL]) (fun H' hH => OpOk.step (ok_binOp rfl ti_int rfl)) ?_
  refine any_take 7 rfl (by first | rfl | decide +kernel) rfl (by first | exact HeldL.refl _ | exact HeldL.append _ _ | simp [HeldL]) (fun H' hH => OpOk.step (ok_pick rfl rfl)) ?_
  refine any_take_case 8 rfl (by first | rfl | decide +kernel) rfl (by first | exact HeldL.refl _ | exact HeldL.append _ _ | simp [HeldL]) (fun H' hH => OpOk.step (ok_moveb (.inl rfl) rfl)) (fun hb => ?_) (fun hb => ?_)
  ·(try simp only [dE] at hb)
   refine any_take 9 rfl (by first | rfl | decide +kernel) rfl (by first | exact HeldL.refl _ | exact HeldL.append _ _ | simp [HeldL]) (fun H' hH => OpOk.step (ok_load rfl ti_zone_Zone (locA_held hH rfl) rfl)) ?_
   refine any_take 11 rfl (by first | rfl | decide +kernel) rfl (by first | exact HeldL.refl _ | exact HeldL.append _ _ | simp [HeldL]) (fun H' hH => OpOk.step (ok_fieldAddr rfl ti_zone_Zone rfl rfl ti_int (by decide) rfl)) ?_
   refine any_take 12 rfl (by first | rfl | decide +kernel) rfl (by first | exact HeldL.refl _ | exact HeldL.append _ _ | simp [HeldL]) (fun H' hH => OpOk.step (ok_load rfl ti_int (locA_held hH rfl) rfl)) ?_
   refine any_one 10 rfl (by first | rfl | decide +kernel) rfl rfl (ok_call rfl rfl rfl ((wp_ok z h).plain (by simp [renL, AV.ren, ZqC_take, ZqC_ren]) rfl)) (.inr (by first | (simp [HeldL]; done) | (simp only [dH]; (repeat' first | trivial | rfl | constructor)))) ?_
   refine any_take 13 rfl (by first | rfl | decide +kernel) rfl (by first | exact HeldL.refl _ | exact HeldL.append _ _ | simp [HeldL]) (fun H' hH => OpOk.step (ok_binOp rfl ti_int rfl)) ?_
   refine any_take 14 rfl (by first | rfl | decide +kernel) rfl (by first | exact HeldL.refl _ | exact HeldL.append _ _ | simp [HeldL]) (fun H' hH => OpOk.step (ok_pick rfl rfl)) ?_
   refine any_take 15 rfl (by first | rfl | decide +kernel) rfl (by first | exact HeldL.refl _ | exact HeldL.append _ _ | simp [HeldL]) (fun H' hH => OpOk.step (ok_move (.inr rfl))) ?_
   refine any_done rfl ?_
   refine keepK hK2 [2] (by dsimp) (by dsimp) ?_
   refine T.ret (hQ _ _ _ rfl ?_).1 -- ret 1
   exact TEnt.fin [] (by decide) (by simp) rfl ⟨by show AV.b _ = AV.b _; exact congrArg AV.b (by simp_all [actZ] <;> omega), trivial⟩
  ·(try simp only [dE] at hb)
   refine any_skip 9 rfl (by first | rfl | decide +kernel) rfl (by first | exact HeldL.refl _ | exact HeldL.append _ _ | simp [HeldL]) ?_
   refine any_skip 11 rfl (by first | rfl | decide +kernel) rfl (by first | exact HeldL.refl _ | exact HeldL.append _ _ | simp [HeldL]) ?_
   refine any_skip 12 rfl (by first | rfl | decide +kernel) rfl (by first | exact HeldL.refl _ | exact HeldL.append _ _ | simp [HeldL]) ?_
   refine any_one_skip 10 rfl (by first | rfl | decide +kernel) rfl rfl (.inr (by first | exact HeldL.refl _ | exact HeldL.append _ _ | simp [HeldL])) ?_
   refine any_skip 13 rfl (by first | rfl | decide +kernel) rfl (by first | exact HeldL.refl _ | exact HeldL.append _ _ | simp [HeldL]) ?_
   refine any_take 14 rfl (by first | rfl | decide +kernel) rfl (by first | exact HeldL.refl _ | exact HeldL.append _ _ | simp [HeldL]) (fun H' hH => OpOk.step (ok_pickb (t := false) (d := false) rfl rfl rfl)) ?_
   refine any_take 15 rfl (by first | rfl | decide +kernel) rfl (by first | exact HeldL.refl _ | exact HeldL.append _ _ | simp [HeldL]) (fun H' hH => OpOk.step (ok_moveb (c := false) (.inr rfl) rfl)) ?_
   refine any_done rfl ?_
   refine keepK hK2 [2] (by dsimp) (by dsimp) ?_
   refine T.ret (hQ _ _ _ rfl ?_).1 -- ret 2
   exact TEnt.fin [] (by decide) (by simp) rfl ⟨by show AV.b _ = AV.b _; exact congrArg AV.b (by simp_all [actZ] <;> omega), trivial⟩
 ·(try simp only [dE] at hb)
  refine any_skip 4 rfl (by first | rfl | decide +kernel) rfl (HeldL.refl _) ?_
  refine any_one_skip 5 rfl (by first | rfl | decide +kernel) rfl rfl (.inr (HeldL.refl _)) ?_
  refine any_skip 6 rfl (by first | rfl | decide +kernel) rfl (by first | exact HeldL.refl _ | exact HeldL.append _ _ | simp [HeldL]) ?_
  refine any_take 7 rfl (by first | rfl | decide +kernel) rfl (by first | exact HeldL.refl _ | exact HeldL.append _ _ | simp [HeldL]) (fun H' hH => OpOk.step (ok_pickb (t := false) (d := false) rfl rfl rfl)) ?_
  refine any_take 8 rfl (by first | rfl | decide +kernel) rfl (by first | exact HeldL.refl _ | exact HeldL.append _ _ | simp [HeldL]) (fun H' hH => OpOk.step (ok_moveb (c := false) (.inl rfl) rfl)) ?_
  refine any_skip 9 rfl (by first | rfl | decide +kernel) rfl (by first | exact HeldL.refl _ | exact HeldL.append _ _ | simp [HeldL]) ?_
  refine any_skip 11 rfl (by first | rfl | decide +kernel) rfl (by first | exact HeldL.refl _ | exact HeldL.append _ _ | simp [HeldL]) ?_
  refine any_skip 12 rfl (by first | rfl | decide +kernel) rfl (by first | exact HeldL.refl _ | exact HeldL.append _ _ | simp [HeldL]) ?_
  refine any_one_skip 10 rfl (by first | rfl | decide +kernel) rfl rfl (.inr (by first | exact HeldL.refl _ | exact HeldL.append _ _ | simp [HeldL])) ?_
  refine any_skip 13 rfl (by first | rfl | decide +kernel) rfl (by first | exact HeldL.refl _ | exact HeldL.append _ _ | simp [HeldL]) ?_
  refine any_take 14 rfl (by first | rfl | decide +kernel) rfl (by first | exact HeldL.refl _ | exact HeldL.append _ _ | simp [HeldL]) (fun H' hH => OpOk.step (ok_pickb (t := false) (d := false) rfl rfl rfl)) ?_
  refine any_take 15 rfl (by first | rfl | decide +kernel) rfl (by first | exact HeldL.refl _ | exact HeldL.append _ _ | simp [HeldL]) (fun H' hH => OpOk.step (ok_moveb (c := false) (.inr rfl) rfl)) ?_
  refine any_done rfl ?_
  refine keepK hK2 [2] (by dsimp) (by dsimp) ?_
  refine T.ret (hQ _ _ _ rfl ?_).1 -- ret 3
  exact TEnt.fin [] (by decide) (by simp) rfl ⟨by show AV.b _ = AV.b _; exact congrArg AV.b (by simp_all [actZ] <;> omega), trivial⟩
def flushZ (z : Zq) : Zq := { z with safe := wpZ z }
def resetZ (z : Zq) : Zq := ⟨z.cap, z.blk, [], 0, false⟩
def finishZ (z : Zq) : Zq := { z with safe := wpZ z, done := true }
theorem zflush_ok (z : Zq) (h : ZqOk z) : CSpec Try.prog 51 [] [.agg (ZqC z)] [] (.agg (ZqC (flushZ z))) := by
 refine CSpec.body Try.func51 rfl rfl rfl rfl rfl fun Q hQ => ?_
 refine T.seq fun K1 hK1 => ?_
 refine T.region ?_
 refine rs rfl rfl (ok_box (n := 5) rfl rfl (by decide)) ?_
 refine rs rfl rfl (ok_alloc rfl ti_zone_Zone rfl (by decide)) ?_
 refine ro_nil ?_
 refine keepK hK1 [1, 2] (by dsimp) (by dsimp) ?_
 refine T.seq fun K2 hK2 => ?_
 refine T.region ?_
 refine rs rfl rfl (ok_load rfl ti_zone_Zone rfl rfl) ?_
 refine ro rfl rfl (ok_call rfl rfl rfl ((wp_ok z h).plain (by simp [renL, AV.ren, ZqC_take, ZqC_ren]) rfl)) ?_
 refine rs rfl rfl (ok_fieldAddr rfl ti_zone_Zone rfl rfl ti_int (by decide) rfl) ?_
 refine rs rfl rfl (ok_store rfl ti_int (by decide) rfl rfl rfl rfl rfl (by first | exact Nat.le_of_ble_eq_true rfl | simp) (by first | exact .inl ⟨rfl, rfl⟩ | exact .inr rfl)) ?_
 refine ro_nil ?_
 refine keepK hK2 [1, 2] (by dsimp) (by dsimp) ?_
 refine T.seq fun K3 hK3 => ?_
 refine T.region ?_
 refine rs rfl rfl (ok_load rfl ti_zone_Zone rfl rfl) ?_
 refine rs rfl rfl (ok_store rfl ti_zone_Zone (by decide) rfl rfl rfl rfl rfl (by first | exact Nat.le_of_ble_eq_true rfl | simp) (by first | exact .inl ⟨rfl, rfl⟩ | exact .inr rfl)) ?_
 refine ro_nil ?_
 refine keepK hK3 [2] (by dsimp) (by dsimp) ?_
 refine T.ret (hQ _ _ _ rfl ?_).1 -- ret 1
 exact TEnt.fin [] (by decide) (by simp) rfl ⟨by show AV.agg (renL _ (ZqC (flushZ z))) = _; rw [ZqC_ren], trivial⟩
theorem zreset_ok (z : Zq) : CSpec Try.prog 53 [] [.agg (ZqC z)] [] (.agg (ZqC (resetZ z))) := by
 refine CSpec.body Try.func53 rfl rfl rfl rfl rfl fun Q hQ => ?_
 refine T.seq fun K1 hK1 => ?_
 refine T.region ?_
 refine rs rfl rfl (ok_box (n := 5) rfl rfl (by decide)) ?_
 refine rs rfl rfl (ok_alloc rfl ti_zone_Zone rfl (by decide)) ?_
 refine ro_nil ?_
 refine keepK hK1 [1, 2] (by dsimp) (by dsimp) ?_
 refine T.seq fun K2 hK2 => ?_
 refine T.region ?_
 refine rs rfl rfl (ok_fieldAddr rfl ti_zone_Zone rfl rfl ti_int (by decide) rfl) ?_
 refine rs rfl rfl (ok_load rfl ti_int rfl rfl) ?_
 refine rs rfl rfl (ok_fieldAddr rfl ti_zone_Zone rfl rfl ti_int (by decide) rfl) ?_
 refine rs rfl rfl (ok_load rfl ti_int rfl rfl) ?_
 refine rs rfl rfl (ok_build rfl ti_zone_Zone rfl) ?_
 refine rs rfl rfl (ok_store rfl ti_zone_Zone (by decide) rfl rfl rfl rfl rfl (by first | exact Nat.le_of_ble_eq_true rfl | simp) (by first | exact .inl ⟨rfl, rfl⟩ | exact .inr rfl)) ?_
 refine ro_nil ?_
 refine keepK hK2 [2] (by dsimp) (by dsimp) ?_
 refine T.ret (hQ _ _ _ rfl ?_).1 -- ret 1
 exact (TEnt.put1 0 (x' := .agg (ZqC (resetZ z))) (Ent.agg (EntL.cons (Ent.refl _) (EntL.cons (Ent.refl _) (EntL.cons (Ent.nil 1) (EntL.refl _)))))).trans (TEnt.fin [] (by decide) (by simp) rfl ⟨by simp [AV.ren, ZqC_ren], trivial⟩)
theorem zfinish_ok (z : Zq) (h : ZqOk z) : CSpec Try.prog 54 [] [.agg (ZqC z)] [] (.agg (ZqC (finishZ z))) := by
 refine CSpec.body Try.func54 rfl rfl rfl rfl rfl fun Q hQ => ?_
 refine T.seq fun K1 hK1 => ?_
 refine T.region ?_
 refine rs rfl rfl (ok_box (n := 5) rfl rfl (by decide)) ?_
 refine rs rfl rfl (ok_alloc rfl ti_zone_Zone rfl (by decide)) ?_
 refine ro_nil ?_
 refine keepK hK1 [1, 2] (by dsimp) (by dsimp) ?_
 refine T.seq fun K2 hK2 => ?_
 refine T.region ?_
 refine rs rfl rfl (ok_load rfl ti_zone_Zone rfl rfl) ?_
 refine ro rfl rfl (ok_call rfl rfl rfl ((zflush_ok z h).plain (by simp [renL, AV.ren, ZqC_take, ZqC_ren]) (by simp [AV.ren, ZqC_ren]))) ?_
 refine rs rfl rfl (ok_store rfl ti_zone_Zone (by decide) rfl rfl rfl rfl rfl (by first | exact Nat.le_of_ble_eq_true rfl | simp) (by first | exact .inl ⟨rfl, rfl⟩ | exact .inr rfl)) ?_
 refine ro_nil ?_
 refine keepK hK2 [1, 2] (by dsimp) (by dsimp) ?_
 refine T.seq fun K3 hK3 => ?_
 refine T.region ?_
 refine rs rfl rfl (ok_fieldAddr rfl ti_zone_Zone rfl rfl ti_bool (by decide) rfl) ?_
 refine rs rfl rfl (ok_store rfl ti_bool (by decide) rfl rfl rfl rfl rfl (by first | exact Nat.le_of_ble_eq_true rfl | simp) (by first | exact .inl ⟨rfl, rfl⟩ | exact .inr rfl)) ?_
 refine ro_nil ?_
 refine keepK hK3 [1, 2] (by dsimp) (by dsimp) ?_
 refine T.seq fun K4 hK4 => ?_
 refine T.region ?_
 refine rs rfl rfl (ok_load rfl ti_zone_Zone rfl rfl) ?_
 refine rs rfl rfl (ok_store rfl ti_zone_Zone (by decide) rfl rfl rfl rfl rfl (by first | exact Nat.le_of_ble_eq_true rfl | simp) (by first | exact .inl ⟨rfl, rfl⟩ | exact .inr rfl)) ?_
 refine ro_nil ?_
 refine keepK hK4 [2] (by dsimp) (by dsimp) ?_
 refine T.ret (hQ _ _ _ rfl ?_).1 -- ret 1
 exact TEnt.fin [] (by decide) (by simp) rfl ⟨by show AV.agg (renL _ (ZqC (finishZ z))) = _; rw [ZqC_ren], trivial⟩
def zq0 : Zq := ⟨0, 0, [], 0, false⟩
def AlignZ (z : Zq) (b : List Int) : Prop := b.length ≠ 0 ∧ (b.length : Int) % z.blk = 0
def FitsZ (z : Zq) (b : List Int) : Prop := z.done = false ∧ (b.length : Int) / z.blk ≤ z.cap - wpZ z
instance (z : Zq) (b : List Int) : Decidable (AlignZ z b) := by unfold AlignZ; infer_instance
instance (z : Zq) (b : List Int) : Decidable (FitsZ z b) := by unfold FitsZ; infer_instance
/-- Blocks more: the zone, the error. -/
def apZ (z : Zq) (b : List Int) : Zq × Int := if AlignZ z b then (if FitsZ z b then ({ z with data := z.data ++ b }, 0) else (zq0, 6)) else (zq0, 3)
theorem apZ_3 {z : Zq} {b : List Int} (h : ¬ AlignZ z b) : apZ z b = (zq0, 3) := if_neg h
theorem apZ_6 {z : Zq} {b : List Int} (h : AlignZ z b) (h' : ¬ FitsZ z b) : apZ z b = (zq0, 6) := by unfold apZ; rw [if_pos h, if_neg h']
theorem apZ_0 {z : Zq} {b : List Int} (h : AlignZ z b) (h' : FitsZ z b) : apZ z b = ({ z with data := z.data ++ b }, 0) := by unfold apZ; rw [if_pos h, if_pos h']
theorem za_no {k : Nat} {tm : TM} {H : Heap} {e : Int} (hk : k = 0) (h : tget tm 0 = .tup [.agg [.int 0, .int 0, .v (.slice none 0 0), .int 0, .b false], .int e]) : TEnt k tm H [(0, .tup [.agg (ZqC zq0), .int e])] [] := by
  subst hk
  exact (TEnt.put1 0 (x' := .tup [.agg (ZqC zq0), .int e]) (by
    rw [h]
    exact Ent.tup (EntL.cons (Ent.agg (EntL.cons (Ent.refl _) (EntL.cons (Ent.refl _) (EntL.cons (Ent.nil 1) (EntL.refl _))))) (EntL.refl _)))).trans (TEnt.fin [] (by decide) (by simp) rfl ⟨by simp [AV.ren, renL, ZqC_ren], trivial⟩)
theorem zapp_ok (z : Zq) (b : List Int) (h : ZqOk z) (hd : z.data.length ≤ 10000000) (hb : b.length ≤ 10000000) : CSpec Try.prog 49 [] [.agg (ZqC z), .fz 1 (ints .u8 b)] [] (.tup [.agg (ZqC (apZ z b).1), .int (apZ z b).2]) := by
 obtain ⟨h1, h2, h3⟩ := h
 have hwb := wpZ_bd (z := z) ⟨h1, h2, h3⟩
 have hq1 : 0 ≤ (b.length : Int) / z.blk := Int.ediv_nonneg (by omega) (by omega)
 have hq2 : (b.length : Int) / z.blk ≤ b.length := Int.ediv_le_self _ (by omega)
 refine CSpec.body Try.func49 rfl rfl rfl rfl rfl fun Q hQ => ?_
 refine T.seq fun K1 hK1 => ?_
 refine T.region ?_
 refine rs rfl rfl (ok_box (n := 5) rfl rfl (by decide)) ?_
 refine rs rfl rfl (ok_alloc rfl ti_zone_Zone rfl (by decide)) ?_
 refine rs rfl rfl (ok_move (.inr rfl)) ?_
 refine ro_nil ?_
 refine keepK hK1 [1, 2, 4] (by dsimp) (by dsimp) ?_
 refine T.seq fun K2 hK2 => ?_
 refine T.region ?_
 refine rs rfl rfl (ok_move (.inr rfl)) ?_
 refine ro_nil ?_
 refine keepK hK2 [1, 2, 4, 6] (by dsimp) (by dsimp) ?_
 refine T.seq fun K3 hK3 => ?_
 refine T.seq fun K4 hK4 => ?_
 refine T.region ?_
 refine rs rfl rfl (ok_fieldAddr rfl ti_zone_Zone rfl rfl ti_int (by decide) rfl) ?_
 refine rs rfl rfl (ok_load rfl ti_int rfl rfl) ?_
 refine rs rfl rfl ((ok_max rfl rfl rfl).eq (x' := .int z.blk) (by exact congrArg AV.int (by omega)) rfl) ?_
 refine rs rfl rfl (ok_move (.inr rfl)) ?_
 refine ro_nil ?_
 refine keepK hK4 [1, 2, 4, 6, 7] (by dsimp) (by dsimp) ?_
 refine T.block ?_
 refine T.seq fun K5 hK5 => ?_
 refine T.block ?_
 refine T.block ?_
 refine T.seq fun K6 hK6 => ?_
 refine T.block ?_
 refine T.block ?_
 refine T.seq fun K7 hK7 => ?_
 refine T.seq fun K8 hK8 => ?_
 refine T.seq fun K9 hK9 => ?_
 refine T.region ?_
 refine rs rfl rfl (ok_move (.inl rfl)) ?_
 refine rs rfl rfl (ok_len' rfl rfl ti_Luint8 rfl (by first | exact ints_length _ _ | exact rowsA_length _ _ | exact Cms_len _ | exact mapLen _ | rfl)) ?_
 refine rs rfl rfl (ok_binOp rfl ti_int rfl) ?_
 refine rs rfl rfl (ok_move (.inr rfl)) ?_
 refine ro_nil ?_
 refine keepK hK9 [1, 2, 4, 6, 7, 11] (by dsimp) (by dsimp) ?_
 refine T.cond rfl (fun hc => ?_) (fun hc => ?_) -- cond 1
 ·(try simp only [dE] at hc)
  rw [apZ_3 (fun h => h.1 (by omega))] at hQ
  refine T.exit ?_
  refine keepK hK6 [1, 2, 4] (by dsimp) (by dsimp) ?_
  refine T.seq fun K10 hK10 => ?_
  refine T.region ?_
  refine rs rfl rfl (ok_move (.inr rfl)) ?_
  refine ro_nil ?_
  refine keepK hK10 [1, 2, 4, 6] (by dsimp) (by dsimp) ?_
  refine T.exit ?_
  refine keepK hK3 [1, 2, 4, 6] (by dsimp) (by dsimp) ?_
  refine T.seq fun K11 hK11 => ?_
  refine T.seq fun K12 hK12 => ?_
  refine T.region ?_
  refine rs rfl rfl (ok_move (.inl rfl)) ?_
  refine rs rfl rfl (ok_binOp rfl ti_api_Errno rfl) ?_
  refine ro_nil ?_
  refine keepK hK12 [1, 2, 4, 6, 36] (by dsimp) (by dsimp) ?_
  refine T.cond rfl (fun hc => ?_) (fun hc => ?_) -- cond 2
  ·(try simp only [dE] at hc)
   refine T.seq fun K13 hK13 => ?_
   refine T.region ?_
   refine rs rfl rfl (ok_build rfl ti_zone_Zone rfl) ?_
   refine rs rfl rfl (ok_move (.inl rfl)) ?_
   refine rs rfl rfl (ok_store rfl ti_zone_Zone (by decide) rfl rfl rfl rfl rfl (by first | exact Nat.le_of_ble_eq_true rfl | simp) (by first | exact .inl ⟨rfl, rfl⟩ | exact .inr rfl)) ?_
   refine rs rfl rfl (ok_move (.inr rfl)) ?_
   refine ro_nil ?_
   refine keepK hK13 [4, 5] (by dsimp) (by dsimp) ?_
   refine T.ret (hQ _ _ _ rfl ?_).1 -- ret 1
   exact by first | exact za_no rfl rfl | exact TEnt.fin [] (by decide) (by simp) rfl ⟨by show AV.tup (renL _ [.agg (ZqC { z with data := z.data ++ b }), .int 0]) = _; simp [renL, AV.ren, ZqC_ren], trivial⟩
  ·(try simp only [dE] at hc)
   exact absurd hc (by decide)
 ·(try simp only [dE] at hc)
  have hl0 : b.length ≠ 0 := by omega
  refine T.skip ?_
  refine keepK hK8 [1, 2, 4, 6, 7] (by dsimp) (by dsimp) ?_
  refine T.seq fun K14 hK14 => ?_
  refine T.seq fun K15 hK15 => ?_
  refine T.region ?_
  refine rs rfl rfl (ok_move (.inl rfl)) ?_
  refine rs rfl rfl (ok_len' rfl rfl ti_Luint8 rfl (by first | exact ints_length _ _ | exact rowsA_length _ _ | exact Cms_len _ | exact mapLen _ | rfl)) ?_
  refine rs rfl rfl (ok_move (.inl rfl)) ?_
  refine rs rfl rfl ((ok_rem64 rfl ti_int rfl rfl (by omega) (by omega)).eq (x' := .int ((b.length : Int) % z.blk)) rfl rfl) ?_
  refine rs rfl rfl (ok_binOp rfl ti_int rfl) ?_
  refine rs rfl rfl (ok_move (.inr rfl)) ?_
  refine ro_nil ?_
  refine keepK hK15 [1, 2, 4, 6, 7, 15] (by dsimp) (by dsimp) ?_
  refine T.cond rfl (fun hc => ?_) (fun hc => ?_) -- cond 3
  ·(try simp only [dE] at hc)
   rw [apZ_3 (fun h => hc h.2)] at hQ
   refine T.exit ?_
   refine keepK hK6 [1, 2, 4] (by dsimp) (by dsimp) ?_
   refine T.seq fun K16 hK16 => ?_
   refine T.region ?_
   refine rs rfl rfl (ok_move (.inr rfl)) ?_
   refine ro_nil ?_
   refine keepK hK16 [1, 2, 4, 6] (by dsimp) (by dsimp) ?_
   refine T.exit ?_
   refine keepK hK3 [1, 2, 4, 6] (by dsimp) (by dsimp) ?_
   refine T.seq fun K17 hK17 => ?_
   refine T.seq fun K18 hK18 => ?_
   refine T.region ?_
   refine rs rfl rfl (ok_move (.inl rfl)) ?_
   refine rs rfl rfl (ok_binOp rfl ti_api_Errno rfl) ?_
   refine ro_nil ?_
   refine keepK hK18 [1, 2, 4, 6, 36] (by dsimp) (by dsimp) ?_
   refine T.cond rfl (fun hc => ?_) (fun hc => ?_) -- cond 4
   ·(try simp only [dE] at hc)
    refine T.seq fun K19 hK19 => ?_
    refine T.region ?_
    refine rs rfl rfl (ok_build rfl ti_zone_Zone rfl) ?_
    refine rs rfl rfl (ok_move (.inl rfl)) ?_
    refine rs rfl rfl (ok_store rfl ti_zone_Zone (by decide) rfl rfl rfl rfl rfl (by first | exact Nat.le_of_ble_eq_true rfl | simp) (by first | exact .inl ⟨rfl, rfl⟩ | exact .inr rfl)) ?_
    refine rs rfl rfl (ok_move (.inr rfl)) ?_
    refine ro_nil ?_
    refine keepK hK19 [4, 5] (by dsimp) (by dsimp) ?_
    refine T.ret (hQ _ _ _ rfl ?_).1 -- ret 2
    exact by first | exact za_no rfl rfl | exact TEnt.fin [] (by decide) (by simp) rfl ⟨by show AV.tup (renL _ [.agg (ZqC { z with data := z.data ++ b }), .int 0]) = _; simp [renL, AV.ren, ZqC_ren], trivial⟩
   ·(try simp only [dE] at hc)
    exact absurd hc (by decide)
  ·(try simp only [dE] at hc)
   have hal : AlignZ z b := ⟨hl0, hc⟩
   refine T.skip ?_
   refine keepK hK14 [1, 2, 4, 6, 7] (by dsimp) (by dsimp) ?_
   refine T.seq fun K20 hK20 => ?_
   refine T.seq fun K21 hK21 => ?_
   refine T.region ?_
   refine rs rfl rfl (ok_fieldAddr rfl ti_zone_Zone rfl rfl ti_bool (by decide) rfl) ?_
   refine rs rfl rfl (ok_load rfl ti_bool rfl rfl) ?_
   refine rs rfl rfl (ok_move (.inr rfl)) ?_
   refine ro_nil ?_
   refine keepK hK21 [1, 2, 4, 6, 7, 21] (by dsimp) (by dsimp) ?_
   refine T.cond rfl (fun hc => ?_) (fun hc => ?_) -- cond 5
   ·(try simp only [dE] at hc)
    rw [apZ_6 hal (fun h => by have := h.1; rw [hc] at this; cases this)] at hQ
    refine T.exit ?_
    refine keepK hK5 [1, 2, 4] (by dsimp) (by dsimp) ?_
    refine T.seq fun K22 hK22 => ?_
    refine T.region ?_
    refine rs rfl rfl (ok_move (.inr rfl)) ?_
    refine ro_nil ?_
    refine keepK hK22 [1, 2, 4, 6] (by dsimp) (by dsimp) ?_
    refine T.exit ?_
    refine keepK hK3 [1, 2, 4, 6] (by dsimp) (by dsimp) ?_
    refine T.seq fun K23 hK23 => ?_
    refine T.seq fun K24 hK24 => ?_
    refine T.region ?_
    refine rs rfl rfl (ok_move (.inl rfl)) ?_
    refine rs rfl rfl (ok_binOp rfl ti_api_Errno rfl) ?_
    refine ro_nil ?_
    refine keepK hK24 [1, 2, 4, 6, 36] (by dsimp) (by dsimp) ?_
    refine T.cond rfl (fun hc => ?_) (fun hc => ?_) -- cond 6
    ·(try simp only [dE] at hc)
     refine T.seq fun K25 hK25 => ?_
     refine T.region ?_
     refine rs rfl rfl (ok_build rfl ti_zone_Zone rfl) ?_
     refine rs rfl rfl (ok_move (.inl rfl)) ?_
     refine rs rfl rfl (ok_store rfl ti_zone_Zone (by decide) rfl rfl rfl rfl rfl (by first | exact Nat.le_of_ble_eq_true rfl | simp) (by first | exact .inl ⟨rfl, rfl⟩ | exact .inr rfl)) ?_
     refine rs rfl rfl (ok_move (.inr rfl)) ?_
     refine ro_nil ?_
     refine keepK hK25 [4, 5] (by dsimp) (by dsimp) ?_
     refine T.ret (hQ _ _ _ rfl ?_).1 -- ret 3
     exact by first | exact za_no rfl rfl | exact TEnt.fin [] (by decide) (by simp) rfl ⟨by show AV.tup (renL _ [.agg (ZqC { z with data := z.data ++ b }), .int 0]) = _; simp [renL, AV.ren, ZqC_ren], trivial⟩
    ·(try simp only [dE] at hc)
     exact absurd hc (by decide)
   ·(try simp only [dE] at hc)
    have hdn : z.done = false := hc
    refine T.skip ?_
    refine keepK hK20 [1, 2, 4, 6, 7] (by dsimp) (by dsimp) ?_
    refine T.seq fun K26 hK26 => ?_
    refine T.drawH mixed [] ?_
    refine any_take 0 rfl (by first | rfl | decide +kernel) rfl (HeldL.refl _) (fun H' hH => OpOk.step (ok_move (.inl rfl))) ?_
    refine any_take 1 rfl (by first | rfl | decide +kernel) rfl (HeldL.refl _) (fun H' hH => OpOk.step (ok_len' rfl rfl ti_Luint8 rfl (by first | exact ints_length _ _ | exact rowsA_length _ _ | exact Cms_len _ | exact mapLen _ | rfl))) ?_
    refine any_take 2 rfl (by first | rfl | decide +kernel) rfl (HeldL.refl _) (fun H' hH => OpOk.step (ok_move (.inl rfl))) ?_
    refine any_take 3 rfl (by first | rfl | decide +kernel) rfl (HeldL.refl _) (fun H' hH => OpOk.step ((ok_quo64 rfl ti_int rfl rfl (by omega) (by omega) (by omega)).eq (x' := .int ((b.length : Int) / z.blk)) rfl rfl)) ?_
    refine any_take 4 rfl (by first | rfl | decide +kernel) rfl (HeldL.refl _) (fun H' hH => OpOk.step (ok_fieldAddr rfl ti_zone_Zone rfl rfl ti_int (by decide) rfl)) ?_
    refine any_take 5 rfl (by first | rfl | decide +kernel) rfl (HeldL.refl _) (fun H' hH => OpOk.step (ok_load rfl ti_int (locA_held hH rfl) rfl)) ?_
    refine any_take 6 rfl (by first | rfl | decide +kernel) rfl (HeldL.refl _) (fun H' hH => OpOk.step (ok_load rfl ti_zone_Zone (locA_held hH rfl) rfl)) ?_
    refine any_one 7 rfl (by first | rfl | decide +kernel) rfl rfl (ok_call rfl rfl rfl ((wp_ok z ⟨h1, h2, h3⟩).plain (by simp [renL, AV.ren, ZqC_take, ZqC_ren]) rfl)) (.inr (by first | (simp [HeldL]; done) | (simp only [dH]; (repeat' first | trivial | rfl | constructor)))) ?_
    refine any_take 8 rfl (by first | rfl | decide +kernel) rfl (by first | exact HeldL.refl _ | exact HeldL.append _ _ | simp [HeldL]) (fun H' hH => OpOk.step (ok_sub64 rfl ti_int rfl rfl (by omega) (by omega))) ?_
    refine any_take 9 rfl (by first | rfl | decide +kernel) rfl (by first | exact HeldL.refl _ | exact HeldL.append _ _ | simp [HeldL]) (fun H' hH => OpOk.step (ok_binOp rfl ti_int rfl)) ?_
    refine any_take 10 rfl (by first | rfl | decide +kernel) rfl (by first | exact HeldL.refl _ | exact HeldL.append _ _ | simp [HeldL]) (fun H' hH => OpOk.step (ok_move (.inr rfl))) ?_
    refine any_done rfl ?_
    refine keepK hK26 [1, 2, 4, 6, 24] (by dsimp) (by dsimp) ?_
    refine T.cond rfl (fun hc => ?_) (fun hc => ?_) -- cond 7
    ·(try simp only [dE] at hc)
     rw [apZ_6 hal (fun h => by have := h.2; omega)] at hQ
     refine T.exit ?_
     refine keepK hK5 [1, 2, 4] (by dsimp) (by dsimp) ?_
     refine T.seq fun K27 hK27 => ?_
     refine T.region ?_
     refine rs rfl rfl (ok_move (.inr rfl)) ?_
     refine ro_nil ?_
     refine keepK hK27 [1, 2, 4, 6] (by dsimp) (by dsimp) ?_
     refine T.exit ?_
     refine keepK hK3 [1, 2, 4, 6] (by dsimp) (by dsimp) ?_
     refine T.seq fun K28 hK28 => ?_
     refine T.seq fun K29 hK29 => ?_
     refine T.region ?_
     refine rs rfl rfl (ok_move (.inl rfl)) ?_
     refine rs rfl rfl (ok_binOp rfl ti_api_Errno rfl) ?_
     refine ro_nil ?_
     refine keepK hK29 [1, 2, 4, 6, 36] (by dsimp) (by dsimp) ?_
     refine T.cond rfl (fun hc => ?_) (fun hc => ?_) -- cond 8
     ·(try simp only [dE] at hc)
      refine T.seq fun K30 hK30 => ?_
      refine T.region ?_
      refine rs rfl rfl (ok_build rfl ti_zone_Zone rfl) ?_
      refine rs rfl rfl (ok_move (.inl rfl)) ?_
      refine rs rfl rfl (ok_store rfl ti_zone_Zone (by decide) rfl rfl rfl rfl rfl (by first | exact Nat.le_of_ble_eq_true rfl | simp) (by first | exact .inl ⟨rfl, rfl⟩ | exact .inr rfl)) ?_
      refine rs rfl rfl (ok_move (.inr rfl)) ?_
      refine ro_nil ?_
      refine keepK hK30 [4, 5] (by dsimp) (by dsimp) ?_
      refine T.ret (hQ _ _ _ rfl ?_).1 -- ret 4
      exact by first | exact za_no rfl rfl | exact TEnt.fin [] (by decide) (by simp) rfl ⟨by show AV.tup (renL _ [.agg (ZqC { z with data := z.data ++ b }), .int 0]) = _; simp [renL, AV.ren, ZqC_ren], trivial⟩
     ·(try simp only [dE] at hc)
      exact absurd hc (by decide)
    ·(try simp only [dE] at hc)
     have hfit : FitsZ z b := ⟨hdn, by omega⟩
     rw [apZ_0 hal hfit] at hQ
     refine T.skip ?_
     refine keepK hK7 [1, 2, 4, 6] (by dsimp) (by dsimp) ?_
     refine T.exit ?_
     refine keepK hK3 [1, 2, 4, 6] (by dsimp) (by dsimp) ?_
     refine T.seq fun K31 hK31 => ?_
     refine T.seq fun K32 hK32 => ?_
     refine T.region ?_
     refine rs rfl rfl (ok_move (.inl rfl)) ?_
     refine rs rfl rfl (ok_binOp rfl ti_api_Errno rfl) ?_
     refine ro_nil ?_
     refine keepK hK32 [1, 2, 4, 6, 36] (by dsimp) (by dsimp) ?_
     refine T.cond rfl (fun hc => ?_) (fun hc => ?_) -- cond 9
     ·(try simp only [dE] at hc)
      exact absurd hc (by decide)
     ·(try simp only [dE] at hc)
      refine T.skip ?_
      refine keepK hK31 [1, 2, 4] (by dsimp) (by dsimp) ?_
      refine T.seq fun K33 hK33 => ?_
      refine T.region ?_
      refine rs rfl rfl (ok_fieldAddr rfl ti_zone_Zone rfl rfl ti_Luint8 (by decide) rfl) ?_
      refine rs rfl rfl (ok_load rfl ti_Luint8 rfl rfl) ?_
      refine rs rfl rfl (ok_move (.inl rfl)) ?_
      refine rs rfl rfl (((ok_buildSlice (n := 2) (ps := #[(0, .tmp 40), (1, .tmp 41)]) rfl ti_LLuint8 rfl ti_Luint8 (by decide) rfl rfl (by decide) rfl rfl rfl).frz (es := 1) (own := true) (l := rowsA .u8 [z.data, b]) rfl rfl).eq (x' := .fz 1 (rowsA .u8 [z.data, b])) rfl rfl) ?_
      refine ro rfl rfl (ok_call rfl rfl rfl ((concat_frz z.data b hd hb).plain (by simp [renL, AV.ren, renL_rowsA]) (by simp [AV.ren, renL_ints]))) ?_
      refine rs rfl rfl (ok_fieldAddr rfl ti_zone_Zone rfl rfl ti_Luint8 (by decide) rfl) ?_
      refine rs rfl rfl (ok_store rfl ti_Luint8 (by decide) rfl rfl rfl rfl rfl (by first | exact Nat.le_of_ble_eq_true rfl | simp) (by first | exact .inl ⟨rfl, rfl⟩ | exact .inr rfl)) ?_
      refine ro_nil ?_
      refine keepK hK33 [2, 4] (by dsimp) (by dsimp) ?_
      refine T.seq fun K34 hK34 => ?_
      refine T.region ?_
      refine rs rfl rfl (ok_load rfl ti_zone_Zone rfl rfl) ?_
      refine rs rfl rfl (ok_store rfl ti_zone_Zone (by decide) rfl rfl rfl rfl rfl (by first | exact Nat.le_of_ble_eq_true rfl | simp) (by first | exact .inl ⟨rfl, rfl⟩ | exact .inr rfl)) ?_
      refine rs rfl rfl (ok_move (.inr rfl)) ?_
      refine ro_nil ?_
      refine keepK hK34 [4, 5] (by dsimp) (by dsimp) ?_
      refine T.ret (hQ _ _ _ rfl ?_).1 -- ret 5
      exact by first | exact za_no rfl rfl | exact TEnt.fin [] (by decide) (by simp) rfl ⟨by show AV.tup (renL _ [.agg (ZqC { z with data := z.data ++ b }), .int 0]) = _; simp [renL, AV.ren, ZqC_ren], trivial⟩
end Go.Proofs.Ytlegolcbjjjofaa.AmF
