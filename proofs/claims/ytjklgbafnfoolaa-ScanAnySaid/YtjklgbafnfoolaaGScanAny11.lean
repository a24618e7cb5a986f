/- Walks over the abstract machine: logs read, up to where they are torn. -/
import Derived.Test.YtjklgbafnfoolaaGScanAny10
namespace Go.Proofs.Ytjklgbafnfoolaa.AmF
open Go Go.AM
set_option maxRecDepth 100000
set_option maxHeartbeats 4000000
set_option linter.unusedSimpArgs false
set_option linter.unusedVariables false
attribute [local simp] tkeep tget tput ev cav argsTM pickA normT putA splice AV.cells ints_length rowsA_length Prs_len Zns_len
/-- What was found, as cells. -/
def FdC (s : St) (cnt n : Int) : List AV := StC s ++ [.int cnt, .int n]
theorem renL_app (ρ : Nat → Option Nat) : ∀ l m : List AV, renL ρ (l ++ m) = renL ρ l ++ renL ρ m
  | [], _ => by simp [renL]
  | x :: l, m => by simp [renL, renL_app ρ l m]
theorem FdC_ren (ρ : Nat → Option Nat) (s : St) (cnt n : Int) : renL ρ (FdC s cnt n) = FdC s cnt n := by
  rw [FdC, renL_app, StC_ren]
  simp [renL, AV.ren]
theorem EntL.st0 {H : Heap} : EntL H (List.map .v [.int .i64 0, .int .i64 0, .int .i64 0, .int .i64 0, .int .i64 0, .int .i64 0, .int .i64 0, .int .i64 0, .int .i64 0, .int .i64 0, .int .i64 0, .int .i64 0, .int .i64 0, .slice none 0 0, .slice none 0 0]) (StC St0) :=
  EntL.append (l := CC cfz) (EntL.refl _) (EntL.cons (Ent.refl _) (EntL.cons (Ent.refl _) (EntL.cons (Ent.nil 1) (EntL.cons (Ent.nil 6) EntL.nil))))
def FdB (s : St) (cnt n : Int) : Blk := ⟨17, true, [.agg (FdC s cnt n)]⟩
theorem FdB_ren (ρ : Nat → Option Nat) (s : St) (cnt n : Int) : Blk.ren ρ (FdB s cnt n) = FdB s cnt n := by simp [FdB, Blk.ren, renL, AV.ren, FdC_ren]
def Z17 : Blk := ⟨17, true, [.agg (List.map .v [.int .i64 0, .int .i64 0, .int .i64 0, .int .i64 0, .int .i64 0, .int .i64 0, .int .i64 0, .int .i64 0, .int .i64 0, .int .i64 0, .int .i64 0, .int .i64 0, .int .i64 0, .slice none 0 0, .slice none 0 0, .int .i64 0, .int .i64 0])]⟩
theorem fd_no {k : Nat} {tm : TM} {H : Heap} {e : Int} (hk : k = 0) (h : tget tm 0 = .tup [.agg (List.map .v [.int .i64 0, .int .i64 0, .int .i64 0, .int .i64 0, .int .i64 0, .int .i64 0, .int .i64 0, .int .i64 0, .int .i64 0, .int .i64 0, .int .i64 0, .int .i64 0, .int .i64 0, .slice none 0 0, .slice none 0 0, .int .i64 0, .int .i64 0]), .int e]) : TEnt k tm H [(0, .tup [.agg (FdC St0 0 0), .int e])] [] := by
  subst hk
  exact (TEnt.put1 0 (x' := .tup [.agg (FdC St0 0 0), .int e]) (by
    rw [h]
    exact Ent.tup (EntL.cons (Ent.agg (EntL.append (m := [AV.int 0, AV.int 0]) EntL.st0 (EntL.refl _))) (EntL.refl _)))).trans (TEnt.fin [] (by decide) (by simp) rfl ⟨by simp [AV.ren, renL, FdC_ren], trivial⟩)
theorem slog_ok (b : List Int) (c : Cf) (m : Int) (hB : Bytes b) (hl : b.length ≤ 140737488355328) : CSpec Try.prog 5 [] [.fz 1 (ints .u8 b), .agg (CC c), .int m] [] (.tup [.agg (FdC (logS b c m).1.1 (logS b c m).1.2.1 (logS b c m).1.2.2), .int (logS b c m).2]) := by
 obtain ⟨⟨x, n0, e0⟩, hg⟩ : ∃ q, getR b c.blk = q := ⟨_, rfl⟩
 have hget := get_ok b c.blk hB hl
 have hin := getR_in (k := c.blk) hB
 rw [hg] at hget hin
 obtain ⟨hin1, hin2, hin3⟩ := hin
 obtain ⟨⟨s0, okp⟩, hp⟩ : ∃ q, chkP x c m = q := ⟨_, rfl⟩
 have hchk := schk_ok x c m hin2 (by dsimp only at hin3; omega)
 rw [hp] at hchk
 refine CSpec.body Try.func5 rfl rfl rfl rfl rfl fun Q hQ => ?_
 refine T.seq fun K1 hK1 => ?_
 refine T.region ?_
 refine rs rfl rfl (ok_box (n := 11) rfl rfl (by decide)) ?_
 refine rs rfl rfl (ok_alloc rfl ti_api_Found rfl (by decide)) ?_
 refine rs rfl rfl (ok_move (.inr rfl)) ?_
 refine ro_nil ?_
 refine keepK hK1 [0, 2, 4, 6] (by dsimp) (by dsimp) ?_
 refine T.scope ?_
 refine T.seq fun K2 hK2 => ?_
 refine T.seq fun K3 hK3 => ?_
 refine T.region ?_
 refine rs rfl rfl (ok_load rfl ti_api_Conf rfl rfl) ?_
 refine ro rfl rfl (ok_call rfl rfl rfl ((check_ok c).plain (by show renL _ [.agg (CC c)] = _; simp [renL, AV.ren, CC_ren]) rfl)) ?_
 refine rs rfl rfl (ok_binOp rfl ti_api_Errno rfl) ?_
 refine ro_nil ?_
 refine keepK hK3 [0, 2, 4, 6, 20] (by dsimp) (by dsimp) ?_
 refine T.cond rfl (fun hc => ?_) (fun hc => ?_) -- cond 1
 ·(try simp only [dE] at hc)
  rw [logS_1 hc] at hQ
  refine T.seq fun K4 hK4 => ?_
  refine T.region ?_
  refine rs rfl rfl (ok_build rfl ti_api_Found rfl) ?_
  refine rs rfl rfl (ok_store rfl ti_api_Found (by decide) rfl rfl rfl rfl rfl (by first | exact Nat.le_of_ble_eq_true rfl | simp) (by first | exact .inl ⟨rfl, rfl⟩ | exact .inr rfl)) ?_
  refine rs rfl rfl (ok_move (.inr rfl)) ?_
  refine ro_nil ?_
  refine keepK hK4 [6, 7] (by dsimp) (by dsimp) ?_
  refine T.ret (hQ _ _ _ rfl ?_).1 -- ret 1
  exact fd_no (e := 1) rfl rfl
 ·(try simp only [dE] at hc)
  have hck := hc
  refine T.skip ?_
  refine keepK hK2 [0, 2, 4, 6] (by dsimp) (by dsimp) ?_
  refine T.seq fun K5 hK5 => ?_
  refine T.region ?_
  refine rs rfl rfl (ok_move (.inl rfl)) ?_
  refine rs rfl rfl (ok_fieldAddr rfl ti_api_Conf rfl rfl ti_int (by decide) rfl) ?_
  refine rs rfl rfl (ok_load rfl ti_int rfl rfl) ?_
  refine ro rfl rfl (ok_call rfl rfl rfl (hget.plain (by simp [renL, AV.ren, renL_ints]) (by simp [AV.ren, renL, RcC_ren]))) ?_
  refine rs rfl rfl (ok_move (.inl rfl)) ?_
  refine rs rfl rfl (ok_extract rfl rfl rfl) ?_
  refine rs rfl rfl (ok_extract rfl rfl rfl) ?_
  refine rs rfl rfl (ok_extract rfl rfl rfl) ?_
  refine rs rfl rfl (ok_alloc rfl ti_api_Rec rfl (by decide)) ?_
  refine rs rfl rfl (ok_store rfl ti_api_Rec (by decide) rfl rfl rfl rfl rfl (by first | exact Nat.le_of_ble_eq_true rfl | simp) (by first | exact .inl ⟨rfl, rfl⟩ | exact .inr rfl)) ?_
  refine rs rfl rfl (ok_move (.inr rfl)) ?_
  refine rs rfl rfl (ok_move (.inr rfl)) ?_
  refine ro_nil ?_
  refine keepK hK5 [0, 2, 4, 6, 8, 9, 10] (by dsimp) (by dsimp) ?_
  refine T.seq fun K6 hK6 => ?_
  refine T.seq fun K7 hK7 => ?_
  refine T.region ?_
  refine rs rfl rfl (ok_move (.inl rfl)) ?_
  refine rs rfl rfl (ok_binOp rfl ti_api_Errno rfl) ?_
  refine ro_nil ?_
  refine keepK hK7 [0, 2, 4, 6, 8, 9, 10, 31] (by dsimp) (by dsimp) ?_
  refine T.cond rfl (fun hc => ?_) (fun hc => ?_) -- cond 2
  ·(try simp only [dE] at hc)
   rw [logS_2 hck hg hc] at hQ
   refine T.seq fun K8 hK8 => ?_
   refine T.region ?_
   refine rs rfl rfl (ok_build rfl ti_api_Found rfl) ?_
   refine rs rfl rfl (ok_move (.inl rfl)) ?_
   refine rs rfl rfl (ok_store rfl ti_api_Found (by decide) rfl rfl rfl rfl rfl (by first | exact Nat.le_of_ble_eq_true rfl | simp) (by first | exact .inl ⟨rfl, rfl⟩ | exact .inr rfl)) ?_
   refine rs rfl rfl (ok_move (.inr rfl)) ?_
   refine ro_nil ?_
   refine keepK hK8 [6, 7] (by dsimp) (by dsimp) ?_
   refine T.ret (hQ _ _ _ rfl ?_).1 -- ret 2
   exact fd_no (e := e0) rfl rfl
  ·(try simp only [dE] at hc)
   obtain rfl : e0 = 0 := hc
   refine T.skip ?_
   refine keepK hK6 [0, 2, 4, 6, 8, 9] (by dsimp) (by dsimp) ?_
   refine T.seq fun K9 hK9 => ?_
   refine T.region ?_
   refine rs rfl rfl (ok_load rfl ti_api_Rec rfl rfl) ?_
   refine rs rfl rfl (ok_load rfl ti_api_Conf rfl rfl) ?_
   refine rs rfl rfl (ok_move (.inl rfl)) ?_
   refine ro rfl rfl (ok_call rfl rfl rfl (hchk.plain (by show renL _ [.agg (List.take 10 (RcC x)), .agg (CC c), .int m] = _; rw [RcC_take]; simp [renL, AV.ren, RcC_ren, CC_ren]) (by simp [AV.ren, renL, StC_ren]))) ?_
   refine rs rfl rfl (ok_move (.inl rfl)) ?_
   refine rs rfl rfl (ok_extract rfl rfl rfl) ?_
   refine rs rfl rfl (ok_extract rfl rfl rfl) ?_
   refine rs rfl rfl (ok_alloc rfl ti_api_State rfl (by decide)) ?_
   refine rs rfl rfl (ok_store rfl ti_api_State (by decide) rfl rfl rfl rfl rfl (by first | exact Nat.le_of_ble_eq_true rfl | simp) (by first | exact .inl ⟨rfl, rfl⟩ | exact .inr rfl)) ?_
   refine rs rfl rfl (ok_move (.inr rfl)) ?_
   refine ro_nil ?_
   refine keepK hK9 [0, 4, 6, 9, 11, 12] (by dsimp) (by dsimp) ?_
   refine T.seq fun K10 hK10 => ?_
   refine T.seq fun K11 hK11 => ?_
   refine T.region ?_
   refine rs rfl rfl (ok_move (.inl rfl)) ?_
   refine rs rfl rfl (ok_unOp rfl rfl) ?_
   refine ro_nil ?_
   refine keepK hK11 [0, 4, 6, 9, 11, 42] (by dsimp) (by dsimp) ?_
   refine T.cond rfl (fun hc => ?_) (fun hc => ?_) -- cond 3
   ·(try simp only [dE] at hc)
    have hok : okp = false := by simpa using hc
    subst hok
    rw [logS_3 hck hg hp] at hQ
    refine T.seq fun K12 hK12 => ?_
    refine T.region ?_
    refine rs rfl rfl (ok_build rfl ti_api_Found rfl) ?_
    refine rs rfl rfl (ok_store rfl ti_api_Found (by decide) rfl rfl rfl rfl rfl (by first | exact Nat.le_of_ble_eq_true rfl | simp) (by first | exact .inl ⟨rfl, rfl⟩ | exact .inr rfl)) ?_
    refine rs rfl rfl (ok_move (.inr rfl)) ?_
    refine ro_nil ?_
    refine keepK hK12 [6, 7] (by dsimp) (by dsimp) ?_
    refine T.ret (hQ _ _ _ rfl ?_).1 -- ret 3
    exact fd_no (e := 13) rfl rfl
   ·(try simp only [dE] at hc)
    have hok : okp = true := by simpa using hc
    subst hok
    rw [logS_4 hck hg hp] at hQ
    obtain ⟨hk, hn1, hnl⟩ := hin1 rfl
    have hrs0 : RS s0 := by
      have hx := hp
      unfold chkP at hx
      split at hx
      · cases hx
      · have h1 := (Prod.mk.inj hx).1
        have h2 := of_decide_eq_true (Prod.mk.inj hx).2
        have hlw := getS_right x.body
        rw [← h1]
        exact hlw h2.1
    obtain ⟨R, hR⟩ : ∃ R, folN b c.blk (b.length + 1) s0 0 n0 = R := ⟨_, rfl⟩
    rw [hR] at hQ
    refine T.skip ?_
    refine keepK hK10 [0, 4, 6, 9, 11] (by dsimp) (by dsimp) ?_
    refine T.seq fun K13 hK13 => ?_
    refine T.region ?_
    refine rs rfl rfl (ok_load rfl ti_api_State rfl rfl) ?_
    refine rs rfl rfl (ok_move (.inl rfl)) ?_
    refine rs rfl rfl (ok_build rfl ti_api_Found rfl) ?_
    refine rs rfl rfl (ok_alloc rfl ti_api_Found rfl (by decide)) ?_
    refine rs rfl rfl (ok_store rfl ti_api_Found (by decide) rfl rfl rfl rfl rfl (by first | exact Nat.le_of_ble_eq_true rfl | simp) (by first | exact .inl ⟨rfl, rfl⟩ | exact .inr rfl)) ?_
    refine ro_nil ?_
    refine keepK hK13 [0, 4, 6, 13] (by dsimp) (by dsimp) ?_
    refine T.seq fun K14 hK14 => ?_
    refine T.label ?_
    refine keepK hK14 [0, 4, 6, 13] (by dsimp) (by dsimp) ?_
    refine T.seq fun K15 hK15 => ?_
    refine T.block ?_
    refine T.loopI (ι := Nat × St × Int × Int) (fun j => folN b c.blk j.1 j.2.1 j.2.2.1 j.2.2.2 = R ∧ RS j.2.1 ∧ (0 ≤ j.2.2.2 ∧ j.2.2.2 * c.blk ≤ b.length) ∧ (0 ≤ j.2.2.1 ∧ j.2.2.1 ≤ j.2.2.2) ∧ (b.length : Int) < j.2.2.2 * c.blk + j.1) (fun j => j.1) (fun j => ([(0, .fz 1 (ints .u8 b)), (4, .ref 0 0 0), (6, .ref 1 0 0), (13, .ref 2 0 0)], [some (CB c), some Z17, some (FdB j.2.1 j.2.2.1 j.2.2.2)])) (b.length + 1, s0, 0, n0) ⟨hR, hrs0, ⟨by dsimp only at hn1 ⊢; omega, hnl⟩, ⟨Int.le_refl _, by dsimp only at hn1 ⊢; omega⟩, by have : 0 ≤ n0 * c.blk := Int.mul_nonneg (by dsimp only at hn1; omega) (by omega); dsimp only; omega⟩ (TEnt.fin [0, 1, 4] (by decide) (by simp) (by show [some (Blk.ren _ (CB c)), some (Blk.ren _ Z17), some (Blk.ren _ (FdB s0 0 n0))] = _; rw [CB_ren, FdB_ren]; rfl) ⟨by simp [AV.ren, renL_ints], rfl, rfl, rfl, trivial⟩) (fun i hi => ?_) -- loop 1
    obtain ⟨f, s, cnt, n⟩ := i
    obtain ⟨h1, h2, h3, h4, h5⟩ := hi
    dsimp only at h1 h2 h3 h4 h5
    have hfw := RS_few h2
    have hnk : 0 ≤ n * c.blk := Int.mul_nonneg h3.1 (by omega)
    have hnn : n ≤ n * c.blk := by have := Int.mul_le_mul_of_nonneg_left hk.1 h3.1; omega
    obtain ⟨f, rfl⟩ : ∃ f', f = f' + 1 := ⟨f - 1, by omega⟩
    obtain ⟨y, hy⟩ : ∃ y, b.drop (n * c.blk).toNat = y := ⟨_, rfl⟩
    have hyB : Bytes y := by rw [← hy]; exact hB.drop _
    have hyl : y.length + (n * c.blk).toNat = b.length := by rw [← hy, List.length_drop]; omega
    obtain ⟨⟨x2, m2, e2⟩, hg2⟩ : ∃ q, getR y c.blk = q := ⟨_, rfl⟩
    have hget2 := get_ok y c.blk hyB (by omega)
    have hin2' := getR_in (k := c.blk) hyB
    rw [hg2] at hget2 hin2'
    obtain ⟨g1, g2, g3⟩ := hin2'
    dsimp only at g1 g2 g3
    rw [← hy] at hg2
    refine T.ent (TEnt.toH (tm' := [(0, .fz 1 (ints .u8 b)), (4, .ref 0 0 0), (6, .ref 1 0 0), (13, .ref 2 0 0)]) (H' := [some (CB c), some Z17, some (FdB s cnt n)]) rfl ⟨rfl, rfl, rfl, rfl, trivial⟩) ?_
    refine T.block ?_
    refine T.seq fun K16 hK16 => ?_
    refine T.join hK16 [(0, .fz 1 (ints .u8 b)), (4, .ref 0 0 0), (6, .ref 1 0 0), (13, .ref 2 0 0), (14, .ref 3 0 0), (15, .int m2), (16, .int e2)] [some (CB c), some Z17, some (FdB s cnt n), some (RcB x2)] (fun hJ17 => ?_) ?_
    ·
     refine T.draw mixed (SH [] (HeldL ([some (CB c), some Z17, some (FdB s cnt n)]))) ?_
     refine any_take 0 rfl (by first | rfl | decide +kernel) rfl (by first | (simp [HeldL]; done) | (simp only [dH]; (repeat' first | trivial | rfl | constructor))) (fun H' hH => OpOk.step (ok_move (.inl rfl))) ?_
     refine any_take 1 rfl (by first | rfl | decide +kernel) rfl (by first | (simp [HeldL]; done) | (simp only [dH]; (repeat' first | trivial | rfl | constructor))) (fun H' hH => OpOk.step (ok_fieldAddr rfl ti_api_Found rfl rfl ti_int (by decide) rfl)) ?_
     refine any_take 2 rfl (by first | rfl | decide +kernel) rfl (by first | (simp [HeldL]; done) | (simp only [dH]; (repeat' first | trivial | rfl | constructor))) (fun H' hH => OpOk.step (ok_load rfl ti_int (locA_held hH rfl) rfl)) ?_
     refine any_take 3 rfl (by first | rfl | decide +kernel) rfl (by first | (simp [HeldL]; done) | (simp only [dH]; (repeat' first | trivial | rfl | constructor))) (fun H' hH => OpOk.step (ok_fieldAddr rfl ti_api_Conf rfl rfl ti_int (by decide) rfl)) ?_
     refine any_take 4 rfl (by first | rfl | decide +kernel) rfl (by first | (simp [HeldL]; done) | (simp only [dH]; (repeat' first | trivial | rfl | constructor))) (fun H' hH => OpOk.step (ok_load rfl ti_int (locA_held hH rfl) rfl)) ?_
     refine any_take 5 rfl (by first | rfl | decide +kernel) rfl (by first | (simp [HeldL]; done) | (simp only [dH]; (repeat' first | trivial | rfl | constructor))) (fun H' hH => OpOk.step (ok_mul64 rfl ti_int rfl rfl (by omega) (by omega))) ?_
     refine any_take 6 rfl (by first | rfl | decide +kernel) rfl (by first | (simp [HeldL]; done) | (simp only [dH]; (repeat' first | trivial | rfl | constructor))) (fun H' hH => OpOk.step ((ok_slice rfl ti_Luint8 (.inl ⟨_, _, rfl, ti_uint8, rfl⟩) (zl := some (n * c.blk)) (zh := none) rfl rfl rfl (r := .fz 1 (ints .u8 y)) (sliceA_held hH (by
  have q1 : n * c.blk ≤ b.length := h3.2
  rw [← hy]
  simp [sliceA, q1, hnk, ints, List.map_drop, List.take_of_length_le]))))) ?_
     refine any_take 7 rfl (by first | rfl | decide +kernel) rfl (by first | (simp [HeldL]; done) | (simp only [dH]; (repeat' first | trivial | rfl | constructor))) (fun H' hH => OpOk.step (ok_fieldAddr rfl ti_api_Conf rfl rfl ti_int (by decide) rfl)) ?_
     refine any_take 8 rfl (by first | rfl | decide +kernel) rfl (by first | (simp [HeldL]; done) | (simp only [dH]; (repeat' first | trivial | rfl | constructor))) (fun H' hH => OpOk.step (ok_load rfl ti_int (locA_held hH rfl) rfl)) ?_
     refine any_many [9, 14] (by first | rfl | decide +kernel) (by decide) (fun k hk => ?_)
     simp only [List.mem_cons, List.not_mem_nil, or_false] at hk
     rcases hk with rfl | rfl
     ·
      refine step_one rfl rfl rfl (ok_call rfl rfl rfl (hget2.plain (by simp [renL, AV.ren, renL_ints]) (by simp [AV.ren, renL, RcC_ren]))) (.inr (by first | (simp [HeldL]; done) | (simp only [dH]; (repeat' first | trivial | rfl | constructor)))) ?_
      refine any_take 10 rfl (by first | rfl | decide +kernel) rfl (by first | (simp [HeldL]; done) | (simp only [dH]; (repeat' first | trivial | rfl | constructor))) (fun H' hH => OpOk.step (ok_move (.inl rfl))) ?_
      refine any_take 11 rfl (by first | rfl | decide +kernel) rfl (by first | (simp [HeldL]; done) | (simp only [dH]; (repeat' first | trivial | rfl | constructor))) (fun H' hH => OpOk.step (ok_extract rfl rfl rfl)) ?_
      refine any_take 12 rfl (by first | rfl | decide +kernel) rfl (by first | (simp [HeldL]; done) | (simp only [dH]; (repeat' first | trivial | rfl | constructor))) (fun H' hH => OpOk.step (ok_extract rfl rfl rfl)) ?_
      refine any_take 13 rfl (by first | rfl | decide +kernel) rfl (by first | (simp [HeldL]; done) | (simp only [dH]; (repeat' first | trivial | rfl | constructor))) (fun H' hH => OpOk.step (ok_extract rfl rfl rfl)) ?_
      refine any_one 14 rfl (by first | rfl | decide +kernel) rfl rfl (OpOk.step (ok_alloc rfl ti_api_Rec rfl (by decide))) (.inr (by first | (simp [HeldL]; done) | (simp only [dH]; (repeat' first | trivial | rfl | constructor)))) ?_
      refine any_one 15 rfl (by first | rfl | decide +kernel) rfl rfl (OpOk.step (ok_store rfl ti_api_Rec (by decide) rfl rfl rfl rfl rfl (by first | exact Nat.le_of_ble_eq_true rfl | simp) (by first | exact .inl ⟨rfl, rfl⟩ | exact .inr rfl))) (.inr (by first | (simp [HeldL]; done) | (simp only [dH]; (repeat' first | trivial | rfl | constructor)))) ?_
      refine any_take 16 rfl (by first | rfl | decide +kernel) rfl (by first | (simp [HeldL]; done) | (simp only [dH]; (repeat' first | trivial | rfl | constructor))) (fun H' hH => OpOk.step (ok_move (.inr rfl))) ?_
      refine any_take 17 rfl (by first | rfl | decide +kernel) rfl (by first | (simp [HeldL]; done) | (simp only [dH]; (repeat' first | trivial | rfl | constructor))) (fun H' hH => OpOk.step (ok_move (.inr rfl))) ?_
      refine any_done rfl ?_
      exact hJ17 _ _ (TEnt.toH rfl ⟨rfl, rfl, rfl, rfl, rfl, rfl, rfl, trivial⟩)
     ·
      refine step_one rfl rfl rfl (OpOk.step (ok_alloc rfl ti_api_Rec rfl (by decide))) (.inr (by first | (simp [HeldL]; done) | (simp only [dH]; (repeat' first | trivial | rfl | constructor)))) ?_
      refine any_one 9 rfl (by first | rfl | decide +kernel) rfl rfl (ok_call rfl rfl rfl (hget2.plain (by simp [renL, AV.ren, renL_ints]) (by simp [AV.ren, renL, RcC_ren]))) (.inr (by first | (simp [HeldL]; done) | (simp only [dH]; (repeat' first | trivial | rfl | constructor)))) ?_
      refine any_take 10 rfl (by first | rfl | decide +kernel) rfl (by first | (simp [HeldL]; done) | (simp only [dH]; (repeat' first | trivial | rfl | constructor))) (fun H' hH => OpOk.step (ok_move (.inl rfl))) ?_
      refine any_take 11 rfl (by first | rfl | decide +kernel) rfl (by first | (simp [HeldL]; done) | (simp only [dH]; (repeat' first | trivial | rfl | constructor))) (fun H' hH => OpOk.step (ok_extract rfl rfl rfl)) ?_
      refine any_take 12 rfl (by first | rfl | decide +kernel) rfl (by first | (simp [HeldL]; done) | (simp only [dH]; (repeat' first | trivial | rfl | constructor))) (fun H' hH => OpOk.step (ok_extract rfl rfl rfl)) ?_
      refine any_take 13 rfl (by first | rfl | decide +kernel) rfl (by first | (simp [HeldL]; done) | (simp only [dH]; (repeat' first | trivial | rfl | constructor))) (fun H' hH => OpOk.step (ok_extract rfl rfl rfl)) ?_
      refine any_one 15 rfl (by first | rfl | decide +kernel) rfl rfl (OpOk.step (ok_store rfl ti_api_Rec (by decide) rfl rfl rfl rfl rfl (by first | exact Nat.le_of_ble_eq_true rfl | simp) (by first | exact .inl ⟨rfl, rfl⟩ | exact .inr rfl))) (.inr (by first | (simp [HeldL]; done) | (simp only [dH]; (repeat' first | trivial | rfl | constructor)))) ?_
      refine any_take 16 rfl (by first | rfl | decide +kernel) rfl (by first | (simp [HeldL]; done) | (simp only [dH]; (repeat' first | trivial | rfl | constructor))) (fun H' hH => OpOk.step (ok_move (.inr rfl))) ?_
      refine any_take 17 rfl (by first | rfl | decide +kernel) rfl (by first | (simp [HeldL]; done) | (simp only [dH]; (repeat' first | trivial | rfl | constructor))) (fun H' hH => OpOk.step (ok_move (.inr rfl))) ?_
      refine any_done rfl ?_
      exact hJ17 _ _ (TEnt.toH rfl ⟨rfl, rfl, rfl, rfl, rfl, rfl, rfl, trivial⟩)
    refine T.seq fun K18 hK18 => ?_
    refine T.seq fun K19 hK19 => ?_
    refine T.region ?_
    refine rs rfl rfl (ok_move (.inl rfl)) ?_
    refine rs rfl rfl (ok_binOp rfl ti_api_Errno rfl) ?_
    refine ro_nil ?_
    refine keepK hK19 [0, 4, 6, 13, 14, 15, 62] (by dsimp) (by dsimp) ?_
    refine T.cond rfl (fun hc => ?_) (fun hc => ?_) -- cond 4
    ·(try simp only [dE] at hc)
     rw [← h1, folN_1 hg2 hc] at hQ
     refine T.exit ?_
     refine keepK hK15 [6, 13] (by dsimp) (by dsimp) ?_
     refine T.seq fun K20 hK20 => ?_
     refine T.region ?_
     refine rs rfl rfl (ok_load rfl ti_api_Found rfl rfl) ?_
     refine rs rfl rfl (ok_store rfl ti_api_Found (by decide) rfl rfl rfl rfl rfl (by first | exact Nat.le_of_ble_eq_true rfl | simp) (by first | exact .inl ⟨rfl, rfl⟩ | exact .inr rfl)) ?_
     refine rs rfl rfl (ok_move (.inr rfl)) ?_
     refine ro_nil ?_
     refine keepK hK20 [6, 7] (by dsimp) (by dsimp) ?_
     refine T.ret (hQ _ _ _ rfl ?_).1 -- ret 4
     exact TEnt.fin [] (by decide) (by simp) rfl ⟨by show AV.tup (renL _ [.agg (FdC s cnt n), .int 0]) = _; simp [renL, AV.ren, FdC_ren], trivial⟩
    ·(try simp only [dE] at hc)
     obtain rfl : e2 = 0 := hc
     obtain ⟨i1, i2, i3⟩ := g1 rfl
     obtain ⟨⟨t, e3⟩, ha⟩ : ∃ q, applyS s x2 = q := ⟨_, rfl⟩
     have hap := sapply_ok s x2 (by omega) (by omega) (fun z hz => by have := hfw.2.2.1 z hz; omega) hfw.2.2.2 (by omega)
     rw [ha] at hap
     refine T.skip ?_
     refine keepK hK18 [0, 4, 6, 13, 14, 15] (by dsimp) (by dsimp) ?_
     refine T.seq fun K21 hK21 => ?_
     refine T.region ?_
     refine rs rfl rfl (ok_fieldAddr rfl ti_api_Found rfl rfl ti_api_State (by decide) rfl) ?_
     refine rs rfl rfl ((ok_load rfl ti_api_State rfl rfl).eq (x' := .agg (StC s)) rfl rfl) ?_
     refine rs rfl rfl (ok_load rfl ti_api_Rec rfl rfl) ?_
     refine ro rfl rfl (ok_call rfl rfl rfl (hap.plain (by show renL _ [.agg (StC s), .agg (List.take 10 (RcC x2))] = _; rw [RcC_take]; simp [renL, AV.ren, StC_ren, RcC_ren]) (by simp [AV.ren, renL, StC_ren]))) ?_
     refine rs rfl rfl (ok_move (.inl rfl)) ?_
     refine rs rfl rfl (ok_extract rfl rfl rfl) ?_
     refine rs rfl rfl (ok_extract rfl rfl rfl) ?_
     refine rs rfl rfl (ok_alloc rfl ti_api_State rfl (by decide)) ?_
     refine rs rfl rfl (ok_store rfl ti_api_State (by decide) rfl rfl rfl rfl rfl (by first | exact Nat.le_of_ble_eq_true rfl | simp) (by first | exact .inl ⟨rfl, rfl⟩ | exact .inr rfl)) ?_
     refine rs rfl rfl (ok_move (.inr rfl)) ?_
     refine ro_nil ?_
     refine keepK hK21 [0, 4, 6, 13, 15, 16, 17] (by dsimp) (by dsimp) ?_
     refine T.seq fun K22 hK22 => ?_
     refine T.seq fun K23 hK23 => ?_
     refine T.region ?_
     refine rs rfl rfl (ok_move (.inl rfl)) ?_
     refine rs rfl rfl (ok_binOp rfl ti_api_Errno rfl) ?_
     refine ro_nil ?_
     refine keepK hK23 [0, 4, 6, 13, 15, 17, 71] (by dsimp) (by dsimp) ?_
     refine T.cond rfl (fun hc => ?_) (fun hc => ?_) -- cond 5
     ·(try simp only [dE] at hc)
      rw [← h1, folN_2 hg2 ha hc] at hQ
      refine T.exit ?_
      refine keepK hK15 [6, 13] (by dsimp) (by dsimp) ?_
      refine T.seq fun K24 hK24 => ?_
      refine T.region ?_
      refine rs rfl rfl (ok_load rfl ti_api_Found rfl rfl) ?_
      refine rs rfl rfl (ok_store rfl ti_api_Found (by decide) rfl rfl rfl rfl rfl (by first | exact Nat.le_of_ble_eq_true rfl | simp) (by first | exact .inl ⟨rfl, rfl⟩ | exact .inr rfl)) ?_
      refine rs rfl rfl (ok_move (.inr rfl)) ?_
      refine ro_nil ?_
      refine keepK hK24 [6, 7] (by dsimp) (by dsimp) ?_
      refine T.ret (hQ _ _ _ rfl ?_).1 -- ret 5
      exact TEnt.fin [] (by decide) (by simp) rfl ⟨by show AV.tup (renL _ [.agg (FdC s cnt n), .int 0]) = _; simp [renL, AV.ren, FdC_ren], trivial⟩
     ·(try simp only [dE] at hc)
      obtain rfl : e3 = 0 := hc
      have hmk : 0 ≤ m2 * c.blk := Int.mul_nonneg (by omega) (by omega)
      have hmm : m2 ≤ m2 * c.blk := by have := Int.mul_le_mul_of_nonneg_left hk.1 (show 0 ≤ m2 by omega); omega
      have hnm : (n + m2) * c.blk = n * c.blk + m2 * c.blk := Int.add_mul ..
      have hrt : RS t := (apply_right h2 ha).1
      refine T.skip ?_
      refine keepK hK22 [0, 4, 6, 13, 15, 17] (by dsimp) (by dsimp) ?_
      refine T.region ?_
      refine rs rfl rfl (ok_load rfl ti_api_State rfl rfl) ?_
      refine rs rfl rfl (ok_fieldAddr rfl ti_api_Found rfl rfl ti_int (by decide) rfl) ?_
      refine rs rfl rfl (ok_load rfl ti_int rfl rfl) ?_
      refine rs rfl rfl (ok_add64 rfl ti_int rfl rfl (by omega) (by omega)) ?_
      refine rs rfl rfl (ok_fieldAddr rfl ti_api_Found rfl rfl ti_int (by decide) rfl) ?_
      refine rs rfl rfl (ok_load rfl ti_int rfl rfl) ?_
      refine rs rfl rfl (ok_move (.inl rfl)) ?_
      refine rs rfl rfl (ok_add64 rfl ti_int rfl rfl (by omega) (by omega)) ?_
      refine rs rfl rfl (ok_build rfl ti_api_Found rfl) ?_
      refine rs rfl rfl (ok_store rfl ti_api_Found (by decide) rfl rfl rfl rfl rfl (by first | exact Nat.le_of_ble_eq_true rfl | simp) (by first | exact .inl ⟨rfl, rfl⟩ | exact .inr rfl)) ?_
      refine ro_nil ?_
      exact ⟨(f, t, cnt + 1, n + m2), ⟨by rw [← folN_3 hg2 ha]; exact h1, hrt, ⟨by dsimp only; omega, by dsimp only; omega⟩, ⟨by dsimp only; omega, by dsimp only; omega⟩, by dsimp only; omega⟩, by dsimp only; omega, TEnt.fin [0, 1, 2] (by decide) (by simp) (by show [some (Blk.ren _ (CB c)), some (Blk.ren _ Z17), some (Blk.ren _ (FdB t (cnt + 1) (n + m2)))] = _; rw [CB_ren, FdB_ren]; rfl) ⟨by simp [AV.ren, renL_ints], rfl, rfl, rfl, trivial⟩⟩
end Go.Proofs.Ytjklgbafnfoolaa.AmF
namespace Go.Proofs.Ytjklgbafnfoolaa.AmF
open Go Go.AM
set_option maxRecDepth 100000
set_option maxHeartbeats 4000000
set_option linter.unusedSimpArgs false
set_option linter.unusedVariables false
attribute [local simp] tkeep tget tput ev cav argsTM pickA normT putA splice AV.cells ints_length rowsA_length Prs_len Zns_len
def SBg (c : Cf) (m n : Nat) (a b : Nat) : Blk := SB (newS c) (.sl a 0 m) (.sl b 0 n)
theorem SBg_ren {ρ : Nat → Option Nat} {c : Cf} {m n a a' b b' : Nat} (ha : ρ a = some a') (hb : ρ b = some b') : some (Blk.ren ρ (SBg c m n a b)) = some (SBg c m n a' b') := SB_ren ha hb
theorem rn_ok {k : Nat} {tm : TM} {H : Heap} {n m : Nat} (s : St) (hk : k = 0) (h : tget tm 0 = .agg (StS s (.sl 2 0 n) (.sl 3 0 m))) (hn : n = s.st.length) (hm : m = s.zs.length) (ha : hget H 2 = some ⟨1, true, ints .i64 s.st⟩) (hb : hget H 3 = some ⟨6, true, Zns s.zs⟩) : TEnt k tm H [(0, .agg (StC s))] [] := by
  subst hk
  have h3 := hget_lt ha
  have h4 := hget_lt hb
  refine (TEnt.freeze 2 ha).trans ((TEnt.freeze 3 (b := ⟨6, true, Zns s.zs⟩) (by rw [hget_set, if_neg (by omega)]; exact hb)).trans ((TEnt.put1 0 (x' := .agg (StC s)) (by
    rw [h]
    refine Ent.st' s hn hm ?_ ?_
    · rw [hget_set, if_neg (by omega), hget_set, if_pos ⟨rfl, h3⟩]
    · rw [hget_set, if_pos ⟨rfl, by simpa using h4⟩])).trans (TEnt.fin [] (by decide) (by simp) rfl ⟨by simp [AV.ren, renL, StC_ren], trivial⟩)))
theorem rnew11_ok (c : Cf) (hck : chkC c = 0) : CSpec Try.prog 11 [] [.agg (CC c)] [] (.agg (StC (newS c))) := by
 have hk := chkC_ok hck
 obtain ⟨m, hm⟩ : ∃ m : Nat, c.mem = m := ⟨c.mem.toNat, by have := hk.2.1; omega⟩
 obtain ⟨n, hn⟩ : ∃ n : Nat, c.zon = n := ⟨c.zon.toNat, by unfold okC at hk; omega⟩
 have hmb : m ≤ 16 := by have := hk.2.1; omega
 have hnb : n ≤ 64 := by unfold okC at hk; omega
 have hzs : (newS c).zs = List.replicate n z0 := by show List.replicate c.zon.toNat z0 = _; rw [hn]; rfl
 have hst : (newS c).st = List.replicate m 0 := by show List.replicate c.mem.toNat 0 = _; rw [hm]; rfl
 refine CSpec.body Try.func11 rfl rfl rfl rfl rfl fun Q hQ => ?_
 refine T.seq fun K1 hK1 => ?_
 refine T.region ?_
 refine rs rfl rfl (ok_box (n := 11) rfl rfl (by decide)) ?_
 refine rs rfl rfl (ok_alloc rfl ti_api_State rfl (by decide)) ?_
 refine ro_nil ?_
 refine keepK hK1 [1, 2] (by dsimp) (by dsimp) ?_
 refine T.seq fun K2 hK2 => ?_
 refine T.region ?_
 refine rs rfl rfl (ok_load rfl ti_api_Conf rfl rfl) ?_
 refine rs rfl rfl (((ok_build rfl ti_api_State rfl).eq (x' := .agg (StS (newS c) (.v (.slice none 0 0)) (.v (.slice none 0 0)))) rfl rfl).tent ((emptyAt11 0 13 1 (by decide) rfl rfl).trans ((emptyAt11 0 14 6 (by decide) rfl rfl).trans (TEnt.to ⟨rfl, trivial⟩)))) ?_
 refine rs rfl rfl (ok_alloc rfl ti_api_State rfl (by decide)) ?_
 refine rs rfl rfl (ok_store rfl ti_api_State (by decide) rfl rfl rfl rfl rfl (by first | exact Nat.le_of_ble_eq_true rfl | simp) (by first | exact .inl ⟨rfl, rfl⟩ | exact .inr rfl)) ?_
 refine ro_nil ?_
 refine keepK hK2 [1, 2, 3] (by dsimp) (by dsimp) ?_
 refine T.seq fun K3 hK3 => ?_
 refine T.seq fun K4 hK4 => ?_
 refine T.region ?_
 refine rs rfl rfl (ok_move (.inr rfl)) ?_
 refine ro_nil ?_
 refine keepK hK4 [1, 2, 3, 4] (by dsimp) (by dsimp) ?_
 refine T.block ?_
 refine T.loopI (ι := Nat) (fun i => i ≤ m) (fun i => m - i) (fun i => ([(1, .ref 0 0 0), (2, .ref 1 0 0), (3, .ref 4 0 0), (4, .int i)], [some (CB c), some Z15, some ⟨1, true, ints .i64 (List.replicate i 0)⟩, some ⟨6, true, Zns (List.replicate 0 z0)⟩, some (SBg c i 0 2 3)])) 0 (Nat.zero_le _) (TEnt.toH rfl ⟨rfl, rfl, rfl, rfl, trivial⟩) (fun i hi => ?_) -- loop 1
 refine T.seq fun K5 hK5 => ?_
 refine T.seq fun K6 hK6 => ?_
 refine T.region ?_
 refine rs rfl rfl (ok_move (.inl rfl)) ?_
 refine rs rfl rfl (ok_fieldAddr rfl ti_api_Conf rfl rfl ti_int (by decide) rfl) ?_
 refine rs rfl rfl ((ok_load rfl ti_int rfl rfl).eq (x' := .int m) (by show AV.int c.mem = _; rw [hm]) rfl) ?_
 refine rs rfl rfl (ok_binOp rfl ti_int rfl) ?_
 refine ro_nil ?_
 refine keepK hK6 [1, 2, 3, 4, 11] (by dsimp) (by dsimp) ?_
 refine T.cond rfl (fun hc => ?_) (fun hc => ?_) -- cond 1
 ·(try simp only [dE] at hc)
  refine T.skip ?_
  refine keepK hK5 [1, 2, 3, 4] (by dsimp) (by dsimp) ?_
  refine T.seq fun K7 hK7 => ?_
  refine T.block ?_
  refine T.region ?_
  refine rs rfl rfl (ok_fieldAddr rfl ti_api_State rfl rfl ti_Lint (by decide) rfl) ?_
  refine rs rfl rfl (ok_load rfl ti_Lint rfl rfl) ?_
  refine rs rfl rfl (ok_buildSlice (n := 1) (ps := #[(0, .const (.int .i64 (0)))]) rfl ti_Lint rfl ti_int (by decide) rfl rfl (by decide) rfl rfl rfl) ?_
  refine rs rfl rfl (by exact ok_append_ints (k := .i64) (xs := List.replicate i 0) (ys := [0]) rfl ti_Lint rfl ti_int rfl (by decide) rfl ti_Lint (by simp) rfl rfl rfl rfl rfl rfl rfl rfl (by simp) (by simp; omega)) ?_
  refine rs rfl rfl (ok_fieldAddr rfl ti_api_State rfl rfl ti_Lint (by decide) rfl) ?_
  refine rs rfl rfl (ok_store rfl ti_Lint (by decide) rfl rfl rfl rfl rfl (by first | exact Nat.le_of_ble_eq_true rfl | simp) (by first | exact .inl ⟨rfl, rfl⟩ | exact .inr rfl)) ?_
  refine ro_nil ?_
  refine keepK hK7 [1, 2, 3, 4] (by dsimp) (by dsimp) ?_
  refine T.region ?_
  refine rs rfl rfl (ok_move (.inl rfl)) ?_
  refine rs rfl rfl (ok_add64 rfl ti_int rfl rfl (by omega) (by omega)) ?_
  refine rs rfl rfl (ok_move (.inr rfl)) ?_
  refine ro_nil ?_
  exact ⟨i + 1, by omega, by omega, TEnt.fin [0, 1, 6, 3, 4] (by decide) (by simp) (heap5 (congrArg some (CB_ren _ _)) rfl (by show some (Blk.ren _ ⟨1, true, ints .i64 (List.replicate i 0 ++ [0])⟩) = _; rw [← List.replicate_succ']; exact ib_ren _ _) (znb_ren _ _) (by show some (Blk.ren _ (SBg c ((List.replicate i (0 : Int) ++ [0]).length) 0 6 3)) = _; rw [List.length_append, List.length_replicate]; exact SBg_ren (by decide) (by decide))) ⟨rfl, rfl, rfl, rfl, trivial⟩⟩
 ·(try simp only [dE] at hc)
  have him : i = m := by omega
  subst him
  obtain ⟨M, hM⟩ : ∃ M, M = i := ⟨_, rfl⟩
  subst hM
  refine T.exit ?_
  refine keepK hK3 [1, 2, 3] (by dsimp) (by dsimp) ?_
  refine T.seq fun K8 hK8 => ?_
  refine T.seq fun K9 hK9 => ?_
  refine T.region ?_
  refine rs rfl rfl (ok_move (.inr rfl)) ?_
  refine ro_nil ?_
  refine keepK hK9 [1, 2, 3, 5] (by dsimp) (by dsimp) ?_
  refine T.block ?_
  refine T.loopI (ι := Nat) (fun k => k ≤ n) (fun k => n - k) (fun k => ([(1, .ref 0 0 0), (2, .ref 1 0 0), (3, .ref 4 0 0), (5, .int k)], [some (CB c), some Z15, some ⟨1, true, ints .i64 (List.replicate M 0)⟩, some ⟨6, true, Zns (List.replicate k z0)⟩, some (SBg c M k 2 3)])) 0 (Nat.zero_le _) (TEnt.toH rfl ⟨rfl, rfl, rfl, rfl, trivial⟩) (fun i hi => ?_) -- loop 2
  refine T.seq fun K10 hK10 => ?_
  refine T.seq fun K11 hK11 => ?_
  refine T.region ?_
  refine rs rfl rfl (ok_move (.inl rfl)) ?_
  refine rs rfl rfl (ok_fieldAddr rfl ti_api_Conf rfl rfl ti_int (by decide) rfl) ?_
  refine rs rfl rfl ((ok_load rfl ti_int rfl rfl).eq (x' := .int n) (by show AV.int c.zon = _; rw [hn]) rfl) ?_
  refine rs rfl rfl (ok_binOp rfl ti_int rfl) ?_
  refine ro_nil ?_
  refine keepK hK11 [1, 2, 3, 5, 22] (by dsimp) (by dsimp) ?_
  refine T.cond rfl (fun hc => ?_) (fun hc => ?_) -- cond 2
  ·(try simp only [dE] at hc)
   refine T.skip ?_
   refine keepK hK10 [1, 2, 3, 5] (by dsimp) (by dsimp) ?_
   refine T.seq fun K12 hK12 => ?_
   refine T.block ?_
   refine T.region ?_
   refine rs rfl rfl (ok_fieldAddr rfl ti_api_State rfl rfl ti_Lapi_Zone (by decide) rfl) ?_
   refine rs rfl rfl (ok_load rfl ti_Lapi_Zone rfl rfl) ?_
   refine rs rfl rfl (((ok_build rfl ti_api_Zone rfl).eq (x' := .agg (ZnS z0 (.v (.slice none 0 0)))) rfl rfl).tent ((TEnt.put1 0 (x' := .agg (ZnC z0)) (Ent.agg (EntL.cons (Ent.refl _) (EntL.cons (Ent.refl _) (EntL.cons (Ent.refl _) (EntL.cons (Ent.refl _) (EntL.cons (Ent.refl _) (EntL.cons (Ent.nil 2) EntL.nil)))))))).trans (TEnt.to ⟨rfl, trivial⟩))) ?_
   refine rs rfl rfl (ok_buildSlice (n := 1) (ps := #[(0, .tmp 27)]) rfl ti_Lapi_Zone rfl ti_api_Zone (by decide) rfl rfl (by decide) rfl rfl rfl) ?_
   refine rs rfl rfl (by exact ok_append_map (fun z => .agg (ZnC z)) (xs := List.replicate i z0) (ys := [z0]) rfl ti_Lapi_Zone rfl ti_api_Zone (by decide) (by decide) rfl ti_Lapi_Zone (by simp) rfl rfl rfl rfl rfl rfl rfl rfl (by simp) (by simp; omega)) ?_
   refine rs rfl rfl (ok_fieldAddr rfl ti_api_State rfl rfl ti_Lapi_Zone (by decide) rfl) ?_
   refine rs rfl rfl (ok_store rfl ti_Lapi_Zone (by decide) rfl rfl rfl rfl rfl (by first | exact Nat.le_of_ble_eq_true rfl | simp) (by first | exact .inl ⟨rfl, rfl⟩ | exact .inr rfl)) ?_
   refine ro_nil ?_
   refine keepK hK12 [1, 2, 3, 5] (by dsimp) (by dsimp) ?_
   refine T.region ?_
   refine rs rfl rfl (ok_move (.inl rfl)) ?_
   refine rs rfl rfl (ok_add64 rfl ti_int rfl rfl (by omega) (by omega)) ?_
   refine rs rfl rfl (ok_move (.inr rfl)) ?_
   refine ro_nil ?_
   exact ⟨i + 1, by omega, by omega, TEnt.fin [0, 1, 2, 6, 4] (by decide) (by simp) (heap5 (congrArg some (CB_ren _ _)) rfl (ib_ren _ _) (by show some (Blk.ren _ ⟨6, true, Zns (List.replicate i z0 ++ [z0])⟩) = _; rw [← List.replicate_succ']; exact znb_ren _ _) (by show some (Blk.ren _ (SBg c _ ((List.replicate i z0 ++ [z0]).length) 2 6)) = _; rw [List.length_append, List.length_replicate]; exact SBg_ren (by decide) (by decide))) ⟨rfl, rfl, rfl, rfl, trivial⟩⟩
  ·(try simp only [dE] at hc)
   have hin : i = n := by omega
   subst hin
   refine T.exit ?_
   refine keepK hK8 [2, 3] (by dsimp) (by dsimp) ?_
   refine T.seq fun K13 hK13 => ?_
   refine T.region ?_
   refine rs rfl rfl (ok_load rfl ti_api_State rfl rfl) ?_
   refine rs rfl rfl (ok_store rfl ti_api_State (by decide) rfl rfl rfl rfl rfl (by first | exact Nat.le_of_ble_eq_true rfl | simp) (by first | exact .inl ⟨rfl, rfl⟩ | exact .inr rfl)) ?_
   refine ro_nil ?_
   refine keepK hK13 [2] (by dsimp) (by dsimp) ?_
   refine T.ret (hQ _ _ _ rfl ?_).1 -- ret 1
   exact rn_ok (newS c) rfl rfl (by rw [hst]; simp) (by rw [hzs]; simp) (by rw [hst]; rfl) (by rw [hzs]; rfl)
end Go.Proofs.Ytjklgbafnfoolaa.AmF
namespace Go.Proofs.Ytjklgbafnfoolaa.AmF
open Go Go.AM
set_option maxRecDepth 100000
set_option linter.unusedSimpArgs false
set_option linter.unusedVariables false
attribute [local simp] tkeep tget tput ev cav argsTM pickA normT putA splice AV.cells ints_length rowsA_length enc_len
theorem ri_take {l : List Int} {p m : Nat} {e a b : Int} (h : p + 8 ≤ m) (hm : m ≤ l.length) : ri (l.take m) p e a b = ri l p e a b := by
  have hv : val8 (l.take m) p = val8 l p := by
    unfold val8
    rw [List.drop_take, List.take_take, Nat.min_eq_left (by omega)]
  have hl : (l.take m).length = m := by rw [List.length_take]; omega
  unfold ri
  rw [hv, hl]
  have h1 : ¬ m < p + 8 := by omega
  have h2 : ¬ l.length < p + 8 := by omega
  rw [if_neg h1, if_neg h2]
theorem gQ0_at {l : List Int} (h : (gQ0 l).2.1 = 0) : (gQ0 l).1 = 8 := by
  unfold gQ0 ri at h ⊢
  rw [if_neg (by simp)] at h ⊢
  split at h
  · simp at h
  · rename_i h2
    rw [if_neg h2]
    split <;> rfl
theorem gQ0_eq {l : List Int} (h : 16 ≤ l.length) : ri l 0 0 0 1048656 = gQ0 l := (ri_take (by omega) h).symm
theorem gQ1_eq {l : List Int} (h : 16 ≤ l.length) (h0 : (gQ0 l).2.1 = 0) : ri l (gQ0 l).1 (gQ0 l).2.1 (-9223372036854775808) 9223372036854775807 = gQ1 l := (ri_take (by rw [gQ0_at h0]; omega) h).symm
theorem val8_I64 (l : List Int) (p : Nat) : -9223372036854775808 ≤ val8 l p ∧ val8 l p ≤ 9223372036854775807 := by
  unfold val8 IntKind.wrap
  simp [IntKind.bits, IntKind.signed]
  omega
theorem gQ1_err {l : List Int} (h : 16 ≤ l.length) : (gQ1 l).2.1 ≠ 0 ↔ (gQ0 l).2.1 ≠ 0 := by
  have hl : (l.take 16).length = 16 := by rw [List.length_take]; omega
  by_cases h0 : (gQ0 l).2.1 = 0
  · have hv := val8_I64 (l.take 16) 8
    have : (gQ1 l).2.1 = 0 := by
      unfold gQ1
      rw [h0, gQ0_at h0]
      unfold ri
      rw [if_neg (by simp), if_neg (by omega), if_neg (by omega)]
    simp [this, h0]
  · have : (gQ1 l).2.1 = (gQ0 l).2.1 := by
      unfold gQ1
      rw [ri, if_pos h0]
    rw [this]
theorem gM_iff {l : List Int} {k j : Int} (hk : 1 ≤ k ∧ k ≤ 4096) : j * k < 16 + gN l ↔ j < gM l k := by
  have hm := gM_bd (l := l) hk
  constructor
  · intro h
    exact Int.lt_of_mul_lt_mul_right (a := k) (by omega) (by omega)
  · intro h
    have : j * k ≤ (gM l k - 1) * k := Int.mul_le_mul_of_nonneg_right (by omega) (by omega)
    rw [Int.sub_mul] at this
    omega
def rdLF (f : Nat → Int) (i n : Nat) : List Int := (List.range i).map f ++ List.replicate n 0
theorem rdLF_len (f : Nat → Int) (i n : Nat) : (rdLF f i n).length = i + n := by simp [rdLF]
theorem rdLF_put (f : Nat → Int) (i n : Nat) : splice (ints .i64 (rdLF f i (n + 1))) i [.int (f i)] = ints .i64 (rdLF f (i + 1) n) := by
  have h1 : (rdLF f i (n + 1)).take i = (List.range i).map f := by unfold rdLF; exact List.take_left' (by simp)
  have h2 : (rdLF f i (n + 1)).drop (i + 1) = List.replicate n 0 := by
    unfold rdLF
    rw [List.replicate_succ]
    have : (List.range i).map f ++ 0 :: List.replicate n 0 = ((List.range i).map f ++ [0]) ++ List.replicate n 0 := by simp
    rw [this]
    exact List.drop_left' (by simp)
  unfold splice
  rw [ints_take, h1]
  simp only [List.length_cons, List.length_nil, Nat.zero_add]
  rw [ints_drop, h2]
  simp [ints, rdLF, List.range_succ]
theorem zeroB_step {T : List Int} {m : Nat} (h : zeroB (T.take m) = true) (hm : T[m]? = some 0) : zeroB (T.take (m + 1)) = true := by
  rw [take_succ_get hm]
  unfold zeroB at h ⊢
  rw [List.all_append, h]
  rfl
theorem zeroB_hit {T : List Int} {m : Nat} {c : Int} (hm : T[m]? = some c) (hc : c ≠ 0) : ¬ zeroB T = true := by
  intro h
  have := List.all_eq_true.1 h c (List.mem_of_getElem? hm)
  exact hc (by simpa using this)
set_option maxHeartbeats 1000000 in
theorem r10get_ok (l : List Int) (k : Int) (hB : Bytes l) (hl : l.length ≤ 140737488355328) : CSpec Try.prog 8 [] [.fz 1 (ints .u8 l), .int k] [] (.tup [.agg (RcC (getR l k).1), .int (getR l k).2.1, .int (getR l k).2.2]) := by
 refine CSpec.body Try.func8 rfl rfl rfl rfl rfl fun Q hQ => ?_
 refine T.seq fun K1 hK1 => ?_
 refine T.region ?_
 refine rs rfl rfl (ok_alloc rfl ti_api_Rec rfl (by decide)) ?_
 refine rs rfl rfl (ok_move (.inr rfl)) ?_
 refine rs rfl rfl (ok_move (.inr rfl)) ?_
 refine ro_nil ?_
 refine keepK hK1 [0, 1, 4] (by dsimp) (by dsimp) ?_
 refine T.seq fun K2 hK2 => ?_
 refine T.seq fun K3 hK3 => ?_
 refine T.region ?_
 refine rs rfl rfl (ok_move (.inl rfl)) ?_
 refine rs rfl rfl (ok_binOp rfl ti_int rfl) ?_
 refine ro_case rfl rfl (OpOk.step (ok_moveb (.inl rfl) rfl)) (fun hb => ?_) (fun hb => ?_)
 ·(try simp only [dE] at hb)
  refine ro_skip rfl rfl ?_
  refine ro_skip rfl rfl ?_
  refine rs rfl rfl (ok_pickb (t := true) (d := true) rfl rfl rfl) ?_
  refine ro_nil ?_
  refine keepK hK3 [0, 1, 4, 24] (by dsimp) (by dsimp) ?_
  refine T.cond_true rfl ?_
  refine T.seq fun K4 hK4 => ?_
  refine T.region ?_
  refine rs rfl rfl (ok_build rfl ti_api_Rec rfl) ?_
  refine rs rfl rfl (ok_store rfl ti_api_Rec (by decide) rfl rfl rfl rfl rfl (by first | exact Nat.le_of_ble_eq_true rfl | simp) (by first | exact .inl ⟨rfl, rfl⟩ | exact .inr rfl)) ?_
  refine rs rfl rfl (ok_move (.inr rfl)) ?_
  refine rs rfl rfl (ok_move (.inr rfl)) ?_
  refine ro_nil ?_
  refine keepK hK4 [4, 5, 6] (by dsimp) (by dsimp) ?_
  refine T.ret (hQ _ _ _ rfl ?_).1 -- ret 1
  exact by first | (rw [getR_1 (by omega)]; exact ((TEnt.put1 0 (x' := .tup [.agg (RcC rc0), .int 0, .int 1]) (by show Ent _ (.tup [.agg [.int 0, .int 0, .int 0, .int 0, .int 0, .int 0, .int 0, .int 0, .int 0, .v (.slice none 0 0)], .int 0, .int _]) _; exact Ent.tup (EntL.cons rc0_view (EntL.refl _)))).trans (TEnt.fin [] (by decide) (by simp) rfl ⟨by simp [AV.ren, renL, RcC_ren], trivial⟩))) | (rw [getR_2 (by assumption) (by omega)]; exact ((TEnt.put1 0 (x' := .tup [.agg (RcC rc0), .int 0, .int 14]) (by show Ent _ (.tup [.agg [.int 0, .int 0, .int 0, .int 0, .int 0, .int 0, .int 0, .int 0, .int 0, .v (.slice none 0 0)], .int 0, .int _]) _; exact Ent.tup (EntL.cons rc0_view (EntL.refl _)))).trans (TEnt.fin [] (by decide) (by simp) rfl ⟨by simp [AV.ren, renL, RcC_ren], trivial⟩))) | (rw [getR_3 (by assumption) (by assumption) (by assumption)]; exact ((TEnt.put1 0 (x' := .tup [.agg (RcC rc0), .int 0, .int 13]) (by show Ent _ (.tup [.agg [.int 0, .int 0, .int 0, .int 0, .int 0, .int 0, .int 0, .int 0, .int 0, .v (.slice none 0 0)], .int 0, .int _]) _; exact Ent.tup (EntL.cons rc0_view (EntL.refl _)))).trans (TEnt.fin [] (by decide) (by simp) rfl ⟨by simp [AV.ren, renL, RcC_ren], trivial⟩))) | (rw [getR_4 (by assumption) (by assumption) (by assumption) (by assumption)]; exact ((TEnt.put1 0 (x' := .tup [.agg (RcC rc0), .int 0, .int 14]) (by show Ent _ (.tup [.agg [.int 0, .int 0, .int 0, .int 0, .int 0, .int 0, .int 0, .int 0, .int 0, .v (.slice none 0 0)], .int 0, .int _]) _; exact Ent.tup (EntL.cons rc0_view (EntL.refl _)))).trans (TEnt.fin [] (by decide) (by simp) rfl ⟨by simp [AV.ren, renL, RcC_ren], trivial⟩))) | (rw [getR_5 (by assumption) (by assumption) (by assumption) (by assumption) (by assumption)]; exact ((TEnt.put1 0 (x' := .tup [.agg (RcC rc0), .int 0, .int 15]) (by show Ent _ (.tup [.agg [.int 0, .int 0, .int 0, .int 0, .int 0, .int 0, .int 0, .int 0, .int 0, .v (.slice none 0 0)], .int 0, .int _]) _; exact Ent.tup (EntL.cons rc0_view (EntL.refl _)))).trans (TEnt.fin [] (by decide) (by simp) rfl ⟨by simp [AV.ren, renL, RcC_ren], trivial⟩))) | (rw [getR_6 (by assumption) (by assumption) (by assumption) (by assumption) (by assumption) (fun h => absurd h.2 (by assumption))]; exact ((TEnt.put1 0 (x' := .tup [.agg (RcC rc0), .int 0, .int 13]) (by show Ent _ (.tup [.agg [.int 0, .int 0, .int 0, .int 0, .int 0, .int 0, .int 0, .int 0, .int 0, .v (.slice none 0 0)], .int 0, .int _]) _; exact Ent.tup (EntL.cons rc0_view (EntL.refl _)))).trans (TEnt.fin [] (by decide) (by simp) rfl ⟨by simp [AV.ren, renL, RcC_ren], trivial⟩))) | (rw [getR_6 (by assumption) (by assumption) (by assumption) (by assumption) (by assumption) (fun h => by have h1 := h.1; unfold parOk at h1; omega)]; exact ((TEnt.put1 0 (x' := .tup [.agg (RcC rc0), .int 0, .int 13]) (by show Ent _ (.tup [.agg [.int 0, .int 0, .int 0, .int 0, .int 0, .int 0, .int 0, .int 0, .int 0, .v (.slice none 0 0)], .int 0, .int _]) _; exact Ent.tup (EntL.cons rc0_view (EntL.refl _)))).trans (TEnt.fin [] (by decide) (by simp) rfl ⟨by simp [AV.ren, renL, RcC_ren], trivial⟩))) | (rw [getR_7 (by assumption) (by assumption) (by assumption) (by assumption) (by assumption) ⟨by assumption, by assumption⟩]; exact TEnt.fin [] (by decide) (by simp) rfl ⟨by show AV.ren (pos []) (.tup [.agg (RcC (xr (gP l))), .int _, .int _]) = _; simp [AV.ren, renL, RcC_ren], trivial⟩)
 ·(try simp only [dE] at hb)
  refine rs rfl rfl (ok_move (.inl rfl)) ?_
  refine rs rfl rfl (ok_binOp rfl ti_int rfl) ?_
  refine rs rfl rfl (ok_pick rfl rfl) ?_
  refine ro_nil ?_
  refine keepK hK3 [0, 1, 4, 24] (by dsimp) (by dsimp) ?_
  refine T.cond rfl (fun hc => ?_) (fun hc => ?_) -- cond 1
  ·(try simp only [dE] at hc)
   refine T.seq fun K5 hK5 => ?_
   refine T.region ?_
   refine rs rfl rfl (ok_build rfl ti_api_Rec rfl) ?_
   refine rs rfl rfl (ok_store rfl ti_api_Rec (by decide) rfl rfl rfl rfl rfl (by first | exact Nat.le_of_ble_eq_true rfl | simp) (by first | exact .inl ⟨rfl, rfl⟩ | exact .inr rfl)) ?_
   refine rs rfl rfl (ok_move (.inr rfl)) ?_
   refine rs rfl rfl (ok_move (.inr rfl)) ?_
   refine ro_nil ?_
   refine keepK hK5 [4, 5, 6] (by dsimp) (by dsimp) ?_
   refine T.ret (hQ _ _ _ rfl ?_).1 -- ret 2
   exact by first | (rw [getR_1 (by omega)]; exact ((TEnt.put1 0 (x' := .tup [.agg (RcC rc0), .int 0, .int 1]) (by show Ent _ (.tup [.agg [.int 0, .int 0, .int 0, .int 0, .int 0, .int 0, .int 0, .int 0, .int 0, .v (.slice none 0 0)], .int 0, .int _]) _; exact Ent.tup (EntL.cons rc0_view (EntL.refl _)))).trans (TEnt.fin [] (by decide) (by simp) rfl ⟨by simp [AV.ren, renL, RcC_ren], trivial⟩))) | (rw [getR_2 (by assumption) (by omega)]; exact ((TEnt.put1 0 (x' := .tup [.agg (RcC rc0), .int 0, .int 14]) (by show Ent _ (.tup [.agg [.int 0, .int 0, .int 0, .int 0, .int 0, .int 0, .int 0, .int 0, .int 0, .v (.slice none 0 0)], .int 0, .int _]) _; exact Ent.tup (EntL.cons rc0_view (EntL.refl _)))).trans (TEnt.fin [] (by decide) (by simp) rfl ⟨by simp [AV.ren, renL, RcC_ren], trivial⟩))) | (rw [getR_3 (by assumption) (by assumption) (by assumption)]; exact ((TEnt.put1 0 (x' := .tup [.agg (RcC rc0), .int 0, .int 13]) (by show Ent _ (.tup [.agg [.int 0, .int 0, .int 0, .int 0, .int 0, .int 0, .int 0, .int 0, .int 0, .v (.slice none 0 0)], .int 0, .int _]) _; exact Ent.tup (EntL.cons rc0_view (EntL.refl _)))).trans (TEnt.fin [] (by decide) (by simp) rfl ⟨by simp [AV.ren, renL, RcC_ren], trivial⟩))) | (rw [getR_4 (by assumption) (by assumption) (by assumption) (by assumption)]; exact ((TEnt.put1 0 (x' := .tup [.agg (RcC rc0), .int 0, .int 14]) (by show Ent _ (.tup [.agg [.int 0, .int 0, .int 0, .int 0, .int 0, .int 0, .int 0, .int 0, .int 0, .v (.slice none 0 0)], .int 0, .int _]) _; exact Ent.tup (EntL.cons rc0_view (EntL.refl _)))).trans (TEnt.fin [] (by decide) (by simp) rfl ⟨by simp [AV.ren, renL, RcC_ren], trivial⟩))) | (rw [getR_5 (by assumption) (by assumption) (by assumption) (by assumption) (by assumption)]; exact ((TEnt.put1 0 (x' := .tup [.agg (RcC rc0), .int 0, .int 15]) (by show Ent _ (.tup [.agg [.int 0, .int 0, .int 0, .int 0, .int 0, .int 0, .int 0, .int 0, .int 0, .v (.slice none 0 0)], .int 0, .int _]) _; exact Ent.tup (EntL.cons rc0_view (EntL.refl _)))).trans (TEnt.fin [] (by decide) (by simp) rfl ⟨by simp [AV.ren, renL, RcC_ren], trivial⟩))) | (rw [getR_6 (by assumption) (by assumption) (by assumption) (by assumption) (by assumption) (fun h => absurd h.2 (by assumption))]; exact ((TEnt.put1 0 (x' := .tup [.agg (RcC rc0), .int 0, .int 13]) (by show Ent _ (.tup [.agg [.int 0, .int 0, .int 0, .int 0, .int 0, .int 0, .int 0, .int 0, .int 0, .v (.slice none 0 0)], .int 0, .int _]) _; exact Ent.tup (EntL.cons rc0_view (EntL.refl _)))).trans (TEnt.fin [] (by decide) (by simp) rfl ⟨by simp [AV.ren, renL, RcC_ren], trivial⟩))) | (rw [getR_6 (by assumption) (by assumption) (by assumption) (by assumption) (by assumption) (fun h => by have h1 := h.1; unfold parOk at h1; omega)]; exact ((TEnt.put1 0 (x' := .tup [.agg (RcC rc0), .int 0, .int 13]) (by show Ent _ (.tup [.agg [.int 0, .int 0, .int 0, .int 0, .int 0, .int 0, .int 0, .int 0, .int 0, .v (.slice none 0 0)], .int 0, .int _]) _; exact Ent.tup (EntL.cons rc0_view (EntL.refl _)))).trans (TEnt.fin [] (by decide) (by simp) rfl ⟨by simp [AV.ren, renL, RcC_ren], trivial⟩))) | (rw [getR_7 (by assumption) (by assumption) (by assumption) (by assumption) (by assumption) ⟨by assumption, by assumption⟩]; exact TEnt.fin [] (by decide) (by simp) rfl ⟨by show AV.ren (pos []) (.tup [.agg (RcC (xr (gP l))), .int _, .int _]) = _; simp [AV.ren, renL, RcC_ren], trivial⟩)
  ·(try simp only [dE] at hc)
   have hk : 1 ≤ k ∧ k ≤ 4096 := by omega
   refine T.skip ?_
   refine keepK hK2 [0, 1, 4] (by dsimp) (by dsimp) ?_
   refine T.seq fun K6 hK6 => ?_
   refine T.seq fun K7 hK7 => ?_
   refine T.region ?_
   refine rs rfl rfl (ok_move (.inl rfl)) ?_
   refine rs rfl rfl (ok_len' rfl rfl ti_Luint8 rfl (by first | exact ints_length _ _ | exact rowsA_length _ _ | exact Cms_len _ | exact mapLen _ | rfl)) ?_
   refine rs rfl rfl (ok_binOp rfl ti_int rfl) ?_
   refine ro_nil ?_
   refine keepK hK7 [0, 1, 4, 28] (by dsimp) (by dsimp) ?_
   refine T.cond rfl (fun hc => ?_) (fun hc => ?_) -- cond 2
   ·(try simp only [dE] at hc)
    refine T.seq fun K8 hK8 => ?_
    refine T.region ?_
    refine rs rfl rfl (ok_build rfl ti_api_Rec rfl) ?_
    refine rs rfl rfl (ok_store rfl ti_api_Rec (by decide) rfl rfl rfl rfl rfl (by first | exact Nat.le_of_ble_eq_true rfl | simp) (by first | exact .inl ⟨rfl, rfl⟩ | exact .inr rfl)) ?_
    refine rs rfl rfl (ok_move (.inr rfl)) ?_
    refine rs rfl rfl (ok_move (.inr rfl)) ?_
    refine ro_nil ?_
    refine keepK hK8 [4, 5, 6] (by dsimp) (by dsimp) ?_
    refine T.ret (hQ _ _ _ rfl ?_).1 -- ret 3
    exact by first | (rw [getR_1 (by omega)]; exact ((TEnt.put1 0 (x' := .tup [.agg (RcC rc0), .int 0, .int 1]) (by show Ent _ (.tup [.agg [.int 0, .int 0, .int 0, .int 0, .int 0, .int 0, .int 0, .int 0, .int 0, .v (.slice none 0 0)], .int 0, .int _]) _; exact Ent.tup (EntL.cons rc0_view (EntL.refl _)))).trans (TEnt.fin [] (by decide) (by simp) rfl ⟨by simp [AV.ren, renL, RcC_ren], trivial⟩))) | (rw [getR_2 (by assumption) (by omega)]; exact ((TEnt.put1 0 (x' := .tup [.agg (RcC rc0), .int 0, .int 14]) (by show Ent _ (.tup [.agg [.int 0, .int 0, .int 0, .int 0, .int 0, .int 0, .int 0, .int 0, .int 0, .v (.slice none 0 0)], .int 0, .int _]) _; exact Ent.tup (EntL.cons rc0_view (EntL.refl _)))).trans (TEnt.fin [] (by decide) (by simp) rfl ⟨by simp [AV.ren, renL, RcC_ren], trivial⟩))) | (rw [getR_3 (by assumption) (by assumption) (by assumption)]; exact ((TEnt.put1 0 (x' := .tup [.agg (RcC rc0), .int 0, .int 13]) (by show Ent _ (.tup [.agg [.int 0, .int 0, .int 0, .int 0, .int 0, .int 0, .int 0, .int 0, .int 0, .v (.slice none 0 0)], .int 0, .int _]) _; exact Ent.tup (EntL.cons rc0_view (EntL.refl _)))).trans (TEnt.fin [] (by decide) (by simp) rfl ⟨by simp [AV.ren, renL, RcC_ren], trivial⟩))) | (rw [getR_4 (by assumption) (by assumption) (by assumption) (by assumption)]; exact ((TEnt.put1 0 (x' := .tup [.agg (RcC rc0), .int 0, .int 14]) (by show Ent _ (.tup [.agg [.int 0, .int 0, .int 0, .int 0, .int 0, .int 0, .int 0, .int 0, .int 0, .v (.slice none 0 0)], .int 0, .int _]) _; exact Ent.tup (EntL.cons rc0_view (EntL.refl _)))).trans (TEnt.fin [] (by decide) (by simp) rfl ⟨by simp [AV.ren, renL, RcC_ren], trivial⟩))) | (rw [getR_5 (by assumption) (by assumption) (by assumption) (by assumption) (by assumption)]; exact ((TEnt.put1 0 (x' := .tup [.agg (RcC rc0), .int 0, .int 15]) (by show Ent _ (.tup [.agg [.int 0, .int 0, .int 0, .int 0, .int 0, .int 0, .int 0, .int 0, .int 0, .v (.slice none 0 0)], .int 0, .int _]) _; exact Ent.tup (EntL.cons rc0_view (EntL.refl _)))).trans (TEnt.fin [] (by decide) (by simp) rfl ⟨by simp [AV.ren, renL, RcC_ren], trivial⟩))) | (rw [getR_6 (by assumption) (by assumption) (by assumption) (by assumption) (by assumption) (fun h => absurd h.2 (by assumption))]; exact ((TEnt.put1 0 (x' := .tup [.agg (RcC rc0), .int 0, .int 13]) (by show Ent _ (.tup [.agg [.int 0, .int 0, .int 0, .int 0, .int 0, .int 0, .int 0, .int 0, .int 0, .v (.slice none 0 0)], .int 0, .int _]) _; exact Ent.tup (EntL.cons rc0_view (EntL.refl _)))).trans (TEnt.fin [] (by decide) (by simp) rfl ⟨by simp [AV.ren, renL, RcC_ren], trivial⟩))) | (rw [getR_6 (by assumption) (by assumption) (by assumption) (by assumption) (by assumption) (fun h => by have h1 := h.1; unfold parOk at h1; omega)]; exact ((TEnt.put1 0 (x' := .tup [.agg (RcC rc0), .int 0, .int 13]) (by show Ent _ (.tup [.agg [.int 0, .int 0, .int 0, .int 0, .int 0, .int 0, .int 0, .int 0, .int 0, .v (.slice none 0 0)], .int 0, .int _]) _; exact Ent.tup (EntL.cons rc0_view (EntL.refl _)))).trans (TEnt.fin [] (by decide) (by simp) rfl ⟨by simp [AV.ren, renL, RcC_ren], trivial⟩))) | (rw [getR_7 (by assumption) (by assumption) (by assumption) (by assumption) (by assumption) ⟨by assumption, by assumption⟩]; exact TEnt.fin [] (by decide) (by simp) rfl ⟨by show AV.ren (pos []) (.tup [.agg (RcC (xr (gP l))), .int _, .int _]) = _; simp [AV.ren, renL, RcC_ren], trivial⟩)
   ·(try simp only [dE] at hc)
    have h16 : ¬ l.length < 16 := by omega
    have hn := gN_bd (l := l)
    have hm := gM_bd (l := l) hk
    refine T.skip ?_
    refine keepK hK6 [0, 1, 4] (by dsimp) (by dsimp) ?_
    refine T.seq fun K9 hK9 => ?_
    refine T.region ?_
    refine rs rfl rfl (ok_move (.inl rfl)) ?_
    refine rs rfl rfl (ok_build rfl ti_revetmentref01_Reader rfl) ?_
    refine rs rfl rfl (ok_alloc rfl ti_revetmentref01_Reader rfl (by decide)) ?_
    refine rs rfl rfl (ok_store rfl ti_revetmentref01_Reader (by decide) rfl rfl rfl rfl rfl (by first | exact Nat.le_of_ble_eq_true rfl | simp) (by first | exact .inl ⟨rfl, rfl⟩ | exact .inr rfl)) ?_
    refine ro_nil ?_
    refine keepK hK9 [0, 1, 4, 7] (by dsimp) (by dsimp) ?_
    refine T.seq fun K10 hK10 => ?_
    refine T.region ?_
    refine rs rfl rfl (ok_load rfl ti_revetmentref01_Reader rfl rfl) ?_
    refine ro rfl rfl (ok_call rfl rfl rfl (((rint_ok l 0 0 0 1048656 hB (by omega) hl).plain (by show renL (pos []) [.agg [.fz 1 (ints .u8 l), .int 0, .int 0], .int 0, .int 1048656] = _; simp [RC, renL, AV.ren, renL_ints]) (by simp [RC, AV.ren, renL, renL_ints])).eq (x' := .tup [.agg [.fz 1 (ints .u8 l), .int (gQ0 l).1, .int (gQ0 l).2.1], .int (gN l)]) (by rw [gQ0_eq (by omega)]; rfl) rfl)) ?_
    refine rs rfl rfl (ok_move (.inl rfl)) ?_
    refine rs rfl rfl (ok_extract rfl rfl rfl) ?_
    refine rs rfl rfl (ok_extract rfl rfl rfl) ?_
    refine rs rfl rfl ((ok_store rfl ti_revetmentref01_Reader (by decide) rfl rfl rfl rfl rfl (Nat.le_of_ble_eq_true rfl) (.inl ⟨rfl, rfl⟩)).eq (H'' := [some ZB, some (R l (gQ0 l).1 (gQ0 l).2.1)]) rfl rfl) ?_
    refine rs rfl rfl (ok_move (.inr rfl)) ?_
    refine ro_nil ?_
    refine keepK hK10 [0, 1, 4, 7, 8] (by dsimp) (by dsimp) ?_
    refine T.seq fun K11 hK11 => ?_
    refine T.seq fun K12 hK12 => ?_
    refine T.region ?_
    refine rs rfl rfl (ok_fieldAddr rfl ti_revetmentref01_Reader rfl rfl ti_int (by decide) rfl) ?_
    refine rs rfl rfl (ok_load rfl ti_int rfl rfl) ?_
    refine rs rfl rfl (ok_binOp rfl ti_int rfl) ?_
    refine ro_nil ?_
    refine keepK hK12 [0, 1, 4, 7, 8, 39] (by dsimp) (by dsimp) ?_
    refine T.cond rfl (fun hc => ?_) (fun hc => ?_) -- cond 3
    ·(try simp only [dE] at hc)
     have h3 : (gQ1 l).2.1 ≠ 0 := (gQ1_err (by omega)).2 hc
     refine T.seq fun K13 hK13 => ?_
     refine T.region ?_
     refine rs rfl rfl (ok_build rfl ti_api_Rec rfl) ?_
     refine rs rfl rfl (ok_store rfl ti_api_Rec (by decide) rfl rfl rfl rfl rfl (by first | exact Nat.le_of_ble_eq_true rfl | simp) (by first | exact .inl ⟨rfl, rfl⟩ | exact .inr rfl)) ?_
     refine rs rfl rfl (ok_move (.inr rfl)) ?_
     refine rs rfl rfl (ok_move (.inr rfl)) ?_
     refine ro_nil ?_
     refine keepK hK13 [4, 5, 6] (by dsimp) (by dsimp) ?_
     refine T.ret (hQ _ _ _ rfl ?_).1 -- ret 4
     exact by first | (rw [getR_1 (by omega)]; exact ((TEnt.put1 0 (x' := .tup [.agg (RcC rc0), .int 0, .int 1]) (by show Ent _ (.tup [.agg [.int 0, .int 0, .int 0, .int 0, .int 0, .int 0, .int 0, .int 0, .int 0, .v (.slice none 0 0)], .int 0, .int _]) _; exact Ent.tup (EntL.cons rc0_view (EntL.refl _)))).trans (TEnt.fin [] (by decide) (by simp) rfl ⟨by simp [AV.ren, renL, RcC_ren], trivial⟩))) | (rw [getR_2 (by assumption) (by omega)]; exact ((TEnt.put1 0 (x' := .tup [.agg (RcC rc0), .int 0, .int 14]) (by show Ent _ (.tup [.agg [.int 0, .int 0, .int 0, .int 0, .int 0, .int 0, .int 0, .int 0, .int 0, .v (.slice none 0 0)], .int 0, .int _]) _; exact Ent.tup (EntL.cons rc0_view (EntL.refl _)))).trans (TEnt.fin [] (by decide) (by simp) rfl ⟨by simp [AV.ren, renL, RcC_ren], trivial⟩))) | (rw [getR_3 (by assumption) (by assumption) (by assumption)]; exact ((TEnt.put1 0 (x' := .tup [.agg (RcC rc0), .int 0, .int 13]) (by show Ent _ (.tup [.agg [.int 0, .int 0, .int 0, .int 0, .int 0, .int 0, .int 0, .int 0, .int 0, .v (.slice none 0 0)], .int 0, .int _]) _; exact Ent.tup (EntL.cons rc0_view (EntL.refl _)))).trans (TEnt.fin [] (by decide) (by simp) rfl ⟨by simp [AV.ren, renL, RcC_ren], trivial⟩))) | (rw [getR_4 (by assumption) (by assumption) (by assumption) (by assumption)]; exact ((TEnt.put1 0 (x' := .tup [.agg (RcC rc0), .int 0, .int 14]) (by show Ent _ (.tup [.agg [.int 0, .int 0, .int 0, .int 0, .int 0, .int 0, .int 0, .int 0, .int 0, .v (.slice none 0 0)], .int 0, .int _]) _; exact Ent.tup (EntL.cons rc0_view (EntL.refl _)))).trans (TEnt.fin [] (by decide) (by simp) rfl ⟨by simp [AV.ren, renL, RcC_ren], trivial⟩))) | (rw [getR_5 (by assumption) (by assumption) (by assumption) (by assumption) (by assumption)]; exact ((TEnt.put1 0 (x' := .tup [.agg (RcC rc0), .int 0, .int 15]) (by show Ent _ (.tup [.agg [.int 0, .int 0, .int 0, .int 0, .int 0, .int 0, .int 0, .int 0, .int 0, .v (.slice none 0 0)], .int 0, .int _]) _; exact Ent.tup (EntL.cons rc0_view (EntL.refl _)))).trans (TEnt.fin [] (by decide) (by simp) rfl ⟨by simp [AV.ren, renL, RcC_ren], trivial⟩))) | (rw [getR_6 (by assumption) (by assumption) (by assumption) (by assumption) (by assumption) (fun h => absurd h.2 (by assumption))]; exact ((TEnt.put1 0 (x' := .tup [.agg (RcC rc0), .int 0, .int 13]) (by show Ent _ (.tup [.agg [.int 0, .int 0, .int 0, .int 0, .int 0, .int 0, .int 0, .int 0, .int 0, .v (.slice none 0 0)], .int 0, .int _]) _; exact Ent.tup (EntL.cons rc0_view (EntL.refl _)))).trans (TEnt.fin [] (by decide) (by simp) rfl ⟨by simp [AV.ren, renL, RcC_ren], trivial⟩))) | (rw [getR_6 (by assumption) (by assumption) (by assumption) (by assumption) (by assumption) (fun h => by have h1 := h.1; unfold parOk at h1; omega)]; exact ((TEnt.put1 0 (x' := .tup [.agg (RcC rc0), .int 0, .int 13]) (by show Ent _ (.tup [.agg [.int 0, .int 0, .int 0, .int 0, .int 0, .int 0, .int 0, .int 0, .int 0, .v (.slice none 0 0)], .int 0, .int _]) _; exact Ent.tup (EntL.cons rc0_view (EntL.refl _)))).trans (TEnt.fin [] (by decide) (by simp) rfl ⟨by simp [AV.ren, renL, RcC_ren], trivial⟩))) | (rw [getR_7 (by assumption) (by assumption) (by assumption) (by assumption) (by assumption) ⟨by assumption, by assumption⟩]; exact TEnt.fin [] (by decide) (by simp) rfl ⟨by show AV.ren (pos []) (.tup [.agg (RcC (xr (gP l))), .int _, .int _]) = _; simp [AV.ren, renL, RcC_ren], trivial⟩)
    ·(try simp only [dE] at hc)
     have h3 : ¬ (gQ1 l).2.1 ≠ 0 := fun h => (gQ1_err (by omega)).1 h (by simpa using hc)
     have h0 : (gQ0 l).2.1 = 0 := by simpa using hc
     refine T.skip ?_
     refine keepK hK11 [0, 1, 4, 7, 8] (by dsimp) (by dsimp) ?_
     refine T.seq fun K14 hK14 => ?_
     refine T.region ?_
     refine rs rfl rfl (ok_load rfl ti_revetmentref01_Reader rfl rfl) ?_
     refine ro rfl rfl (ok_call rfl rfl rfl (((rint_ok l (gQ0 l).1 (gQ0 l).2.1 (-9223372036854775808) 9223372036854775807 hB (by rw [gQ0_at h0]; omega) hl).plain (by show renL (pos []) [.agg [.fz 1 (ints .u8 l), .int _, .int _], .int _, .int _] = _; simp [RC, renL, AV.ren, renL_ints]) (by simp [RC, AV.ren, renL, renL_ints])).eq (x' := .tup [.agg [.fz 1 (ints .u8 l), .int (gQ1 l).1, .int (gQ1 l).2.1], .int (gQ1 l).2.2]) (by rw [gQ1_eq (by omega) h0]; rfl) rfl)) ?_
     refine rs rfl rfl (ok_move (.inl rfl)) ?_
     refine rs rfl rfl (ok_extract rfl rfl rfl) ?_
     refine rs rfl rfl (ok_extract rfl rfl rfl) ?_
     refine rs rfl rfl ((ok_store rfl ti_revetmentref01_Reader (by decide) rfl rfl rfl rfl rfl (Nat.le_of_ble_eq_true rfl) (.inl ⟨rfl, rfl⟩)).eq (H'' := [some ZB, some (R l (gQ1 l).1 (gQ1 l).2.1)]) rfl rfl) ?_
     refine rs rfl rfl (ok_move (.inr rfl)) ?_
     refine ro_nil ?_
     refine keepK hK14 [0, 1, 4, 8, 9] (by dsimp) (by dsimp) ?_
     refine T.seq fun K15 hK15 => ?_
     refine T.region ?_
     refine rs rfl rfl (ok_move (.inr rfl)) ?_
     refine ro_nil ?_
     refine keepK hK15 [0, 1, 4, 8, 9, 10] (by dsimp) (by dsimp) ?_
     refine T.seq fun K16 hK16 => ?_
     refine T.block ?_
     refine T.loopI (ι := Nat) (fun i => (i : Int) ≤ gM l k) (fun i => (gM l k).toNat - i) (fun i => ([(0, .fz 1 (ints .u8 l)), (1, .int k), (4, .ref 0 0 0), (8, .int (gN l)), (9, .int (gQ1 l).2.2), (10, .int i)], [some ZB, some (R l (gQ1 l).1 (gQ1 l).2.1)])) 0 (by simp; omega) (TEnt.toH rfl ⟨rfl, rfl, rfl, rfl, rfl, rfl, trivial⟩) (fun i hi => ?_) -- loop 1
     have hik := mul_bd (a := (i : Int)) (b := k) (A := 1052767) (B := 4096) (by omega) (by omega) (by omega) (by omega)
     refine T.seq fun K17 hK17 => ?_
     refine T.seq fun K18 hK18 => ?_
     refine T.region ?_
     refine rs rfl rfl (ok_move (.inl rfl)) ?_
     refine rs rfl rfl (ok_move (.inl rfl)) ?_
     refine rs rfl rfl (ok_mul64 rfl ti_int rfl rfl (by omega) (by omega)) ?_
     refine rs rfl rfl (ok_move (.inl rfl)) ?_
     refine rs rfl rfl (ok_add64 rfl ti_int rfl rfl (by omega) (by omega)) ?_
     refine rs rfl rfl (ok_binOp rfl ti_int rfl) ?_
     refine ro_nil ?_
     refine keepK hK18 [0, 1, 4, 8, 9, 10, 51] (by dsimp) (by dsimp) ?_
     refine T.cond rfl (fun hc => ?_) (fun hc => ?_) -- cond 4
     ·(try simp only [dE] at hc)
      have hlt : (i : Int) < gM l k := (gM_iff hk).1 hc
      refine T.skip ?_
      refine keepK hK17 [0, 1, 4, 8, 9, 10] (by dsimp) (by dsimp) ?_
      refine T.block ?_
      refine T.region ?_
      refine rs rfl rfl (ok_move (.inl rfl)) ?_
      refine rs rfl rfl (ok_add64 rfl ti_int rfl rfl (by omega) (by omega)) ?_
      refine rs rfl rfl (ok_move (.inr rfl)) ?_
      refine ro_nil ?_
      exact ⟨i + 1, by omega, by omega, TEnt.toH rfl ⟨rfl, rfl, rfl, rfl, rfl, rfl, trivial⟩⟩
     ·(try simp only [dE] at hc)
      have him : (i : Int) = gM l k := by
        have : ¬ (i : Int) < gM l k := fun h => hc ((gM_iff hk).2 h)
        omega
      rw [him]
      refine T.exit ?_
      refine keepK hK16 [0, 1, 4, 8, 9, 10] (by dsimp) (by dsimp) ?_
      refine T.seq fun K19 hK19 => ?_
      refine T.seq fun K20 hK20 => ?_
      refine T.region ?_
      refine rs rfl rfl (ok_move (.inl rfl)) ?_
      refine rs rfl rfl (ok_move (.inl rfl)) ?_
      refine rs rfl rfl (ok_mul64 rfl ti_int rfl rfl (by omega) (by omega)) ?_
      refine rs rfl rfl (ok_move (.inl rfl)) ?_
      refine rs rfl rfl (ok_len' rfl rfl ti_Luint8 rfl (by first | exact ints_length _ _ | exact rowsA_length _ _ | exact Cms_len _ | exact mapLen _ | rfl)) ?_
      refine rs rfl rfl (ok_binOp rfl ti_int rfl) ?_
      refine ro_nil ?_
      refine keepK hK20 [0, 1, 4, 8, 9, 10, 59] (by dsimp) (by dsimp) ?_
      refine T.cond rfl (fun hc => ?_) (fun hc => ?_) -- cond 5
      ·(try simp only [dE] at hc)
       have h4 : gM l k * k > l.length := hc
       refine T.seq fun K21 hK21 => ?_
       refine T.region ?_
       refine rs rfl rfl (ok_build rfl ti_api_Rec rfl) ?_
       refine rs rfl rfl (ok_store rfl ti_api_Rec (by decide) rfl rfl rfl rfl rfl (by first | exact Nat.le_of_ble_eq_true rfl | simp) (by first | exact .inl ⟨rfl, rfl⟩ | exact .inr rfl)) ?_
       refine rs rfl rfl (ok_move (.inr rfl)) ?_
       refine rs rfl rfl (ok_move (.inr rfl)) ?_
       refine ro_nil ?_
       refine keepK hK21 [4, 5, 6] (by dsimp) (by dsimp) ?_
       refine T.ret (hQ _ _ _ rfl ?_).1 -- ret 5
       exact by first | (rw [getR_1 (by omega)]; exact ((TEnt.put1 0 (x' := .tup [.agg (RcC rc0), .int 0, .int 1]) (by show Ent _ (.tup [.agg [.int 0, .int 0, .int 0, .int 0, .int 0, .int 0, .int 0, .int 0, .int 0, .v (.slice none 0 0)], .int 0, .int _]) _; exact Ent.tup (EntL.cons rc0_view (EntL.refl _)))).trans (TEnt.fin [] (by decide) (by simp) rfl ⟨by simp [AV.ren, renL, RcC_ren], trivial⟩))) | (rw [getR_2 (by assumption) (by omega)]; exact ((TEnt.put1 0 (x' := .tup [.agg (RcC rc0), .int 0, .int 14]) (by show Ent _ (.tup [.agg [.int 0, .int 0, .int 0, .int 0, .int 0, .int 0, .int 0, .int 0, .int 0, .v (.slice none 0 0)], .int 0, .int _]) _; exact Ent.tup (EntL.cons rc0_view (EntL.refl _)))).trans (TEnt.fin [] (by decide) (by simp) rfl ⟨by simp [AV.ren, renL, RcC_ren], trivial⟩))) | (rw [getR_3 (by assumption) (by assumption) (by assumption)]; exact ((TEnt.put1 0 (x' := .tup [.agg (RcC rc0), .int 0, .int 13]) (by show Ent _ (.tup [.agg [.int 0, .int 0, .int 0, .int 0, .int 0, .int 0, .int 0, .int 0, .int 0, .v (.slice none 0 0)], .int 0, .int _]) _; exact Ent.tup (EntL.cons rc0_view (EntL.refl _)))).trans (TEnt.fin [] (by decide) (by simp) rfl ⟨by simp [AV.ren, renL, RcC_ren], trivial⟩))) | (rw [getR_4 (by assumption) (by assumption) (by assumption) (by assumption)]; exact ((TEnt.put1 0 (x' := .tup [.agg (RcC rc0), .int 0, .int 14]) (by show Ent _ (.tup [.agg [.int 0, .int 0, .int 0, .int 0, .int 0, .int 0, .int 0, .int 0, .int 0, .v (.slice none 0 0)], .int 0, .int _]) _; exact Ent.tup (EntL.cons rc0_view (EntL.refl _)))).trans (TEnt.fin [] (by decide) (by simp) rfl ⟨by simp [AV.ren, renL, RcC_ren], trivial⟩))) | (rw [getR_5 (by assumption) (by assumption) (by assumption) (by assumption) (by assumption)]; exact ((TEnt.put1 0 (x' := .tup [.agg (RcC rc0), .int 0, .int 15]) (by show Ent _ (.tup [.agg [.int 0, .int 0, .int 0, .int 0, .int 0, .int 0, .int 0, .int 0, .int 0, .v (.slice none 0 0)], .int 0, .int _]) _; exact Ent.tup (EntL.cons rc0_view (EntL.refl _)))).trans (TEnt.fin [] (by decide) (by simp) rfl ⟨by simp [AV.ren, renL, RcC_ren], trivial⟩))) | (rw [getR_6 (by assumption) (by assumption) (by assumption) (by assumption) (by assumption) (fun h => absurd h.2 (by assumption))]; exact ((TEnt.put1 0 (x' := .tup [.agg (RcC rc0), .int 0, .int 13]) (by show Ent _ (.tup [.agg [.int 0, .int 0, .int 0, .int 0, .int 0, .int 0, .int 0, .int 0, .int 0, .v (.slice none 0 0)], .int 0, .int _]) _; exact Ent.tup (EntL.cons rc0_view (EntL.refl _)))).trans (TEnt.fin [] (by decide) (by simp) rfl ⟨by simp [AV.ren, renL, RcC_ren], trivial⟩))) | (rw [getR_6 (by assumption) (by assumption) (by assumption) (by assumption) (by assumption) (fun h => by have h1 := h.1; unfold parOk at h1; omega)]; exact ((TEnt.put1 0 (x' := .tup [.agg (RcC rc0), .int 0, .int 13]) (by show Ent _ (.tup [.agg [.int 0, .int 0, .int 0, .int 0, .int 0, .int 0, .int 0, .int 0, .int 0, .v (.slice none 0 0)], .int 0, .int _]) _; exact Ent.tup (EntL.cons rc0_view (EntL.refl _)))).trans (TEnt.fin [] (by decide) (by simp) rfl ⟨by simp [AV.ren, renL, RcC_ren], trivial⟩))) | (rw [getR_7 (by assumption) (by assumption) (by assumption) (by assumption) (by assumption) ⟨by assumption, by assumption⟩]; exact TEnt.fin [] (by decide) (by simp) rfl ⟨by show AV.ren (pos []) (.tup [.agg (RcC (xr (gP l))), .int _, .int _]) = _; simp [AV.ren, renL, RcC_ren], trivial⟩)
      ·(try simp only [dE] at hc)
       have h4 : ¬ gM l k * k > l.length := hc
       have hPl : (gP l).length ≤ l.length := by simp [gP]; omega
       have hPB : Bytes (gP l) := (hB.take _).drop _
       refine T.skip ?_
       refine keepK hK19 [0, 1, 4, 8, 9, 10] (by dsimp) (by dsimp) ?_
       refine T.seq fun K22 hK22 => ?_
       refine T.region ?_
       refine rs rfl rfl (ok_move (.inl rfl)) ?_
       refine rs rfl rfl (ok_move (.inl rfl)) ?_
       refine rs rfl rfl (ok_add64 rfl ti_int rfl rfl (by omega) (by omega)) ?_
       refine ro rfl rfl (OpOk.step ((ok_slice rfl ti_Luint8 (.inl ⟨_, _, rfl, ti_uint8, rfl⟩) (zl := some 16) (zh := some (16 + gN l)) rfl rfl rfl (r := .fz 1 (ints .u8 (gP l))) (by
  have h1 : (16 : Int) ≤ 16 + gN l := by omega
  have h2 : 16 + gN l ≤ l.length := by omega
  have h3 : (16 : Int).toNat = 16 := rfl
  simp [sliceA, h1, h2, gP, ints, List.map_take, List.map_drop, h3])))) ?_
       refine rs rfl rfl (ok_move (.inr rfl)) ?_
       refine ro_nil ?_
       refine keepK hK22 [0, 1, 4, 8, 9, 10, 11] (by dsimp) (by dsimp) ?_
       refine T.seq fun K23 hK23 => ?_
       refine T.seq fun K24 hK24 => ?_
       refine T.region ?_
       refine rs rfl rfl (ok_move (.inl rfl)) ?_
       refine rs rfl rfl (ok_move (.inl rfl)) ?_
       refine ro rfl rfl (ok_call rfl rfl rfl ((refOf_ok hPB (by omega)).plain (by simp [renL, AV.ren, renL_ints]) rfl)) ?_
       refine rs rfl rfl ((ok_conv_int rfl ti_uint32 ti_int rfl rfl).eq (x' := .int (crcV (gP l))) (by rw [wrap_crc]) rfl) ?_
       refine rs rfl rfl (ok_binOp rfl ti_int rfl) ?_
       refine ro_nil ?_
       refine keepK hK24 [0, 1, 4, 8, 10, 11, 69] (by dsimp) (by dsimp) ?_
       refine T.cond rfl (fun hc => ?_) (fun hc => ?_) -- cond 6
       ·(try simp only [dE] at hc)
        have h5 : (gQ1 l).2.2 ≠ crcV (gP l) := by simpa using hc
        refine T.seq fun K25 hK25 => ?_
        refine T.region ?_
        refine rs rfl rfl (ok_build rfl ti_api_Rec rfl) ?_
        refine rs rfl rfl (ok_store rfl ti_api_Rec (by decide) rfl rfl rfl rfl rfl (by first | exact Nat.le_of_ble_eq_true rfl | simp) (by first | exact .inl ⟨rfl, rfl⟩ | exact .inr rfl)) ?_
        refine rs rfl rfl (ok_move (.inr rfl)) ?_
        refine rs rfl rfl (ok_move (.inr rfl)) ?_
        refine ro_nil ?_
        refine keepK hK25 [4, 5, 6] (by dsimp) (by dsimp) ?_
        refine T.ret (hQ _ _ _ rfl ?_).1 -- ret 6
        exact by first | (rw [getR_1 (by omega)]; exact ((TEnt.put1 0 (x' := .tup [.agg (RcC rc0), .int 0, .int 1]) (by show Ent _ (.tup [.agg [.int 0, .int 0, .int 0, .int 0, .int 0, .int 0, .int 0, .int 0, .int 0, .v (.slice none 0 0)], .int 0, .int _]) _; exact Ent.tup (EntL.cons rc0_view (EntL.refl _)))).trans (TEnt.fin [] (by decide) (by simp) rfl ⟨by simp [AV.ren, renL, RcC_ren], trivial⟩))) | (rw [getR_2 (by assumption) (by omega)]; exact ((TEnt.put1 0 (x' := .tup [.agg (RcC rc0), .int 0, .int 14]) (by show Ent _ (.tup [.agg [.int 0, .int 0, .int 0, .int 0, .int 0, .int 0, .int 0, .int 0, .int 0, .v (.slice none 0 0)], .int 0, .int _]) _; exact Ent.tup (EntL.cons rc0_view (EntL.refl _)))).trans (TEnt.fin [] (by decide) (by simp) rfl ⟨by simp [AV.ren, renL, RcC_ren], trivial⟩))) | (rw [getR_3 (by assumption) (by assumption) (by assumption)]; exact ((TEnt.put1 0 (x' := .tup [.agg (RcC rc0), .int 0, .int 13]) (by show Ent _ (.tup [.agg [.int 0, .int 0, .int 0, .int 0, .int 0, .int 0, .int 0, .int 0, .int 0, .v (.slice none 0 0)], .int 0, .int _]) _; exact Ent.tup (EntL.cons rc0_view (EntL.refl _)))).trans (TEnt.fin [] (by decide) (by simp) rfl ⟨by simp [AV.ren, renL, RcC_ren], trivial⟩))) | (rw [getR_4 (by assumption) (by assumption) (by assumption) (by assumption)]; exact ((TEnt.put1 0 (x' := .tup [.agg (RcC rc0), .int 0, .int 14]) (by show Ent _ (.tup [.agg [.int 0, .int 0, .int 0, .int 0, .int 0, .int 0, .int 0, .int 0, .int 0, .v (.slice none 0 0)], .int 0, .int _]) _; exact Ent.tup (EntL.cons rc0_view (EntL.refl _)))).trans (TEnt.fin [] (by decide) (by simp) rfl ⟨by simp [AV.ren, renL, RcC_ren], trivial⟩))) | (rw [getR_5 (by assumption) (by assumption) (by assumption) (by assumption) (by assumption)]; exact ((TEnt.put1 0 (x' := .tup [.agg (RcC rc0), .int 0, .int 15]) (by show Ent _ (.tup [.agg [.int 0, .int 0, .int 0, .int 0, .int 0, .int 0, .int 0, .int 0, .int 0, .v (.slice none 0 0)], .int 0, .int _]) _; exact Ent.tup (EntL.cons rc0_view (EntL.refl _)))).trans (TEnt.fin [] (by decide) (by simp) rfl ⟨by simp [AV.ren, renL, RcC_ren], trivial⟩))) | (rw [getR_6 (by assumption) (by assumption) (by assumption) (by assumption) (by assumption) (fun h => absurd h.2 (by assumption))]; exact ((TEnt.put1 0 (x' := .tup [.agg (RcC rc0), .int 0, .int 13]) (by show Ent _ (.tup [.agg [.int 0, .int 0, .int 0, .int 0, .int 0, .int 0, .int 0, .int 0, .int 0, .v (.slice none 0 0)], .int 0, .int _]) _; exact Ent.tup (EntL.cons rc0_view (EntL.refl _)))).trans (TEnt.fin [] (by decide) (by simp) rfl ⟨by simp [AV.ren, renL, RcC_ren], trivial⟩))) | (rw [getR_6 (by assumption) (by assumption) (by assumption) (by assumption) (by assumption) (fun h => by have h1 := h.1; unfold parOk at h1; omega)]; exact ((TEnt.put1 0 (x' := .tup [.agg (RcC rc0), .int 0, .int 13]) (by show Ent _ (.tup [.agg [.int 0, .int 0, .int 0, .int 0, .int 0, .int 0, .int 0, .int 0, .int 0, .v (.slice none 0 0)], .int 0, .int _]) _; exact Ent.tup (EntL.cons rc0_view (EntL.refl _)))).trans (TEnt.fin [] (by decide) (by simp) rfl ⟨by simp [AV.ren, renL, RcC_ren], trivial⟩))) | (rw [getR_7 (by assumption) (by assumption) (by assumption) (by assumption) (by assumption) ⟨by assumption, by assumption⟩]; exact TEnt.fin [] (by decide) (by simp) rfl ⟨by show AV.ren (pos []) (.tup [.agg (RcC (xr (gP l))), .int _, .int _]) = _; simp [AV.ren, renL, RcC_ren], trivial⟩)
       ·(try simp only [dE] at hc)
        have h5 : ¬ (gQ1 l).2.2 ≠ crcV (gP l) := by simpa using hc
        have hp := rdF_le (gP l) rLo rHi
        have hb9 : (rBody (gP l)).1 ≤ (gP l).length := rb_le (l := gP l) (e := (rdF (gP l) rLo rHi 9).2) (m := 1048576) (hp 9)
        refine T.skip ?_
        refine keepK hK23 [0, 1, 4, 8, 10, 11] (by dsimp) (by dsimp) ?_
        refine T.seq fun K26 hK26 => ?_
        refine T.region ?_
        refine rs rfl rfl (ok_move (.inl rfl)) ?_
        refine rs rfl rfl (ok_build rfl ti_revetmentref01_Reader rfl) ?_
        refine rs rfl rfl (ok_alloc rfl ti_revetmentref01_Reader rfl (by decide)) ?_
        refine rs rfl rfl (ok_store rfl ti_revetmentref01_Reader (by decide) rfl rfl rfl rfl rfl (by first | exact Nat.le_of_ble_eq_true rfl | simp) (by first | exact .inl ⟨rfl, rfl⟩ | exact .inr rfl)) ?_
        refine ro_nil ?_
        refine keepK hK26 [0, 1, 4, 8, 10, 11, 12] (by dsimp) (by dsimp) ?_
        refine T.seq fun K27 hK27 => ?_
        refine T.region ?_
        refine rs rfl rfl (ok_alloc rfl ti_A9int rfl (by decide)) ?_
        refine ro_nil ?_
        refine keepK hK27 [0, 1, 4, 8, 10, 11, 12, 13] (by dsimp) (by dsimp) ?_
        refine T.seq fun K28 hK28 => ?_
        refine T.seq fun K29 hK29 => ?_
        refine T.region ?_
        refine rs rfl rfl (ok_move (.inr rfl)) ?_
        refine ro_nil ?_
        refine keepK hK29 [0, 1, 4, 8, 10, 11, 12, 13, 14] (by dsimp) (by dsimp) ?_
        refine T.block ?_
        refine T.loopI (ι := Nat) (fun i => i ≤ 9) (fun i => 9 - i) (fun i => ([(0, .fz 1 (ints .u8 l)), (1, .int k), (4, .ref 0 0 0), (8, .int (gN l)), (10, .int (gM l k)), (11, .fz 1 (ints .u8 (gP l))), (12, .ref 2 0 0), (13, .ref 3 0 0), (14, .int i)], [some ZB, some (R l (gQ1 l).1 (gQ1 l).2.1), some (R (gP l) (rdF (gP l) rLo rHi i).1 (rdF (gP l) rLo rHi i).2), some ⟨9, true, [.agg (ints .i64 (rdLF (rdFV (gP l) rLo rHi) i (9 - i)))]⟩])) 0 (Nat.zero_le _) (TEnt.toH rfl ⟨rfl, rfl, rfl, rfl, rfl, rfl, rfl, rfl, rfl, trivial⟩) (fun i hi => ?_) -- loop 2
        refine T.seq fun K30 hK30 => ?_
        refine T.seq fun K31 hK31 => ?_
        refine T.region ?_
        refine rs rfl rfl (ok_move (.inl rfl)) ?_
        refine rs rfl rfl (ok_binOp rfl ti_int rfl) ?_
        refine ro_nil ?_
        refine keepK hK31 [0, 1, 4, 8, 10, 11, 12, 13, 14, 74] (by dsimp) (by dsimp) ?_
        refine T.cond rfl (fun hc => ?_) (fun hc => ?_) -- cond 7
        ·(try simp only [dE] at hc)
         have hi9 : i < 9 := by omega
         obtain ⟨m, hm9⟩ : ∃ m, 9 - i = m + 1 := ⟨8 - i, by omega⟩
         have hm' : 9 - (i + 1) = m := by omega
         rw [hm9]
         refine T.skip ?_
         refine keepK hK30 [0, 1, 4, 8, 10, 11, 12, 13, 14] (by dsimp) (by dsimp) ?_
         refine T.seq fun K32 hK32 => ?_
         refine T.block ?_
         refine T.seq fun K33 hK33 => ?_
         refine T.region ?_
         refine rs rfl rfl (ok_move (.inr rfl)) ?_
         refine rs rfl rfl (ok_move (.inr rfl)) ?_
         refine ro_nil ?_
         refine keepK hK33 [0, 1, 4, 8, 10, 11, 12, 13, 14, 15, 16] (by dsimp) (by dsimp) ?_
         refine T.seq fun K34 hK34 => ?_
         refine T.seq fun K35 hK35 => ?_
         refine T.region ?_
         refine rs rfl rfl (ok_move (.inl rfl)) ?_
         refine rs rfl rfl (ok_binOp rfl ti_int rfl) ?_
         refine ro_nil ?_
         refine keepK hK35 [0, 1, 4, 8, 10, 11, 12, 13, 14, 15, 16, 78] (by dsimp) (by dsimp) ?_
         refine T.cond rfl (fun hc => ?_) (fun hc => ?_) -- cond 8
         ·(try simp only [dE] at hc)
          refine T.region ?_
          refine rs rfl rfl (ok_move (.inr rfl)) ?_
          refine ro_nil ?_
          refine keepK hK34 [0, 1, 4, 8, 10, 11, 12, 13, 14, 15, 16] (by dsimp) (by dsimp) ?_
          refine T.seq fun K36 hK36 => ?_
          refine T.seq fun K37 hK37 => ?_
          refine T.region ?_
          refine rs rfl rfl (ok_move (.inl rfl)) ?_
          refine rs rfl rfl (ok_binOp rfl ti_int rfl) ?_
          refine ro_nil ?_
          refine keepK hK37 [0, 1, 4, 8, 10, 11, 12, 13, 14, 15, 16, 80] (by dsimp) (by dsimp) ?_
          refine T.cond rfl (fun hc => ?_) (fun hc => ?_) -- cond 9
          ·(try simp only [dE] at hc)
           refine T.region ?_
           refine rs rfl rfl (ok_move (.inr rfl)) ?_
           refine ro_nil ?_
           refine keepK hK36 [0, 1, 4, 8, 10, 11, 12, 13, 14, 15, 16] (by dsimp) (by dsimp) ?_
           refine T.region ?_
           refine rs rfl rfl (ok_move (.inl rfl)) ?_
           refine rs rfl rfl (ok_load rfl ti_revetmentref01_Reader rfl rfl) ?_
           refine rs rfl rfl (ok_move (.inl rfl)) ?_
           refine rs rfl rfl (ok_move (.inl rfl)) ?_
           refine ro rfl rfl (ok_call rfl rfl rfl (((rint_ok (gP l) (rdF (gP l) rLo rHi i).1 (rdF (gP l) rLo rHi i).2 (rLo i) (rHi i) hPB (hp _) (by omega)).plain (by
  have h1 : rLo i = rLo i := rfl
  unfold rLo rHi
  show renL (pos []) [.agg [.fz 1 (ints .u8 (gP l)), .int _, .int _], .int _, .int _] = _
  simp only [RC, renL, AV.ren, renL_ints]
  repeat' split
  all_goals first | rfl | (exfalso; omega)) (by simp [RC, AV.ren, renL, renL_ints])).eq (x' := .tup [.agg [.fz 1 (ints .u8 (gP l)), .int (rdF (gP l) rLo rHi (i + 1)).1, .int (rdF (gP l) rLo rHi (i + 1)).2], .int (rdFV (gP l) rLo rHi i)]) rfl rfl)) ?_
           refine rs rfl rfl (ok_move (.inl rfl)) ?_
           refine rs rfl rfl (ok_extract rfl rfl rfl) ?_
           refine rs rfl rfl (ok_extract rfl rfl rfl) ?_
           refine rs rfl rfl ((ok_store rfl ti_revetmentref01_Reader (by decide) rfl rfl rfl rfl rfl (Nat.le_of_ble_eq_true rfl) (.inl ⟨rfl, rfl⟩)).eq (H'' := [some ZB, some (R l (gQ1 l).1 (gQ1 l).2.1), some (R (gP l) (rdF (gP l) rLo rHi (i + 1)).1 (rdF (gP l) rLo rHi (i + 1)).2), some ⟨9, true, [.agg (ints .i64 (rdLF (rdFV (gP l) rLo rHi) i (m + 1)))]⟩]) rfl rfl) ?_
           refine rs rfl rfl (by exact ok_indexAddr rfl ti_A9int (.inr ⟨_, rfl⟩) ti_int rfl (by omega) (r := .ref 3 0 i) (by show elemA _ (.array 9 3) (.ref 3 0 0) 1 (i : Int).toNat = _; simp [elemA, shiftA, hi9])) ?_
           refine rs rfl rfl ((ok_store rfl ti_int (by decide) (id := 3) (j := 0) (f := i) rfl rfl rfl rfl rfl (by show i + 1 ≤ 9; omega) (.inr (by show (ints .i64 (rdLF (rdFV (gP l) rLo rHi) i (m + 1))).length = 9; rw [ints_length, rdLF_len]; omega))).eq (H'' := [some ZB, some (R l (gQ1 l).1 (gQ1 l).2.1), some (R (gP l) (rdF (gP l) rLo rHi (i + 1)).1 (rdF (gP l) rLo rHi (i + 1)).2), some ⟨9, true, [.agg (ints .i64 (rdLF (rdFV (gP l) rLo rHi) (i + 1) m))]⟩]) rfl (by show [_, _, _, some (⟨9, true, [putA 9 (.agg (ints .i64 (rdLF (rdFV (gP l) rLo rHi) i (m + 1)))) i (.int (rdFV (gP l) rLo rHi i)) 1]⟩ : Blk)] = _; rw [putA_ne (by decide), ← rdLF_put (rdFV (gP l) rLo rHi) i m]; rfl)) ?_
           refine ro_nil ?_
           refine keepK hK32 [0, 1, 4, 8, 10, 11, 12, 13, 14] (by dsimp) (by dsimp) ?_
           refine T.region ?_
           refine rs rfl rfl (ok_move (.inl rfl)) ?_
           refine rs rfl rfl (ok_add64 rfl ti_int rfl rfl (by omega) (by omega)) ?_
           refine rs rfl rfl (ok_move (.inr rfl)) ?_
           refine ro_nil ?_
           exact ⟨i + 1, by omega, by omega, TEnt.toH (by rw [hm']) ⟨rfl, rfl, rfl, rfl, rfl, rfl, rfl, rfl, rfl, trivial⟩⟩
          ·(try simp only [dE] at hc)
           refine T.skip ?_
           refine keepK hK36 [0, 1, 4, 8, 10, 11, 12, 13, 14, 15, 16] (by dsimp) (by dsimp) ?_
           refine T.region ?_
           refine rs rfl rfl (ok_move (.inl rfl)) ?_
           refine rs rfl rfl (ok_load rfl ti_revetmentref01_Reader rfl rfl) ?_
           refine rs rfl rfl (ok_move (.inl rfl)) ?_
           refine rs rfl rfl (ok_move (.inl rfl)) ?_
           refine ro rfl rfl (ok_call rfl rfl rfl (((rint_ok (gP l) (rdF (gP l) rLo rHi i).1 (rdF (gP l) rLo rHi i).2 (rLo i) (rHi i) hPB (hp _) (by omega)).plain (by
  have h1 : rLo i = rLo i := rfl
  unfold rLo rHi
  show renL (pos []) [.agg [.fz 1 (ints .u8 (gP l)), .int _, .int _], .int _, .int _] = _
  simp only [RC, renL, AV.ren, renL_ints]
  repeat' split
  all_goals first | rfl | (exfalso; omega)) (by simp [RC, AV.ren, renL, renL_ints])).eq (x' := .tup [.agg [.fz 1 (ints .u8 (gP l)), .int (rdF (gP l) rLo rHi (i + 1)).1, .int (rdF (gP l) rLo rHi (i + 1)).2], .int (rdFV (gP l) rLo rHi i)]) rfl rfl)) ?_
           refine rs rfl rfl (ok_move (.inl rfl)) ?_
           refine rs rfl rfl (ok_extract rfl rfl rfl) ?_
           refine rs rfl rfl (ok_extract rfl rfl rfl) ?_
           refine rs rfl rfl ((ok_store rfl ti_revetmentref01_Reader (by decide) rfl rfl rfl rfl rfl (Nat.le_of_ble_eq_true rfl) (.inl ⟨rfl, rfl⟩)).eq (H'' := [some ZB, some (R l (gQ1 l).1 (gQ1 l).2.1), some (R (gP l) (rdF (gP l) rLo rHi (i + 1)).1 (rdF (gP l) rLo rHi (i + 1)).2), some ⟨9, true, [.agg (ints .i64 (rdLF (rdFV (gP l) rLo rHi) i (m + 1)))]⟩]) rfl rfl) ?_
           refine rs rfl rfl (by exact ok_indexAddr rfl ti_A9int (.inr ⟨_, rfl⟩) ti_int rfl (by omega) (r := .ref 3 0 i) (by show elemA _ (.array 9 3) (.ref 3 0 0) 1 (i : Int).toNat = _; simp [elemA, shiftA, hi9])) ?_
           refine rs rfl rfl ((ok_store rfl ti_int (by decide) (id := 3) (j := 0) (f := i) rfl rfl rfl rfl rfl (by show i + 1 ≤ 9; omega) (.inr (by show (ints .i64 (rdLF (rdFV (gP l) rLo rHi) i (m + 1))).length = 9; rw [ints_length, rdLF_len]; omega))).eq (H'' := [some ZB, some (R l (gQ1 l).1 (gQ1 l).2.1), some (R (gP l) (rdF (gP l) rLo rHi (i + 1)).1 (rdF (gP l) rLo rHi (i + 1)).2), some ⟨9, true, [.agg (ints .i64 (rdLF (rdFV (gP l) rLo rHi) (i + 1) m))]⟩]) rfl (by show [_, _, _, some (⟨9, true, [putA 9 (.agg (ints .i64 (rdLF (rdFV (gP l) rLo rHi) i (m + 1)))) i (.int (rdFV (gP l) rLo rHi i)) 1]⟩ : Blk)] = _; rw [putA_ne (by decide), ← rdLF_put (rdFV (gP l) rLo rHi) i m]; rfl)) ?_
           refine ro_nil ?_
           refine keepK hK32 [0, 1, 4, 8, 10, 11, 12, 13, 14] (by dsimp) (by dsimp) ?_
           refine T.region ?_
           refine rs rfl rfl (ok_move (.inl rfl)) ?_
           refine rs rfl rfl (ok_add64 rfl ti_int rfl rfl (by omega) (by omega)) ?_
           refine rs rfl rfl (ok_move (.inr rfl)) ?_
           refine ro_nil ?_
           exact ⟨i + 1, by omega, by omega, TEnt.toH (by rw [hm']) ⟨rfl, rfl, rfl, rfl, rfl, rfl, rfl, rfl, rfl, trivial⟩⟩
         ·(try simp only [dE] at hc)
          refine T.skip ?_
          refine keepK hK34 [0, 1, 4, 8, 10, 11, 12, 13, 14, 15, 16] (by dsimp) (by dsimp) ?_
          refine T.seq fun K38 hK38 => ?_
          refine T.seq fun K39 hK39 => ?_
          refine T.region ?_
          refine rs rfl rfl (ok_move (.inl rfl)) ?_
          refine rs rfl rfl (ok_binOp rfl ti_int rfl) ?_
          refine ro_nil ?_
          refine keepK hK39 [0, 1, 4, 8, 10, 11, 12, 13, 14, 15, 16, 80] (by dsimp) (by dsimp) ?_
          refine T.cond rfl (fun hc => ?_) (fun hc => ?_) -- cond 10
          ·(try simp only [dE] at hc)
           refine T.region ?_
           refine rs rfl rfl (ok_move (.inr rfl)) ?_
           refine ro_nil ?_
           refine keepK hK38 [0, 1, 4, 8, 10, 11, 12, 13, 14, 15, 16] (by dsimp) (by dsimp) ?_
           refine T.region ?_
           refine rs rfl rfl (ok_move (.inl rfl)) ?_
           refine rs rfl rfl (ok_load rfl ti_revetmentref01_Reader rfl rfl) ?_
           refine rs rfl rfl (ok_move (.inl rfl)) ?_
           refine rs rfl rfl (ok_move (.inl rfl)) ?_
           refine ro rfl rfl (ok_call rfl rfl rfl (((rint_ok (gP l) (rdF (gP l) rLo rHi i).1 (rdF (gP l) rLo rHi i).2 (rLo i) (rHi i) hPB (hp _) (by omega)).plain (by
  have h1 : rLo i = rLo i := rfl
  unfold rLo rHi
  show renL (pos []) [.agg [.fz 1 (ints .u8 (gP l)), .int _, .int _], .int _, .int _] = _
  simp only [RC, renL, AV.ren, renL_ints]
  repeat' split
  all_goals first | rfl | (exfalso; omega)) (by simp [RC, AV.ren, renL, renL_ints])).eq (x' := .tup [.agg [.fz 1 (ints .u8 (gP l)), .int (rdF (gP l) rLo rHi (i + 1)).1, .int (rdF (gP l) rLo rHi (i + 1)).2], .int (rdFV (gP l) rLo rHi i)]) rfl rfl)) ?_
           refine rs rfl rfl (ok_move (.inl rfl)) ?_
           refine rs rfl rfl (ok_extract rfl rfl rfl) ?_
           refine rs rfl rfl (ok_extract rfl rfl rfl) ?_
           refine rs rfl rfl ((ok_store rfl ti_revetmentref01_Reader (by decide) rfl rfl rfl rfl rfl (Nat.le_of_ble_eq_true rfl) (.inl ⟨rfl, rfl⟩)).eq (H'' := [some ZB, some (R l (gQ1 l).1 (gQ1 l).2.1), some (R (gP l) (rdF (gP l) rLo rHi (i + 1)).1 (rdF (gP l) rLo rHi (i + 1)).2), some ⟨9, true, [.agg (ints .i64 (rdLF (rdFV (gP l) rLo rHi) i (m + 1)))]⟩]) rfl rfl) ?_
           refine rs rfl rfl (by exact ok_indexAddr rfl ti_A9int (.inr ⟨_, rfl⟩) ti_int rfl (by omega) (r := .ref 3 0 i) (by show elemA _ (.array 9 3) (.ref 3 0 0) 1 (i : Int).toNat = _; simp [elemA, shiftA, hi9])) ?_
           refine rs rfl rfl ((ok_store rfl ti_int (by decide) (id := 3) (j := 0) (f := i) rfl rfl rfl rfl rfl (by show i + 1 ≤ 9; omega) (.inr (by show (ints .i64 (rdLF (rdFV (gP l) rLo rHi) i (m + 1))).length = 9; rw [ints_length, rdLF_len]; omega))).eq (H'' := [some ZB, some (R l (gQ1 l).1 (gQ1 l).2.1), some (R (gP l) (rdF (gP l) rLo rHi (i + 1)).1 (rdF (gP l) rLo rHi (i + 1)).2), some ⟨9, true, [.agg (ints .i64 (rdLF (rdFV (gP l) rLo rHi) (i + 1) m))]⟩]) rfl (by show [_, _, _, some (⟨9, true, [putA 9 (.agg (ints .i64 (rdLF (rdFV (gP l) rLo rHi) i (m + 1)))) i (.int (rdFV (gP l) rLo rHi i)) 1]⟩ : Blk)] = _; rw [putA_ne (by decide), ← rdLF_put (rdFV (gP l) rLo rHi) i m]; rfl)) ?_
           refine ro_nil ?_
           refine keepK hK32 [0, 1, 4, 8, 10, 11, 12, 13, 14] (by dsimp) (by dsimp) ?_
           refine T.region ?_
           refine rs rfl rfl (ok_move (.inl rfl)) ?_
           refine rs rfl rfl (ok_add64 rfl ti_int rfl rfl (by omega) (by omega)) ?_
           refine rs rfl rfl (ok_move (.inr rfl)) ?_
           refine ro_nil ?_
           exact ⟨i + 1, by omega, by omega, TEnt.toH (by rw [hm']) ⟨rfl, rfl, rfl, rfl, rfl, rfl, rfl, rfl, rfl, trivial⟩⟩
          ·(try simp only [dE] at hc)
           refine T.skip ?_
           refine keepK hK38 [0, 1, 4, 8, 10, 11, 12, 13, 14, 15, 16] (by dsimp) (by dsimp) ?_
           refine T.region ?_
           refine rs rfl rfl (ok_move (.inl rfl)) ?_
           refine rs rfl rfl (ok_load rfl ti_revetmentref01_Reader rfl rfl) ?_
           refine rs rfl rfl (ok_move (.inl rfl)) ?_
           refine rs rfl rfl (ok_move (.inl rfl)) ?_
           refine ro rfl rfl (ok_call rfl rfl rfl (((rint_ok (gP l) (rdF (gP l) rLo rHi i).1 (rdF (gP l) rLo rHi i).2 (rLo i) (rHi i) hPB (hp _) (by omega)).plain (by
  have h1 : rLo i = rLo i := rfl
  unfold rLo rHi
  show renL (pos []) [.agg [.fz 1 (ints .u8 (gP l)), .int _, .int _], .int _, .int _] = _
  simp only [RC, renL, AV.ren, renL_ints]
  repeat' split
  all_goals first | rfl | (exfalso; omega)) (by simp [RC, AV.ren, renL, renL_ints])).eq (x' := .tup [.agg [.fz 1 (ints .u8 (gP l)), .int (rdF (gP l) rLo rHi (i + 1)).1, .int (rdF (gP l) rLo rHi (i + 1)).2], .int (rdFV (gP l) rLo rHi i)]) rfl rfl)) ?_
           refine rs rfl rfl (ok_move (.inl rfl)) ?_
           refine rs rfl rfl (ok_extract rfl rfl rfl) ?_
           refine rs rfl rfl (ok_extract rfl rfl rfl) ?_
           refine rs rfl rfl ((ok_store rfl ti_revetmentref01_Reader (by decide) rfl rfl rfl rfl rfl (Nat.le_of_ble_eq_true rfl) (.inl ⟨rfl, rfl⟩)).eq (H'' := [some ZB, some (R l (gQ1 l).1 (gQ1 l).2.1), some (R (gP l) (rdF (gP l) rLo rHi (i + 1)).1 (rdF (gP l) rLo rHi (i + 1)).2), some ⟨9, true, [.agg (ints .i64 (rdLF (rdFV (gP l) rLo rHi) i (m + 1)))]⟩]) rfl rfl) ?_
           refine rs rfl rfl (by exact ok_indexAddr rfl ti_A9int (.inr ⟨_, rfl⟩) ti_int rfl (by omega) (r := .ref 3 0 i) (by show elemA _ (.array 9 3) (.ref 3 0 0) 1 (i : Int).toNat = _; simp [elemA, shiftA, hi9])) ?_
           refine rs rfl rfl ((ok_store rfl ti_int (by decide) (id := 3) (j := 0) (f := i) rfl rfl rfl rfl rfl (by show i + 1 ≤ 9; omega) (.inr (by show (ints .i64 (rdLF (rdFV (gP l) rLo rHi) i (m + 1))).length = 9; rw [ints_length, rdLF_len]; omega))).eq (H'' := [some ZB, some (R l (gQ1 l).1 (gQ1 l).2.1), some (R (gP l) (rdF (gP l) rLo rHi (i + 1)).1 (rdF (gP l) rLo rHi (i + 1)).2), some ⟨9, true, [.agg (ints .i64 (rdLF (rdFV (gP l) rLo rHi) (i + 1) m))]⟩]) rfl (by show [_, _, _, some (⟨9, true, [putA 9 (.agg (ints .i64 (rdLF (rdFV (gP l) rLo rHi) i (m + 1)))) i (.int (rdFV (gP l) rLo rHi i)) 1]⟩ : Blk)] = _; rw [putA_ne (by decide), ← rdLF_put (rdFV (gP l) rLo rHi) i m]; rfl)) ?_
           refine ro_nil ?_
           refine keepK hK32 [0, 1, 4, 8, 10, 11, 12, 13, 14] (by dsimp) (by dsimp) ?_
           refine T.region ?_
           refine rs rfl rfl (ok_move (.inl rfl)) ?_
           refine rs rfl rfl (ok_add64 rfl ti_int rfl rfl (by omega) (by omega)) ?_
           refine rs rfl rfl (ok_move (.inr rfl)) ?_
           refine ro_nil ?_
           exact ⟨i + 1, by omega, by omega, TEnt.toH (by rw [hm']) ⟨rfl, rfl, rfl, rfl, rfl, rfl, rfl, rfl, rfl, trivial⟩⟩
        ·(try simp only [dE] at hc)
         have hi9 : i = 9 := by omega
         subst hi9
         refine T.exit ?_
         refine keepK hK28 [0, 1, 4, 8, 10, 11, 12, 13] (by dsimp) (by dsimp) ?_
         refine T.seq fun K40 hK40 => ?_
         refine T.region ?_
         refine rs rfl rfl (ok_load rfl ti_revetmentref01_Reader rfl rfl) ?_
         refine ro rfl rfl (ok_call rfl rfl rfl (((rbytes_ok (gP l) (rdF (gP l) rLo rHi 9).1 (rdF (gP l) rLo rHi 9).2 1048576 hPB (hp 9) (by omega)).plain (by show renL (pos []) [.agg [.fz 1 (ints .u8 (gP l)), .int _, .int _], .int _] = _; simp [RC, renL, AV.ren, renL_ints]) (by simp [RC, AV.ren, renL, renL_ints])).eq (x' := .tup [.agg [.fz 1 (ints .u8 (gP l)), .int (rBody (gP l)).1, .int (rBody (gP l)).2.1], .fz 1 (ints .u8 (rBody (gP l)).2.2)]) rfl rfl)) ?_
         refine rs rfl rfl (ok_move (.inl rfl)) ?_
         refine rs rfl rfl (ok_extract rfl rfl rfl) ?_
         refine rs rfl rfl (ok_extract rfl rfl rfl) ?_
         refine rs rfl rfl ((ok_store rfl ti_revetmentref01_Reader (by decide) rfl rfl rfl rfl rfl (Nat.le_of_ble_eq_true rfl) (.inl ⟨rfl, rfl⟩)).eq (H'' := [some ZB, some (R l (gQ1 l).1 (gQ1 l).2.1), some (R (gP l) (rBody (gP l)).1 (rBody (gP l)).2.1), some ⟨9, true, [.agg (ints .i64 (rdLF (rdFV (gP l) rLo rHi) 9 0))]⟩]) rfl rfl) ?_
         refine rs rfl rfl (ok_move (.inr rfl)) ?_
         refine ro_nil ?_
         refine keepK hK40 [0, 1, 4, 8, 10, 11, 12, 13, 17] (by dsimp) (by dsimp) ?_
         refine T.seq fun K41 hK41 => ?_
         refine T.seq fun K42 hK42 => ?_
         refine T.region ?_
         refine rs rfl rfl (ok_fieldAddr rfl ti_revetmentref01_Reader rfl rfl ti_int (by decide) rfl) ?_
         refine rs rfl rfl (ok_load rfl ti_int rfl rfl) ?_
         refine rs rfl rfl (ok_binOp rfl ti_int rfl) ?_
         refine ro_case rfl rfl (OpOk.step (ok_moveb (.inl rfl) rfl)) (fun hb => ?_) (fun hb => ?_)
         ·(try simp only [dE] at hb)
          refine ro_skip rfl rfl ?_
          refine ro_skip rfl rfl ?_
          refine ro_skip rfl rfl ?_
          refine ro_skip rfl rfl ?_
          refine ro_skip rfl rfl ?_
          refine rs rfl rfl (ok_pickb (t := true) (d := true) rfl rfl rfl) ?_
          refine ro_nil ?_
          refine keepK hK42 [0, 1, 4, 8, 10, 13, 17, 104] (by dsimp) (by dsimp) ?_
          refine T.cond_true rfl ?_
          refine T.seq fun K43 hK43 => ?_
          refine T.region ?_
          refine rs rfl rfl (ok_build rfl ti_api_Rec rfl) ?_
          refine rs rfl rfl (ok_store rfl ti_api_Rec (by decide) rfl rfl rfl rfl rfl (by first | exact Nat.le_of_ble_eq_true rfl | simp) (by first | exact .inl ⟨rfl, rfl⟩ | exact .inr rfl)) ?_
          refine rs rfl rfl (ok_move (.inr rfl)) ?_
          refine rs rfl rfl (ok_move (.inr rfl)) ?_
          refine ro_nil ?_
          refine keepK hK43 [4, 5, 6] (by dsimp) (by dsimp) ?_
          refine T.ret (hQ _ _ _ rfl ?_).1 -- ret 7
          exact by first | (rw [getR_1 (by omega)]; exact ((TEnt.put1 0 (x' := .tup [.agg (RcC rc0), .int 0, .int 1]) (by show Ent _ (.tup [.agg [.int 0, .int 0, .int 0, .int 0, .int 0, .int 0, .int 0, .int 0, .int 0, .v (.slice none 0 0)], .int 0, .int _]) _; exact Ent.tup (EntL.cons rc0_view (EntL.refl _)))).trans (TEnt.fin [] (by decide) (by simp) rfl ⟨by simp [AV.ren, renL, RcC_ren], trivial⟩))) | (rw [getR_2 (by assumption) (by omega)]; exact ((TEnt.put1 0 (x' := .tup [.agg (RcC rc0), .int 0, .int 14]) (by show Ent _ (.tup [.agg [.int 0, .int 0, .int 0, .int 0, .int 0, .int 0, .int 0, .int 0, .int 0, .v (.slice none 0 0)], .int 0, .int _]) _; exact Ent.tup (EntL.cons rc0_view (EntL.refl _)))).trans (TEnt.fin [] (by decide) (by simp) rfl ⟨by simp [AV.ren, renL, RcC_ren], trivial⟩))) | (rw [getR_3 (by assumption) (by assumption) (by assumption)]; exact ((TEnt.put1 0 (x' := .tup [.agg (RcC rc0), .int 0, .int 13]) (by show Ent _ (.tup [.agg [.int 0, .int 0, .int 0, .int 0, .int 0, .int 0, .int 0, .int 0, .int 0, .v (.slice none 0 0)], .int 0, .int _]) _; exact Ent.tup (EntL.cons rc0_view (EntL.refl _)))).trans (TEnt.fin [] (by decide) (by simp) rfl ⟨by simp [AV.ren, renL, RcC_ren], trivial⟩))) | (rw [getR_4 (by assumption) (by assumption) (by assumption) (by assumption)]; exact ((TEnt.put1 0 (x' := .tup [.agg (RcC rc0), .int 0, .int 14]) (by show Ent _ (.tup [.agg [.int 0, .int 0, .int 0, .int 0, .int 0, .int 0, .int 0, .int 0, .int 0, .v (.slice none 0 0)], .int 0, .int _]) _; exact Ent.tup (EntL.cons rc0_view (EntL.refl _)))).trans (TEnt.fin [] (by decide) (by simp) rfl ⟨by simp [AV.ren, renL, RcC_ren], trivial⟩))) | (rw [getR_5 (by assumption) (by assumption) (by assumption) (by assumption) (by assumption)]; exact ((TEnt.put1 0 (x' := .tup [.agg (RcC rc0), .int 0, .int 15]) (by show Ent _ (.tup [.agg [.int 0, .int 0, .int 0, .int 0, .int 0, .int 0, .int 0, .int 0, .int 0, .v (.slice none 0 0)], .int 0, .int _]) _; exact Ent.tup (EntL.cons rc0_view (EntL.refl _)))).trans (TEnt.fin [] (by decide) (by simp) rfl ⟨by simp [AV.ren, renL, RcC_ren], trivial⟩))) | (rw [getR_6 (by assumption) (by assumption) (by assumption) (by assumption) (by assumption) (fun h => absurd h.2 (by assumption))]; exact ((TEnt.put1 0 (x' := .tup [.agg (RcC rc0), .int 0, .int 13]) (by show Ent _ (.tup [.agg [.int 0, .int 0, .int 0, .int 0, .int 0, .int 0, .int 0, .int 0, .int 0, .v (.slice none 0 0)], .int 0, .int _]) _; exact Ent.tup (EntL.cons rc0_view (EntL.refl _)))).trans (TEnt.fin [] (by decide) (by simp) rfl ⟨by simp [AV.ren, renL, RcC_ren], trivial⟩))) | (rw [getR_6 (by assumption) (by assumption) (by assumption) (by assumption) (by assumption) (fun h => by have h1 := h.1; unfold parOk at h1; omega)]; exact ((TEnt.put1 0 (x' := .tup [.agg (RcC rc0), .int 0, .int 13]) (by show Ent _ (.tup [.agg [.int 0, .int 0, .int 0, .int 0, .int 0, .int 0, .int 0, .int 0, .int 0, .v (.slice none 0 0)], .int 0, .int _]) _; exact Ent.tup (EntL.cons rc0_view (EntL.refl _)))).trans (TEnt.fin [] (by decide) (by simp) rfl ⟨by simp [AV.ren, renL, RcC_ren], trivial⟩))) | (rw [getR_7 (by assumption) (by assumption) (by assumption) (by assumption) (by assumption) ⟨by assumption, by assumption⟩]; exact TEnt.fin [] (by decide) (by simp) rfl ⟨by show AV.ren (pos []) (.tup [.agg (RcC (xr (gP l))), .int _, .int _]) = _; simp [AV.ren, renL, RcC_ren], trivial⟩)
         ·(try simp only [dE] at hb)
          refine rs rfl rfl (ok_fieldAddr rfl ti_revetmentref01_Reader rfl rfl ti_int (by decide) rfl) ?_
          refine rs rfl rfl (ok_load rfl ti_int rfl rfl) ?_
          refine rs rfl rfl (ok_move (.inl rfl)) ?_
          refine rs rfl rfl (ok_len' rfl rfl ti_Luint8 rfl (by first | exact ints_length _ _ | exact rowsA_length _ _ | exact Cms_len _ | exact mapLen _ | rfl)) ?_
          refine rs rfl rfl (ok_binOp rfl ti_int rfl) ?_
          refine rs rfl rfl (ok_pick rfl rfl) ?_
          refine ro_nil ?_
          refine keepK hK42 [0, 1, 4, 8, 10, 13, 17, 104] (by dsimp) (by dsimp) ?_
          refine T.cond rfl (fun hc => ?_) (fun hc => ?_) -- cond 11
          ·(try simp only [dE] at hc)
           refine T.seq fun K44 hK44 => ?_
           refine T.region ?_
           refine rs rfl rfl (ok_build rfl ti_api_Rec rfl) ?_
           refine rs rfl rfl (ok_store rfl ti_api_Rec (by decide) rfl rfl rfl rfl rfl (by first | exact Nat.le_of_ble_eq_true rfl | simp) (by first | exact .inl ⟨rfl, rfl⟩ | exact .inr rfl)) ?_
           refine rs rfl rfl (ok_move (.inr rfl)) ?_
           refine rs rfl rfl (ok_move (.inr rfl)) ?_
           refine ro_nil ?_
           refine keepK hK44 [4, 5, 6] (by dsimp) (by dsimp) ?_
           refine T.ret (hQ _ _ _ rfl ?_).1 -- ret 8
           exact by first | (rw [getR_1 (by omega)]; exact ((TEnt.put1 0 (x' := .tup [.agg (RcC rc0), .int 0, .int 1]) (by show Ent _ (.tup [.agg [.int 0, .int 0, .int 0, .int 0, .int 0, .int 0, .int 0, .int 0, .int 0, .v (.slice none 0 0)], .int 0, .int _]) _; exact Ent.tup (EntL.cons rc0_view (EntL.refl _)))).trans (TEnt.fin [] (by decide) (by simp) rfl ⟨by simp [AV.ren, renL, RcC_ren], trivial⟩))) | (rw [getR_2 (by assumption) (by omega)]; exact ((TEnt.put1 0 (x' := .tup [.agg (RcC rc0), .int 0, .int 14]) (by show Ent _ (.tup [.agg [.int 0, .int 0, .int 0, .int 0, .int 0, .int 0, .int 0, .int 0, .int 0, .v (.slice none 0 0)], .int 0, .int _]) _; exact Ent.tup (EntL.cons rc0_view (EntL.refl _)))).trans (TEnt.fin [] (by decide) (by simp) rfl ⟨by simp [AV.ren, renL, RcC_ren], trivial⟩))) | (rw [getR_3 (by assumption) (by assumption) (by assumption)]; exact ((TEnt.put1 0 (x' := .tup [.agg (RcC rc0), .int 0, .int 13]) (by show Ent _ (.tup [.agg [.int 0, .int 0, .int 0, .int 0, .int 0, .int 0, .int 0, .int 0, .int 0, .v (.slice none 0 0)], .int 0, .int _]) _; exact Ent.tup (EntL.cons rc0_view (EntL.refl _)))).trans (TEnt.fin [] (by decide) (by simp) rfl ⟨by simp [AV.ren, renL, RcC_ren], trivial⟩))) | (rw [getR_4 (by assumption) (by assumption) (by assumption) (by assumption)]; exact ((TEnt.put1 0 (x' := .tup [.agg (RcC rc0), .int 0, .int 14]) (by show Ent _ (.tup [.agg [.int 0, .int 0, .int 0, .int 0, .int 0, .int 0, .int 0, .int 0, .int 0, .v (.slice none 0 0)], .int 0, .int _]) _; exact Ent.tup (EntL.cons rc0_view (EntL.refl _)))).trans (TEnt.fin [] (by decide) (by simp) rfl ⟨by simp [AV.ren, renL, RcC_ren], trivial⟩))) | (rw [getR_5 (by assumption) (by assumption) (by assumption) (by assumption) (by assumption)]; exact ((TEnt.put1 0 (x' := .tup [.agg (RcC rc0), .int 0, .int 15]) (by show Ent _ (.tup [.agg [.int 0, .int 0, .int 0, .int 0, .int 0, .int 0, .int 0, .int 0, .int 0, .v (.slice none 0 0)], .int 0, .int _]) _; exact Ent.tup (EntL.cons rc0_view (EntL.refl _)))).trans (TEnt.fin [] (by decide) (by simp) rfl ⟨by simp [AV.ren, renL, RcC_ren], trivial⟩))) | (rw [getR_6 (by assumption) (by assumption) (by assumption) (by assumption) (by assumption) (fun h => absurd h.2 (by assumption))]; exact ((TEnt.put1 0 (x' := .tup [.agg (RcC rc0), .int 0, .int 13]) (by show Ent _ (.tup [.agg [.int 0, .int 0, .int 0, .int 0, .int 0, .int 0, .int 0, .int 0, .int 0, .v (.slice none 0 0)], .int 0, .int _]) _; exact Ent.tup (EntL.cons rc0_view (EntL.refl _)))).trans (TEnt.fin [] (by decide) (by simp) rfl ⟨by simp [AV.ren, renL, RcC_ren], trivial⟩))) | (rw [getR_6 (by assumption) (by assumption) (by assumption) (by assumption) (by assumption) (fun h => by have h1 := h.1; unfold parOk at h1; omega)]; exact ((TEnt.put1 0 (x' := .tup [.agg (RcC rc0), .int 0, .int 13]) (by show Ent _ (.tup [.agg [.int 0, .int 0, .int 0, .int 0, .int 0, .int 0, .int 0, .int 0, .int 0, .v (.slice none 0 0)], .int 0, .int _]) _; exact Ent.tup (EntL.cons rc0_view (EntL.refl _)))).trans (TEnt.fin [] (by decide) (by simp) rfl ⟨by simp [AV.ren, renL, RcC_ren], trivial⟩))) | (rw [getR_7 (by assumption) (by assumption) (by assumption) (by assumption) (by assumption) ⟨by assumption, by assumption⟩]; exact TEnt.fin [] (by decide) (by simp) rfl ⟨by show AV.ren (pos []) (.tup [.agg (RcC (xr (gP l))), .int _, .int _]) = _; simp [AV.ren, renL, RcC_ren], trivial⟩)
          ·(try simp only [dE] at hc)
           have hpar : parOk (gP l) := by unfold parOk; omega
           have hTl : ((gT l k).length : Int) = gM l k * k - (16 + gN l) := by unfold gT; simp; omega
           refine T.skip ?_
           refine keepK hK41 [0, 1, 4, 8, 10, 13, 17] (by dsimp) (by dsimp) ?_
           refine T.seq fun K45 hK45 => ?_
           refine T.seq fun K46 hK46 => ?_
           refine T.region ?_
           refine rs rfl rfl (ok_move (.inl rfl)) ?_
           refine rs rfl rfl (ok_add64 rfl ti_int rfl rfl (by omega) (by omega)) ?_
           refine rs rfl rfl (ok_move (.inr rfl)) ?_
           refine ro_nil ?_
           refine keepK hK46 [0, 1, 4, 10, 13, 17, 18] (by dsimp) (by dsimp) ?_
           refine T.block ?_
           refine T.loopI (ι := Nat) (fun m => (m : Int) ≤ gM l k * k - (16 + gN l) ∧ zeroB ((gT l k).take m) = true) (fun m => (gM l k * k - (16 + gN l)).toNat - m) (fun m => ([(0, .fz 1 (ints .u8 l)), (1, .int k), (4, .ref 0 0 0), (10, .int (gM l k)), (13, .ref 3 0 0), (17, .fz 1 (ints .u8 (rBody (gP l)).2.2)), (18, .int (16 + gN l + m))], [some ZB, some (R l (gQ1 l).1 (gQ1 l).2.1), some (R (gP l) (rBody (gP l)).1 (rBody (gP l)).2.1), some ⟨9, true, [.agg (ints .i64 (rdLF (rdFV (gP l) rLo rHi) 9 0))]⟩])) 0 ⟨by simp; omega, rfl⟩ (TEnt.toH rfl ⟨rfl, rfl, rfl, rfl, rfl, rfl, by simp, trivial⟩) (fun i hi => ?_) -- loop 3
           obtain ⟨hi, hz⟩ := hi
           refine T.seq fun K47 hK47 => ?_
           refine T.seq fun K48 hK48 => ?_
           refine T.region ?_
           refine rs rfl rfl (ok_move (.inl rfl)) ?_
           refine rs rfl rfl (ok_move (.inl rfl)) ?_
           refine rs rfl rfl (ok_move (.inl rfl)) ?_
           refine rs rfl rfl (ok_mul64 rfl ti_int rfl rfl (by omega) (by omega)) ?_
           refine rs rfl rfl (ok_binOp rfl ti_int rfl) ?_
           refine ro_nil ?_
           refine keepK hK48 [0, 1, 4, 10, 13, 17, 18, 112] (by dsimp) (by dsimp) ?_
           refine T.cond rfl (fun hc => ?_) (fun hc => ?_) -- cond 12
           ·(try simp only [dE] at hc)
            obtain ⟨c, hc0⟩ : ∃ c, l[(16 + gN l).toNat + i]? = some c := ⟨_, List.getElem?_eq_getElem (by omega)⟩
            have hT : (gT l k)[i]? = some c := by
              unfold gT
              rw [List.getElem?_drop, List.getElem?_take, if_pos (by omega), hc0]
            refine T.skip ?_
            refine keepK hK47 [0, 1, 4, 10, 13, 17, 18] (by dsimp) (by dsimp) ?_
            refine T.seq fun K49 hK49 => ?_
            refine T.block ?_
            refine T.seq fun K50 hK50 => ?_
            refine T.region ?_
            refine rs rfl rfl (ok_move (.inl rfl)) ?_
            refine rs rfl rfl (ok_move (.inl rfl)) ?_
            refine rs rfl rfl (by exact ok_index_ints rfl ti_Luint8 rfl ti_uint8 rfl rfl rfl (by omega) (by rw [← hc0]; congr 1; omega)) ?_
            refine rs rfl rfl (ok_load rfl ti_uint8 rfl rfl) ?_
            refine rs rfl rfl (ok_binOp rfl ti_uint8 rfl) ?_
            refine ro_nil ?_
            refine keepK hK50 [0, 1, 4, 10, 13, 17, 18, 119] (by dsimp) (by dsimp) ?_
            refine T.cond rfl (fun hc => ?_) (fun hc => ?_) -- cond 13
            ·(try simp only [dE] at hc)
             have hnz : ¬ zeroB (gT l k) = true := zeroB_hit hT (by simpa using hc)
             refine T.seq fun K51 hK51 => ?_
             refine T.region ?_
             refine rs rfl rfl (ok_build rfl ti_api_Rec rfl) ?_
             refine rs rfl rfl (ok_store rfl ti_api_Rec (by decide) rfl rfl rfl rfl rfl (by first | exact Nat.le_of_ble_eq_true rfl | simp) (by first | exact .inl ⟨rfl, rfl⟩ | exact .inr rfl)) ?_
             refine rs rfl rfl (ok_move (.inr rfl)) ?_
             refine rs rfl rfl (ok_move (.inr rfl)) ?_
             refine ro_nil ?_
             refine keepK hK51 [4, 5, 6] (by dsimp) (by dsimp) ?_
             refine T.ret (hQ _ _ _ rfl ?_).1 -- ret 9
             exact by first | (rw [getR_1 (by omega)]; exact ((TEnt.put1 0 (x' := .tup [.agg (RcC rc0), .int 0, .int 1]) (by show Ent _ (.tup [.agg [.int 0, .int 0, .int 0, .int 0, .int 0, .int 0, .int 0, .int 0, .int 0, .v (.slice none 0 0)], .int 0, .int _]) _; exact Ent.tup (EntL.cons rc0_view (EntL.refl _)))).trans (TEnt.fin [] (by decide) (by simp) rfl ⟨by simp [AV.ren, renL, RcC_ren], trivial⟩))) | (rw [getR_2 (by assumption) (by omega)]; exact ((TEnt.put1 0 (x' := .tup [.agg (RcC rc0), .int 0, .int 14]) (by show Ent _ (.tup [.agg [.int 0, .int 0, .int 0, .int 0, .int 0, .int 0, .int 0, .int 0, .int 0, .v (.slice none 0 0)], .int 0, .int _]) _; exact Ent.tup (EntL.cons rc0_view (EntL.refl _)))).trans (TEnt.fin [] (by decide) (by simp) rfl ⟨by simp [AV.ren, renL, RcC_ren], trivial⟩))) | (rw [getR_3 (by assumption) (by assumption) (by assumption)]; exact ((TEnt.put1 0 (x' := .tup [.agg (RcC rc0), .int 0, .int 13]) (by show Ent _ (.tup [.agg [.int 0, .int 0, .int 0, .int 0, .int 0, .int 0, .int 0, .int 0, .int 0, .v (.slice none 0 0)], .int 0, .int _]) _; exact Ent.tup (EntL.cons rc0_view (EntL.refl _)))).trans (TEnt.fin [] (by decide) (by simp) rfl ⟨by simp [AV.ren, renL, RcC_ren], trivial⟩))) | (rw [getR_4 (by assumption) (by assumption) (by assumption) (by assumption)]; exact ((TEnt.put1 0 (x' := .tup [.agg (RcC rc0), .int 0, .int 14]) (by show Ent _ (.tup [.agg [.int 0, .int 0, .int 0, .int 0, .int 0, .int 0, .int 0, .int 0, .int 0, .v (.slice none 0 0)], .int 0, .int _]) _; exact Ent.tup (EntL.cons rc0_view (EntL.refl _)))).trans (TEnt.fin [] (by decide) (by simp) rfl ⟨by simp [AV.ren, renL, RcC_ren], trivial⟩))) | (rw [getR_5 (by assumption) (by assumption) (by assumption) (by assumption) (by assumption)]; exact ((TEnt.put1 0 (x' := .tup [.agg (RcC rc0), .int 0, .int 15]) (by show Ent _ (.tup [.agg [.int 0, .int 0, .int 0, .int 0, .int 0, .int 0, .int 0, .int 0, .int 0, .v (.slice none 0 0)], .int 0, .int _]) _; exact Ent.tup (EntL.cons rc0_view (EntL.refl _)))).trans (TEnt.fin [] (by decide) (by simp) rfl ⟨by simp [AV.ren, renL, RcC_ren], trivial⟩))) | (rw [getR_6 (by assumption) (by assumption) (by assumption) (by assumption) (by assumption) (fun h => absurd h.2 (by assumption))]; exact ((TEnt.put1 0 (x' := .tup [.agg (RcC rc0), .int 0, .int 13]) (by show Ent _ (.tup [.agg [.int 0, .int 0, .int 0, .int 0, .int 0, .int 0, .int 0, .int 0, .int 0, .v (.slice none 0 0)], .int 0, .int _]) _; exact Ent.tup (EntL.cons rc0_view (EntL.refl _)))).trans (TEnt.fin [] (by decide) (by simp) rfl ⟨by simp [AV.ren, renL, RcC_ren], trivial⟩))) | (rw [getR_6 (by assumption) (by assumption) (by assumption) (by assumption) (by assumption) (fun h => by have h1 := h.1; unfold parOk at h1; omega)]; exact ((TEnt.put1 0 (x' := .tup [.agg (RcC rc0), .int 0, .int 13]) (by show Ent _ (.tup [.agg [.int 0, .int 0, .int 0, .int 0, .int 0, .int 0, .int 0, .int 0, .int 0, .v (.slice none 0 0)], .int 0, .int _]) _; exact Ent.tup (EntL.cons rc0_view (EntL.refl _)))).trans (TEnt.fin [] (by decide) (by simp) rfl ⟨by simp [AV.ren, renL, RcC_ren], trivial⟩))) | (rw [getR_7 (by assumption) (by assumption) (by assumption) (by assumption) (by assumption) ⟨by assumption, by assumption⟩]; exact TEnt.fin [] (by decide) (by simp) rfl ⟨by show AV.ren (pos []) (.tup [.agg (RcC (xr (gP l))), .int _, .int _]) = _; simp [AV.ren, renL, RcC_ren], trivial⟩)
            ·(try simp only [dE] at hc)
             refine T.skip ?_
             refine keepK hK49 [0, 1, 4, 10, 13, 17, 18] (by dsimp) (by dsimp) ?_
             refine T.region ?_
             refine rs rfl rfl (ok_move (.inl rfl)) ?_
             refine rs rfl rfl (ok_add64 rfl ti_int rfl rfl (by omega) (by omega)) ?_
             refine rs rfl rfl (ok_move (.inr rfl)) ?_
             refine ro_nil ?_
             exact ⟨i + 1, ⟨by omega, zeroB_step hz (by rw [hT]; simpa using hc)⟩, by omega, TEnt.toH rfl ⟨rfl, rfl, rfl, rfl, rfl, rfl, by simp; omega, trivial⟩⟩
           ·(try simp only [dE] at hc)
            have hzz : zeroB (gT l k) = true := by
              rw [List.take_of_length_le (by omega)] at hz
              exact hz
            refine T.exit ?_
            refine keepK hK45 [4, 10, 13, 17] (by dsimp) (by dsimp) ?_
            refine T.seq fun K52 hK52 => ?_
            refine T.region ?_
            refine rs rfl rfl (ok_indexAddr rfl ti_A9int (.inr ⟨_, rfl⟩) ti_int rfl (by omega) rfl) ?_
            refine rs rfl rfl (ok_load rfl ti_int rfl rfl) ?_
            refine rs rfl rfl (ok_indexAddr rfl ti_A9int (.inr ⟨_, rfl⟩) ti_int rfl (by omega) rfl) ?_
            refine rs rfl rfl (ok_load rfl ti_int rfl rfl) ?_
            refine rs rfl rfl (ok_indexAddr rfl ti_A9int (.inr ⟨_, rfl⟩) ti_int rfl (by omega) rfl) ?_
            refine rs rfl rfl (ok_load rfl ti_int rfl rfl) ?_
            refine rs rfl rfl (ok_indexAddr rfl ti_A9int (.inr ⟨_, rfl⟩) ti_int rfl (by omega) rfl) ?_
            refine rs rfl rfl (ok_load rfl ti_int rfl rfl) ?_
            refine rs rfl rfl (ok_indexAddr rfl ti_A9int (.inr ⟨_, rfl⟩) ti_int rfl (by omega) rfl) ?_
            refine rs rfl rfl (ok_load rfl ti_int rfl rfl) ?_
            refine rs rfl rfl (ok_indexAddr rfl ti_A9int (.inr ⟨_, rfl⟩) ti_int rfl (by omega) rfl) ?_
            refine rs rfl rfl (ok_load rfl ti_int rfl rfl) ?_
            refine rs rfl rfl (ok_indexAddr rfl ti_A9int (.inr ⟨_, rfl⟩) ti_int rfl (by omega) rfl) ?_
            refine rs rfl rfl (ok_load rfl ti_int rfl rfl) ?_
            refine rs rfl rfl (ok_indexAddr rfl ti_A9int (.inr ⟨_, rfl⟩) ti_int rfl (by omega) rfl) ?_
            refine rs rfl rfl (ok_load rfl ti_int rfl rfl) ?_
            refine rs rfl rfl (ok_indexAddr rfl ti_A9int (.inr ⟨_, rfl⟩) ti_int rfl (by omega) rfl) ?_
            refine rs rfl rfl (ok_load rfl ti_int rfl rfl) ?_
            refine rs rfl rfl (ok_move (.inl rfl)) ?_
            refine rs rfl rfl (ok_build_flat 10 rfl ti_api_Rec rfl rfl rfl rfl rfl) ?_
            refine rs rfl rfl (ok_move (.inl rfl)) ?_
            refine rs rfl rfl (ok_store rfl ti_api_Rec (by decide) rfl rfl rfl rfl rfl (by first | exact Nat.le_of_ble_eq_true rfl | simp) (by first | exact .inl ⟨rfl, rfl⟩ | exact .inr rfl)) ?_
            refine rs rfl rfl (ok_move (.inr rfl)) ?_
            refine rs rfl rfl (ok_move (.inr rfl)) ?_
            refine ro_nil ?_
            refine keepK hK52 [4, 5, 6] (by dsimp) (by dsimp) ?_
            refine T.ret (hQ _ _ _ rfl ?_).1 -- ret 10
            exact by first | (rw [getR_1 (by omega)]; exact ((TEnt.put1 0 (x' := .tup [.agg (RcC rc0), .int 0, .int 1]) (by show Ent _ (.tup [.agg [.int 0, .int 0, .int 0, .int 0, .int 0, .int 0, .int 0, .int 0, .int 0, .v (.slice none 0 0)], .int 0, .int _]) _; exact Ent.tup (EntL.cons rc0_view (EntL.refl _)))).trans (TEnt.fin [] (by decide) (by simp) rfl ⟨by simp [AV.ren, renL, RcC_ren], trivial⟩))) | (rw [getR_2 (by assumption) (by omega)]; exact ((TEnt.put1 0 (x' := .tup [.agg (RcC rc0), .int 0, .int 14]) (by show Ent _ (.tup [.agg [.int 0, .int 0, .int 0, .int 0, .int 0, .int 0, .int 0, .int 0, .int 0, .v (.slice none 0 0)], .int 0, .int _]) _; exact Ent.tup (EntL.cons rc0_view (EntL.refl _)))).trans (TEnt.fin [] (by decide) (by simp) rfl ⟨by simp [AV.ren, renL, RcC_ren], trivial⟩))) | (rw [getR_3 (by assumption) (by assumption) (by assumption)]; exact ((TEnt.put1 0 (x' := .tup [.agg (RcC rc0), .int 0, .int 13]) (by show Ent _ (.tup [.agg [.int 0, .int 0, .int 0, .int 0, .int 0, .int 0, .int 0, .int 0, .int 0, .v (.slice none 0 0)], .int 0, .int _]) _; exact Ent.tup (EntL.cons rc0_view (EntL.refl _)))).trans (TEnt.fin [] (by decide) (by simp) rfl ⟨by simp [AV.ren, renL, RcC_ren], trivial⟩))) | (rw [getR_4 (by assumption) (by assumption) (by assumption) (by assumption)]; exact ((TEnt.put1 0 (x' := .tup [.agg (RcC rc0), .int 0, .int 14]) (by show Ent _ (.tup [.agg [.int 0, .int 0, .int 0, .int 0, .int 0, .int 0, .int 0, .int 0, .int 0, .v (.slice none 0 0)], .int 0, .int _]) _; exact Ent.tup (EntL.cons rc0_view (EntL.refl _)))).trans (TEnt.fin [] (by decide) (by simp) rfl ⟨by simp [AV.ren, renL, RcC_ren], trivial⟩))) | (rw [getR_5 (by assumption) (by assumption) (by assumption) (by assumption) (by assumption)]; exact ((TEnt.put1 0 (x' := .tup [.agg (RcC rc0), .int 0, .int 15]) (by show Ent _ (.tup [.agg [.int 0, .int 0, .int 0, .int 0, .int 0, .int 0, .int 0, .int 0, .int 0, .v (.slice none 0 0)], .int 0, .int _]) _; exact Ent.tup (EntL.cons rc0_view (EntL.refl _)))).trans (TEnt.fin [] (by decide) (by simp) rfl ⟨by simp [AV.ren, renL, RcC_ren], trivial⟩))) | (rw [getR_6 (by assumption) (by assumption) (by assumption) (by assumption) (by assumption) (fun h => absurd h.2 (by assumption))]; exact ((TEnt.put1 0 (x' := .tup [.agg (RcC rc0), .int 0, .int 13]) (by show Ent _ (.tup [.agg [.int 0, .int 0, .int 0, .int 0, .int 0, .int 0, .int 0, .int 0, .int 0, .v (.slice none 0 0)], .int 0, .int _]) _; exact Ent.tup (EntL.cons rc0_view (EntL.refl _)))).trans (TEnt.fin [] (by decide) (by simp) rfl ⟨by simp [AV.ren, renL, RcC_ren], trivial⟩))) | (rw [getR_6 (by assumption) (by assumption) (by assumption) (by assumption) (by assumption) (fun h => by have h1 := h.1; unfold parOk at h1; omega)]; exact ((TEnt.put1 0 (x' := .tup [.agg (RcC rc0), .int 0, .int 13]) (by show Ent _ (.tup [.agg [.int 0, .int 0, .int 0, .int 0, .int 0, .int 0, .int 0, .int 0, .int 0, .v (.slice none 0 0)], .int 0, .int _]) _; exact Ent.tup (EntL.cons rc0_view (EntL.refl _)))).trans (TEnt.fin [] (by decide) (by simp) rfl ⟨by simp [AV.ren, renL, RcC_ren], trivial⟩))) | (rw [getR_7 (by assumption) (by assumption) (by assumption) (by assumption) (by assumption) ⟨by assumption, by assumption⟩]; exact TEnt.fin [] (by decide) (by simp) rfl ⟨by show AV.ren (pos []) (.tup [.agg (RcC (xr (gP l))), .int _, .int _]) = _; simp [AV.ren, renL, RcC_ren], trivial⟩)
end Go.Proofs.Ytjklgbafnfoolaa.AmF
namespace Go.Proofs.Ytjklgbafnfoolaa.AmF
open Go Go.AM
set_option maxRecDepth 100000
set_option maxHeartbeats 4000000
set_option linter.unusedSimpArgs false
set_option linter.unusedVariables false
attribute [local simp] tkeep tget tput ev cav argsTM pickA normT putA splice AV.cells ints_length rowsA_length Prs_len Zns_len
theorem logS_law {b : List Int} (hB : Bytes b) (c : Cf) (m : Int) : (chkC c ≠ 0 → (logS b c m).2 = 1) ∧ (chkC c = 0 → (getR b c.blk).2.2 ≠ 0 → (logS b c m).2 = (getR b c.blk).2.2) ∧ (chkC c = 0 → (getR b c.blk).2.2 = 0 → ((logS b c m).2 = 13 ∧ (logS b c m).1.1 = St0) ∨ ((logS b c m).2 = 0 ∧ RS (logS b c m).1.1 ∧ (logS b c m).1.1.c = c ∧ (0 ≤ (logS b c m).1.2.2 ∧ (logS b c m).1.2.2 * c.blk ≤ b.length))) := by
  obtain ⟨⟨x, n, e⟩, hg⟩ : ∃ q, getR b c.blk = q := ⟨_, rfl⟩
  rw [hg]
  refine ⟨fun h => by rw [logS_1 h], fun h he => by rw [logS_2 h hg he], fun h he => ?_⟩
  obtain rfl : e = 0 := he
  obtain ⟨⟨s, k⟩, hp⟩ : ∃ q, chkP x c m = q := ⟨_, rfl⟩
  cases k with
  | false => rw [logS_3 h hg hp]; exact .inl ⟨rfl, rfl⟩
  | true =>
    rw [logS_4 h hg hp]
    refine .inr ⟨rfl, ?_⟩
    have hx : RS s ∧ s.c = c := by
      unfold chkP at hp
      split at hp
      · cases hp
      · have h1 := (Prod.mk.inj hp).1
        have h2 := of_decide_eq_true (Prod.mk.inj hp).2
        rw [← h1]
        exact ⟨getS_right x.body h2.1, h2.2.1⟩
    have hi := (getR_in (k := c.blk) hB).1
    rw [hg] at hi
    obtain ⟨i1, i2, i3⟩ := hi rfl
    have hf := folN_keep (k := c.blk) hB (b.length + 1) s 0 n hx.1 (by dsimp only at i2; omega) i3
    exact ⟨hf.1, hf.2.1.trans hx.2, hf.2.2.2, hf.2.2.1⟩
theorem code12_ok (e : Int) : CSpec Try.prog 7 [] [.int e] [] (.int e) := by
 refine CSpec.body Try.func7 rfl rfl rfl rfl rfl fun Q hQ => ?_
 refine T.seq fun K1 hK1 => ?_
 refine T.region ?_
 refine rs rfl rfl (ok_move (.inr rfl)) ?_
 refine ro_nil ?_
 refine keepK hK1 [0] (by dsimp) (by dsimp) ?_
 refine T.seq fun K2 hK2 => ?_
 refine T.region ?_
 refine rs rfl rfl (ok_move (.inl rfl)) ?_
 refine rs rfl rfl (ok_move (.inr rfl)) ?_
 refine ro_nil ?_
 refine keepK hK2 [2] (by dsimp) (by dsimp) ?_
 refine T.ret (hQ _ _ _ rfl ?_).1 -- ret 1
 exact TEnt.fin [] (by decide) (by simp) rfl ⟨rfl, trivial⟩
theorem live12_ok : CSpec Try.prog 4 [] [] [] (.b true) := by
 have hpos := first12_pos
 have hfst := sfirst_ok (newS cf12) 2 (fun _ => enc12) (fun z hz p hp => by rw [show z = z0 from List.eq_of_mem_replicate hz] at hp; simp [z0] at hp) (by decide) (by decide) (fun z hz => by rw [show z = z0 from List.eq_of_mem_replicate hz]; decide)
 obtain ⟨hlog, hmul⟩ := first12
 have hBb := first12_bytes
 have hBl := first12_len
 obtain ⟨B, hB⟩ : ∃ B, firstB (newS cf12) 2 = B := ⟨_, rfl⟩
 rw [hB] at hpos hfst hlog hmul hBb hBl
 have hl := slog_ok B cf12 2 hBb (by omega)
 have hn := slog_ok [] cf12 2 Bytes.nil (by decide)
 rw [hlog] at hl
 rw [log12_nil] at hn
 obtain ⟨q, hq⟩ : ∃ q, (B.length : Int) / 64 = q := ⟨_, rfl⟩
 rw [hq] at hl hmul
 refine CSpec.body Try.func4 rfl rfl rfl rfl rfl fun Q hQ => ?_
 refine T.seq fun K1 hK1 => ?_
 refine T.region ?_
 refine rs rfl rfl (ok_moveb (c := false) (.inr rfl) rfl) ?_
 refine ro_nil ?_
 refine keepK hK1 [] (by dsimp) (by dsimp) ?_
 refine T.seq fun K2 hK2 => ?_
 refine T.region ?_
 refine rs rfl rfl (ok_build_flat 11 rfl ti_api_Conf rfl rfl rfl rfl rfl) ?_
 refine rs rfl rfl (ok_alloc rfl ti_api_Conf rfl (by decide)) ?_
 refine rs rfl rfl (ok_store rfl ti_api_Conf (by decide) rfl rfl rfl rfl rfl (by first | exact Nat.le_of_ble_eq_true rfl | simp) (by first | exact .inl ⟨rfl, rfl⟩ | exact .inr rfl)) ?_
 refine ro_nil ?_
 refine keepK hK2 [1] (by dsimp) (by dsimp) ?_
 refine T.seq fun K3 hK3 => ?_
 refine T.region ?_
 refine rs rfl rfl (ok_load rfl ti_api_Conf rfl rfl) ?_
 refine ro rfl rfl (ok_call rfl rfl rfl ((rnew11_ok cf12 cf12_ok).plain (by simp [renL, AV.ren]; rfl) (by simp [AV.ren, renL, StC_ren]))) ?_
 refine ro rfl rfl (ok_call rfl rfl rfl (hfst.plain (by simp [renL, AV.ren, StC_ren]) (by simp [AV.ren, renL_ints]))) ?_
 refine rs rfl rfl (ok_move (.inr rfl)) ?_
 refine ro_nil ?_
 refine keepK hK3 [1, 2] (by dsimp) (by dsimp) ?_
 refine T.seq fun K4 hK4 => ?_
 refine T.region ?_
 refine rs rfl rfl (ok_move (.inl rfl)) ?_
 refine rs rfl rfl (ok_load rfl ti_api_Conf rfl rfl) ?_
 refine ro rfl rfl (ok_call rfl rfl rfl (hl.plain (by show renL _ [.fz 1 (ints .u8 B), .agg (CC cf12), .int 2] = _; simp [renL, AV.ren, renL_ints, CC_ren]) (by show AV.tup (renL _ [.agg (FdC (newS cf12) 0 q), .int 0]) = _; simp [renL, AV.ren, FdC_ren]))) ?_
 refine rs rfl rfl (ok_move (.inl rfl)) ?_
 refine rs rfl rfl (ok_extract rfl rfl rfl) ?_
 refine rs rfl rfl (ok_extract rfl rfl rfl) ?_
 refine rs rfl rfl (ok_alloc rfl ti_api_Found rfl (by decide)) ?_
 refine rs rfl rfl (ok_store rfl ti_api_Found (by decide) rfl rfl rfl rfl rfl (by first | exact Nat.le_of_ble_eq_true rfl | simp) (by first | exact .inl ⟨rfl, rfl⟩ | exact .inr rfl)) ?_
 refine rs rfl rfl (ok_move (.inr rfl)) ?_
 refine ro_nil ?_
 refine keepK hK4 [1, 2, 3, 4] (by dsimp) (by dsimp) ?_
 refine T.seq fun K5 hK5 => ?_
 refine T.region ?_
 refine rs rfl rfl (ok_load rfl ti_api_Conf rfl rfl) ?_
 refine ro rfl rfl (ok_call rfl rfl rfl ((hn.plain (by show renL _ [.fz 1 (ints .u8 []), .agg (CC cf12), .int 2] = _; simp [renL, AV.ren, renL_ints, CC_ren]) (by show AV.tup (renL _ [.agg (FdC St0 0 0), .int 14]) = _; simp [renL, AV.ren, FdC_ren])).view (EntL.cons (Ent.nil 1) (EntL.refl _)))) ?_
 refine rs rfl rfl (ok_move (.inl rfl)) ?_
 refine rs rfl rfl (ok_extract rfl rfl rfl) ?_
 refine rs rfl rfl (ok_extract rfl rfl rfl) ?_
 refine rs rfl rfl (ok_alloc rfl ti_api_Found rfl (by decide)) ?_
 refine rs rfl rfl (ok_store rfl ti_api_Found (by decide) rfl rfl rfl rfl rfl (by first | exact Nat.le_of_ble_eq_true rfl | simp) (by first | exact .inl ⟨rfl, rfl⟩ | exact .inr rfl)) ?_
 refine rs rfl rfl (ok_move (.inr rfl)) ?_
 refine ro_nil ?_
 refine keepK hK5 [2, 3, 4, 6] (by dsimp) (by dsimp) ?_
 refine T.seq fun K6 hK6 => ?_
 refine T.region ?_
 refine rs rfl rfl (ok_move (.inl rfl)) ?_
 refine rs rfl rfl (ok_len' rfl rfl ti_Luint8 rfl (by first | exact ints_length _ _ | exact rowsA_length _ _ | exact Cms_len _ | exact mapLen _ | rfl)) ?_
 refine rs rfl rfl ((ok_binOp rfl ti_int rfl).eq (x' := .b true) (by simp; omega) rfl) ?_
 refine rs rfl rfl (OpOk.bool (d := true) (ok_moveb (.inl rfl) rfl) (rfl)) ?_
 refine rs rfl rfl (ok_move (.inl rfl)) ?_
 refine ro rfl rfl (ok_call rfl rfl rfl ((code12_ok 0).plain rfl rfl)) ?_
 refine rs rfl rfl (ok_binOp rfl ti_int rfl) ?_
 refine rs rfl rfl (ok_pick rfl rfl) ?_
 refine rs rfl rfl (OpOk.bool (d := true) (ok_moveb (.inl rfl) rfl) (rfl)) ?_
 refine rs rfl rfl (ok_fieldAddr rfl ti_api_Found rfl rfl ti_int (by decide) rfl) ?_
 refine rs rfl rfl ((ok_load rfl ti_int rfl rfl).eq (x' := .int q) rfl rfl) ?_
 refine rs rfl rfl ((ok_mul64 rfl ti_int rfl rfl (by omega) (by omega)).eq (x' := .int (B.length : Int)) (by rw [hmul]) rfl) ?_
 refine rs rfl rfl (ok_move (.inl rfl)) ?_
 refine rs rfl rfl (ok_len' rfl rfl ti_Luint8 rfl (by first | exact ints_length _ _ | exact rowsA_length _ _ | exact Cms_len _ | exact mapLen _ | rfl)) ?_
 refine rs rfl rfl ((ok_binOp rfl ti_int rfl).eq (x' := .b true) (by simp) rfl) ?_
 refine rs rfl rfl (ok_pick rfl rfl) ?_
 refine rs rfl rfl (OpOk.bool (d := true) (ok_moveb (.inl rfl) rfl) (rfl)) ?_
 refine rs rfl rfl (ok_move (.inl rfl)) ?_
 refine ro rfl rfl (ok_call rfl rfl rfl ((code12_ok 14).plain rfl rfl)) ?_
 refine rs rfl rfl (ok_binOp rfl ti_int rfl) ?_
 refine rs rfl rfl (ok_pick rfl rfl) ?_
 refine rs rfl rfl (ok_move (.inr rfl)) ?_
 refine ro_nil ?_
 refine keepK hK6 [0] (by dsimp) (by dsimp) ?_
 refine T.ret (hQ _ _ _ rfl ?_).1 -- ret 1
 exact TEnt.fin [] (by decide) (by simp) rfl ⟨rfl, trivial⟩
theorem scanAny_ok (b : List Int) (c : Cf) (m : Int) (hB : Bytes b) (hl : b.length ≤ 140737488355328) : CSpec Try.prog 3 [] [.fz 1 (ints .u8 b), .agg (CC c), .int m] [] (.b true) := by
 obtain ⟨l1, l2, l3⟩ := logS_law hB c m
 have hlog := slog_ok b c m hB hl
 obtain ⟨⟨⟨s, cnt, n⟩, e⟩, hq⟩ : ∃ q, logS b c m = q := ⟨_, rfl⟩
 obtain ⟨⟨x, n2, e2⟩, hg⟩ : ∃ q, getR b c.blk = q := ⟨_, rfl⟩
 have hget := r10get_ok b c.blk hB hl
 rw [hq] at l1 l2 l3 hlog
 rw [hg] at l2 l3 hget
 dsimp only at l1 l2 l3 hlog hget
 refine CSpec.body Try.func3 rfl rfl rfl rfl rfl fun Q hQ => ?_
 refine T.seq fun K1 hK1 => ?_
 refine T.region ?_
 refine rs rfl rfl (ok_box (n := 11) rfl rfl (by decide)) ?_
 refine rs rfl rfl (ok_moveb (c := false) (.inr rfl) rfl) ?_
 refine ro_nil ?_
 refine keepK hK1 [0, 2, 4] (by dsimp) (by dsimp) ?_
 refine T.seq fun K2 hK2 => ?_
 refine T.seq fun K3 hK3 => ?_
 refine T.region ?_
 refine rs rfl rfl (ok_move (.inl rfl)) ?_
 refine rs rfl rfl (ok_len' rfl rfl ti_Luint8 rfl (by first | exact ints_length _ _ | exact rowsA_length _ _ | exact Cms_len _ | exact mapLen _ | rfl)) ?_
 refine rs rfl rfl (ok_binOp rfl ti_int rfl) ?_
 refine ro_nil ?_
 refine keepK hK3 [0, 2, 4, 14] (by dsimp) (by dsimp) ?_
 refine T.cond rfl (fun hc => ?_) (fun hc => ?_) -- cond 1
 ·(try simp only [dE] at hc)
  refine T.seq fun K4 hK4 => ?_
  refine T.region ?_
  refine ro rfl rfl (ok_call rfl rfl rfl (live12_ok.plain rfl rfl)) ?_
  refine rs rfl rfl (ok_move (.inr rfl)) ?_
  refine ro_nil ?_
  refine keepK hK4 [6] (by dsimp) (by dsimp) ?_
  refine T.ret (hQ _ _ _ rfl ?_).1 -- ret 1
  exact TEnt.fin [] (by decide) (by simp) rfl ⟨rfl, trivial⟩
 ·(try simp only [dE] at hc)
  have hb3 : b.length ≤ 3000 := by omega
  refine T.skip ?_
  refine keepK hK2 [0, 2, 4] (by dsimp) (by dsimp) ?_
  refine T.seq fun K5 hK5 => ?_
  refine T.region ?_
  refine rs rfl rfl (ok_move (.inl rfl)) ?_
  refine rs rfl rfl (ok_load rfl ti_api_Conf rfl rfl) ?_
  refine rs rfl rfl (ok_move (.inl rfl)) ?_
  refine ro rfl rfl (ok_call rfl rfl rfl (hlog.plain (by show renL _ [.fz 1 (ints .u8 b), .agg (CC c), .int m] = _; simp [renL, AV.ren, renL_ints, CC_ren]) (by show AV.tup (renL _ [.agg (FdC s cnt n), .int e]) = _; simp [renL, AV.ren, FdC_ren]))) ?_
  refine rs rfl rfl (ok_move (.inl rfl)) ?_
  refine rs rfl rfl (ok_extract rfl rfl rfl) ?_
  refine rs rfl rfl (ok_extract rfl rfl rfl) ?_
  refine rs rfl rfl (ok_alloc rfl ti_api_Found rfl (by decide)) ?_
  refine rs rfl rfl (ok_store rfl ti_api_Found (by decide) rfl rfl rfl rfl rfl (by first | exact Nat.le_of_ble_eq_true rfl | simp) (by first | exact .inl ⟨rfl, rfl⟩ | exact .inr rfl)) ?_
  refine rs rfl rfl (ok_move (.inr rfl)) ?_
  refine ro_nil ?_
  refine keepK hK5 [0, 4, 7, 8] (by dsimp) (by dsimp) ?_
  refine T.seq fun K6 hK6 => ?_
  refine T.seq fun K7 hK7 => ?_
  refine T.region ?_
  refine rs rfl rfl (ok_load rfl ti_api_Conf rfl rfl) ?_
  refine ro rfl rfl (ok_call rfl rfl rfl ((rcheck_ok c).plain (by show renL _ [.agg (CC c)] = _; simp [renL, AV.ren, CC_ren]) rfl)) ?_
  refine rs rfl rfl (ok_binOp rfl ti_int rfl) ?_
  refine ro_nil ?_
  refine keepK hK7 [0, 4, 7, 8, 25] (by dsimp) (by dsimp) ?_
  refine T.cond rfl (fun hc => ?_) (fun hc => ?_) -- cond 2
  ·(try simp only [dE] at hc)
   refine T.seq fun K8 hK8 => ?_
   refine T.region ?_
   refine rs rfl rfl (ok_move (.inl rfl)) ?_
   refine ro rfl rfl (ok_call rfl rfl rfl ((code12_ok e).plain rfl rfl)) ?_
   refine rs rfl rfl ((ok_binOp rfl ti_int rfl).eq (x' := .b true) (by rw [l1 hc]; rfl) rfl) ?_
   refine rs rfl rfl (OpOk.bool (d := true) (ok_moveb (.inl rfl) rfl) (rfl)) ?_
   refine ro rfl rfl (ok_call rfl rfl rfl (live12_ok.plain rfl rfl)) ?_
   refine rs rfl rfl (ok_pick rfl rfl) ?_
   refine rs rfl rfl (ok_move (.inr rfl)) ?_
   refine ro_nil ?_
   refine keepK hK8 [6] (by dsimp) (by dsimp) ?_
   refine T.ret (hQ _ _ _ rfl ?_).1 -- ret 2
   exact TEnt.fin [] (by decide) (by simp) rfl ⟨rfl, trivial⟩
  ·(try simp only [dE] at hc)
   have hck := hc
   refine T.skip ?_
   refine keepK hK6 [0, 4, 7, 8] (by dsimp) (by dsimp) ?_
   refine T.seq fun K9 hK9 => ?_
   refine T.region ?_
   refine rs rfl rfl (ok_move (.inl rfl)) ?_
   refine rs rfl rfl (ok_fieldAddr rfl ti_api_Conf rfl rfl ti_int (by decide) rfl) ?_
   refine rs rfl rfl (ok_load rfl ti_int rfl rfl) ?_
   refine ro rfl rfl (ok_call rfl rfl rfl (hget.plain (by simp [renL, AV.ren, renL_ints]) (by simp [AV.ren, renL, RcC_ren]))) ?_
   refine rs rfl rfl (ok_move (.inl rfl)) ?_
   refine rs rfl rfl (ok_extract rfl rfl rfl) ?_
   refine rs rfl rfl (ok_extract rfl rfl rfl) ?_
   refine rs rfl rfl (ok_extract rfl rfl rfl) ?_
   refine rs rfl rfl (ok_alloc rfl ti_api_Rec rfl (by decide)) ?_
   refine rs rfl rfl (ok_store rfl ti_api_Rec (by decide) rfl rfl rfl rfl rfl (by first | exact Nat.le_of_ble_eq_true rfl | simp) (by first | exact .inl ⟨rfl, rfl⟩ | exact .inr rfl)) ?_
   refine rs rfl rfl (ok_move (.inr rfl)) ?_
   refine rs rfl rfl (ok_move (.inr rfl)) ?_
   refine ro_nil ?_
   refine keepK hK9 [0, 4, 7, 8, 11] (by dsimp) (by dsimp) ?_
   refine T.seq fun K10 hK10 => ?_
   refine T.seq fun K11 hK11 => ?_
   refine T.region ?_
   refine rs rfl rfl (ok_move (.inl rfl)) ?_
   refine rs rfl rfl (ok_binOp rfl ti_int rfl) ?_
   refine ro_nil ?_
   refine keepK hK11 [0, 4, 7, 8, 11, 41] (by dsimp) (by dsimp) ?_
   refine T.cond rfl (fun hc => ?_) (fun hc => ?_) -- cond 3
   ·(try simp only [dE] at hc)
    refine T.seq fun K12 hK12 => ?_
    refine T.region ?_
    refine rs rfl rfl (ok_move (.inl rfl)) ?_
    refine ro rfl rfl (ok_call rfl rfl rfl ((code12_ok e).plain rfl rfl)) ?_
    refine rs rfl rfl (ok_move (.inl rfl)) ?_
    refine rs rfl rfl ((ok_binOp rfl ti_int rfl).eq (x' := .b true) (by rw [l2 hck hc]; simp) rfl) ?_
    refine rs rfl rfl (OpOk.bool (d := true) (ok_moveb (.inl rfl) rfl) (rfl)) ?_
    refine ro rfl rfl (ok_call rfl rfl rfl (live12_ok.plain rfl rfl)) ?_
    refine rs rfl rfl (ok_pick rfl rfl) ?_
    refine rs rfl rfl (ok_move (.inr rfl)) ?_
    refine ro_nil ?_
    refine keepK hK12 [6] (by dsimp) (by dsimp) ?_
    refine T.ret (hQ _ _ _ rfl ?_).1 -- ret 3
    exact TEnt.fin [] (by decide) (by simp) rfl ⟨rfl, trivial⟩
   ·(try simp only [dE] at hc)
    have hlast := l3 hck hc
    refine T.skip ?_
    refine keepK hK10 [0, 4, 7, 8] (by dsimp) (by dsimp) ?_
    refine T.seq fun K13 hK13 => ?_
    refine T.seq fun K14 hK14 => ?_
    refine T.region ?_
    refine rs rfl rfl (ok_move (.inl rfl)) ?_
    refine ro rfl rfl (ok_call rfl rfl rfl ((code12_ok e).plain rfl rfl)) ?_
    refine rs rfl rfl (ok_binOp rfl ti_int rfl) ?_
    refine ro_nil ?_
    refine keepK hK14 [0, 4, 7, 8, 51] (by dsimp) (by dsimp) ?_
    refine T.cond rfl (fun hc => ?_) (fun hc => ?_) -- cond 4
    ·(try simp only [dE] at hc)
     obtain ⟨rfl, rfl⟩ : e = 13 ∧ s = St0 := hlast.elim id (fun h => absurd h.1 hc)
     refine T.seq fun K15 hK15 => ?_
     refine T.region ?_
     refine rs rfl rfl (ok_move (.inl rfl)) ?_
     refine ro rfl rfl (ok_call rfl rfl rfl ((code12_ok 13).plain rfl rfl)) ?_
     refine rs rfl rfl ((ok_binOp rfl ti_int rfl).eq (x' := .b true) rfl rfl) ?_
     refine rs rfl rfl (OpOk.bool (d := true) (ok_moveb (.inl rfl) rfl) (rfl)) ?_
     refine rs rfl rfl (ok_fieldAddr rfl ti_api_Found rfl rfl ti_api_State (by decide) rfl) ?_
     refine rs rfl rfl (ok_fieldAddr rfl ti_api_State rfl rfl ti_Lapi_Zone (by decide) rfl) ?_
     refine rs rfl rfl ((ok_load rfl ti_Lapi_Zone rfl rfl).eq (x' := .fz 6 (Zns [])) rfl rfl) ?_
     refine rs rfl rfl (ok_len' rfl rfl ti_Lapi_Zone rfl (by first | exact ints_length _ _ | exact rowsA_length _ _ | exact Cms_len _ | exact mapLen _ | rfl)) ?_
     refine rs rfl rfl ((ok_binOp rfl ti_int rfl).eq (x' := .b true) rfl rfl) ?_
     refine rs rfl rfl (ok_pick rfl rfl) ?_
     refine rs rfl rfl (OpOk.bool (d := true) (ok_moveb (.inl rfl) rfl) (rfl)) ?_
     refine ro rfl rfl (ok_call rfl rfl rfl (live12_ok.plain rfl rfl)) ?_
     refine rs rfl rfl (ok_pick rfl rfl) ?_
     refine rs rfl rfl (ok_move (.inr rfl)) ?_
     refine ro_nil ?_
     refine keepK hK15 [6] (by dsimp) (by dsimp) ?_
     refine T.ret (hQ _ _ _ rfl ?_).1 -- ret 4
     exact TEnt.fin [] (by decide) (by simp) rfl ⟨rfl, trivial⟩
    ·(try simp only [dE] at hc)
     obtain ⟨hrs, hsc, hn0, hnl⟩ : RS s ∧ s.c = c ∧ 0 ≤ n ∧ n * c.blk ≤ b.length := hlast.elim (fun h => by omega) (fun h => ⟨h.2.1, h.2.2.1, h.2.2.2.1, h.2.2.2.2⟩)
     have hfw := RS_few hrs
     have hkb : 1 ≤ c.blk := (chkC_ok hck).2.2.2.1.1
     have hnk : 0 ≤ n * c.blk := Int.mul_nonneg hn0 (by omega)
     refine T.skip ?_
     refine keepK hK13 [0, 4, 7] (by dsimp) (by dsimp) ?_
     refine T.seq fun K16 hK16 => ?_
     refine T.region ?_
     refine rs rfl rfl (ok_fieldAddr rfl ti_api_Found rfl rfl ti_api_State (by decide) rfl) ?_
     refine rs rfl rfl ((ok_load rfl ti_api_State rfl rfl).eq (x' := .agg (StC s)) rfl rfl) ?_
     refine ro rfl rfl (ok_call rfl rfl rfl (((rsright_ok s (by omega) (by omega)).plain (by simp [renL, AV.ren, StC_ren]) rfl).eq (x' := .b true) (by rw [decide_eq_true hrs]) rfl)) ?_
     refine rs rfl rfl (OpOk.bool (d := true) (ok_moveb (.inl rfl) rfl) (rfl)) ?_
     refine rs rfl rfl (ok_fieldAddr rfl ti_api_Found rfl rfl ti_api_State (by decide) rfl) ?_
     refine rs rfl rfl (ok_fieldAddr rfl ti_api_State rfl rfl ti_api_Conf (by decide) rfl) ?_
     refine rs rfl rfl ((ok_load rfl ti_api_Conf rfl rfl).eq (x' := .agg (CC s.c)) rfl rfl) ?_
     refine rs rfl rfl (ok_load rfl ti_api_Conf rfl rfl) ?_
     refine rs rfl rfl ((eq_conf (c := s.c) (d := c) rfl (.inl rfl) rfl rfl).eq (x' := .b true) (by rw [hsc]; simp) rfl) ?_
     refine rs rfl rfl (ok_pick rfl rfl) ?_
     refine rs rfl rfl (OpOk.bool (d := true) (ok_moveb (.inl rfl) rfl) (rfl)) ?_
     refine rs rfl rfl (ok_fieldAddr rfl ti_api_Found rfl rfl ti_int (by decide) rfl) ?_
     refine rs rfl rfl ((ok_load rfl ti_int rfl rfl).eq (x' := .int n) rfl rfl) ?_
     refine rs rfl rfl (ok_fieldAddr rfl ti_api_Conf rfl rfl ti_int (by decide) rfl) ?_
     refine rs rfl rfl (ok_load rfl ti_int rfl rfl) ?_
     refine rs rfl rfl (ok_mul64 rfl ti_int rfl rfl (by omega) (by omega)) ?_
     refine rs rfl rfl (ok_move (.inl rfl)) ?_
     refine rs rfl rfl (ok_len' rfl rfl ti_Luint8 rfl (by first | exact ints_length _ _ | exact rowsA_length _ _ | exact Cms_len _ | exact mapLen _ | rfl)) ?_
     refine rs rfl rfl ((ok_binOp rfl ti_int rfl).eq (x' := .b true) (by simp; omega) rfl) ?_
     refine rs rfl rfl (ok_pick rfl rfl) ?_
     refine rs rfl rfl (OpOk.bool (d := true) (ok_moveb (.inl rfl) rfl) (rfl)) ?_
     refine ro rfl rfl (ok_call rfl rfl rfl (live12_ok.plain rfl rfl)) ?_
     refine rs rfl rfl (ok_pick rfl rfl) ?_
     refine rs rfl rfl (ok_move (.inr rfl)) ?_
     refine ro_nil ?_
     refine keepK hK16 [6] (by dsimp) (by dsimp) ?_
     refine T.ret (hQ _ _ _ rfl ?_).1 -- ret 5
     exact TEnt.fin [] (by decide) (by simp) rfl ⟨rfl, trivial⟩
theorem scanAny_row (b : List Int) (a : Cf11) (m : Int) (hB : Bytes b) (hl : b.length ≤ 140737488355328) : CSpec Try.prog 3 [] [.fz 1 (ints .u8 b), .agg (CC (cfOf a)), .int m] [] (.b true) := scanAny_ok b (cfOf a) m hB hl
end Go.Proofs.Ytjklgbafnfoolaa.AmF
