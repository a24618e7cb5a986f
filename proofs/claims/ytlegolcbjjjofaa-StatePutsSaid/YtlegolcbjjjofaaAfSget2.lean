/- Walks over the abstract machine: states of the log: a state got of bytes. -/
import Derived.Test.YtlegolcbjjjofaaAfSget1
namespace Go.Proofs.Ytlegolcbjjjofaa.AmF
open Go Go.AM
set_option maxRecDepth 100000
set_option maxHeartbeats 4000000
set_option linter.unusedSimpArgs false
set_option linter.unusedVariables false
attribute [local simp] tkeep tget tput ev cav argsTM pickA normT putA splice AV.cells ints_length rowsA_length Prs_len Zns_len
/-- So many statuses read. -/
def stK (l : List Int) (p : Nat) (e : Int) : Nat → List Int × Nat × Int
  | 0 => ([], p, e)
  | i + 1 => ((stK l p e i).1 ++ [(ri l (stK l p e i).2.1 (stK l p e i).2.2 0 2).2.2], (ri l (stK l p e i).2.1 (stK l p e i).2.2 0 2).1, (ri l (stK l p e i).2.1 (stK l p e i).2.2 0 2).2.1)
theorem stK_succ {l : List Int} {p p1 p2 : Nat} {e e1 e2 v : Int} {i : Nat} {st : List Int} (h : stK l p e i = (st, p1, e1)) (h1 : ri l p1 e1 0 2 = (p2, e2, v)) : stK l p e (i + 1) = (st ++ [v], p2, e2) := by
  rw [stK, h]
  dsimp only
  rw [h1]
theorem stK_le {l : List Int} {p : Nat} {e : Int} (hp : p ≤ l.length) : ∀ i, (stK l p e i).2.1 ≤ l.length
  | 0 => hp
  | i + 1 => ri_le (stK_le hp i)
theorem stK_len (l : List Int) (p : Nat) (e : Int) : ∀ i, (stK l p e i).1.length = i
  | 0 => rfl
  | i + 1 => by rw [stK, List.length_append, stK_len l p e i]; rfl
theorem stK_okE {l : List Int} {p : Nat} {e : Int} (h : okE e) : ∀ i, okE (stK l p e i).2.2
  | 0 => h
  | i + 1 => ri_okE (stK_okE h i)
/-- So many zones read. -/
def zsK (l : List Int) (p : Nat) (e : Int) : Nat → List Zn × Nat × Int
  | 0 => ([], p, e)
  | i + 1 => ((zsK l p e i).1 ++ [(zget l (zsK l p e i).2.1 (zsK l p e i).2.2).1], (zget l (zsK l p e i).2.1 (zsK l p e i).2.2).2.1, (zget l (zsK l p e i).2.1 (zsK l p e i).2.2).2.2)
theorem zsK_succ {l : List Int} {p p1 p2 : Nat} {e e1 e2 : Int} {z : Zn} {i : Nat} {zs : List Zn} (h : zsK l p e i = (zs, p1, e1)) (h1 : zget l p1 e1 = (z, p2, e2)) : zsK l p e (i + 1) = (zs ++ [z], p2, e2) := by
  rw [zsK, h]
  dsimp only
  rw [h1]
theorem zsK_le {l : List Int} {p : Nat} {e : Int} (hp : p ≤ l.length) : ∀ i, (zsK l p e i).2.1 ≤ l.length
  | 0 => hp
  | i + 1 => zget_le (zsK_le hp i)
theorem zsK_len (l : List Int) (p : Nat) (e : Int) : ∀ i, (zsK l p e i).1.length = i
  | 0 => rfl
  | i + 1 => by rw [zsK, List.length_append, zsK_len l p e i]; rfl
theorem zsK_okE {l : List Int} {p : Nat} {e : Int} (h : okE e) : ∀ i, okE (zsK l p e i).2.2
  | 0 => h
  | i + 1 => zget_okE (zsK_okE h i)
theorem zget_pars (l : List Int) (p : Nat) (e : Int) : (zget l p e).1.pars.length ≤ 2 := by
  show (pgK l _ _ _).1.length ≤ 2
  rw [pgK_len]
  have := ri_in (l := l) (p := (rf l (ri l (rf l (ri l (ri l p e 0 1099511627776).1 (ri l p e 0 1099511627776).2.1 (-1) 64).1 (ri l (ri l p e 0 1099511627776).1 (ri l p e 0 1099511627776).2.1 (-1) 64).2.1).1 (rf l (ri l (ri l p e 0 1099511627776).1 (ri l p e 0 1099511627776).2.1 (-1) 64).1 (ri l (ri l p e 0 1099511627776).1 (ri l p e 0 1099511627776).2.1 (-1) 64).2.1).2.1 0 1099511627776).1 (ri l (rf l (ri l (ri l p e 0 1099511627776).1 (ri l p e 0 1099511627776).2.1 (-1) 64).1 (ri l (ri l p e 0 1099511627776).1 (ri l p e 0 1099511627776).2.1 (-1) 64).2.1).1 (rf l (ri l (ri l p e 0 1099511627776).1 (ri l p e 0 1099511627776).2.1 (-1) 64).1 (ri l (ri l p e 0 1099511627776).1 (ri l p e 0 1099511627776).2.1 (-1) 64).2.1).2.1 0 1099511627776).2.1).1) (e := (rf l (ri l (rf l (ri l (ri l p e 0 1099511627776).1 (ri l p e 0 1099511627776).2.1 (-1) 64).1 (ri l (ri l p e 0 1099511627776).1 (ri l p e 0 1099511627776).2.1 (-1) 64).2.1).1 (rf l (ri l (ri l p e 0 1099511627776).1 (ri l p e 0 1099511627776).2.1 (-1) 64).1 (ri l (ri l p e 0 1099511627776).1 (ri l p e 0 1099511627776).2.1 (-1) 64).2.1).2.1 0 1099511627776).1 (ri l (rf l (ri l (ri l p e 0 1099511627776).1 (ri l p e 0 1099511627776).2.1 (-1) 64).1 (ri l (ri l p e 0 1099511627776).1 (ri l p e 0 1099511627776).2.1 (-1) 64).2.1).1 (rf l (ri l (ri l p e 0 1099511627776).1 (ri l p e 0 1099511627776).2.1 (-1) 64).1 (ri l (ri l p e 0 1099511627776).1 (ri l p e 0 1099511627776).2.1 (-1) 64).2.1).2.1 0 1099511627776).2.1).2.1) (a := 0) (b := 2) (by omega)
  omega
theorem zsK_pars (l : List Int) (p : Nat) (e : Int) : ∀ i, ∀ z ∈ (zsK l p e i).1, z.pars.length ≤ 2
  | 0, z, hz => by simp [zsK] at hz
  | i + 1, z, hz => by
    rw [zsK] at hz
    rcases List.mem_append.1 hz with hz | hz
    · exact zsK_pars l p e i z hz
    · rw [List.mem_singleton.1 hz]; exact zget_pars l _ _
/-- What lies behind the settings, read. -/
def bodyS (l : List Int) (c : Cf) : St × Nat × Int :=
  let a1 := ri l 0 0 0 1099511627776
  let a2 := ri l a1.1 a1.2.1 0 1099511627776
  let q := stK l a2.1 a2.2.1 c.mem.toNat
  let r := zsK l q.2.1 q.2.2 c.zon.toNat
  (⟨c, a1.2.2, a2.2.2, q.1, r.1⟩, r.2.1, r.2.2)
/-- A state got, and the error. -/
def getS (b : List Int) : St × Int :=
  if b.length < 88 then (St0, 14)
  else if (getC (b.take 88)).2 ≠ 0 ∨ chkC (getC (b.take 88)).1 ≠ 0 then (St0, 13)
  else if (bodyS (b.drop 88) (getC (b.take 88)).1).2.2 ≠ 0 then (St0, (bodyS (b.drop 88) (getC (b.take 88)).1).2.2)
  else if (bodyS (b.drop 88) (getC (b.take 88)).1).2.1 < (b.drop 88).length ∨ ¬ RS (bodyS (b.drop 88) (getC (b.take 88)).1).1 then (St0, 13)
  else ((bodyS (b.drop 88) (getC (b.take 88)).1).1, 0)
section
variable {b : List Int} {c : Cf} {ce : Int}
theorem getS_1 (h : b.length < 88) : getS b = (St0, 14) := if_pos h
theorem getS_2 (h : ¬ b.length < 88) (hc : getC (b.take 88) = (c, ce)) (h2 : ce ≠ 0 ∨ chkC c ≠ 0) : getS b = (St0, 13) := by
  unfold getS; rw [if_neg h, hc, if_pos h2]
theorem getS_3 (h : ¬ b.length < 88) (hc : getC (b.take 88) = (c, 0)) (h2 : chkC c = 0) {s : St} {p : Nat} {e : Int} (hb : bodyS (b.drop 88) c = (s, p, e)) (he : e ≠ 0) : getS b = (St0, e) := by
  unfold getS; rw [if_neg h, hc, if_neg (by simp [h2]), hb, if_pos he]
theorem getS_4 (h : ¬ b.length < 88) (hc : getC (b.take 88) = (c, 0)) (h2 : chkC c = 0) {s : St} {p : Nat} (hb : bodyS (b.drop 88) c = (s, p, 0)) (he : p < (b.drop 88).length ∨ ¬ RS s) : getS b = (St0, 13) := by
  unfold getS; rw [if_neg h, hc, if_neg (by simp [h2]), hb, if_neg (by simp), if_pos he]
theorem getS_5 (h : ¬ b.length < 88) (hc : getC (b.take 88) = (c, 0)) (h2 : chkC c = 0) {s : St} {p : Nat} (hb : bodyS (b.drop 88) c = (s, p, 0)) (he : ¬ (p < (b.drop 88).length ∨ ¬ RS s)) : getS b = (s, 0) := by
  unfold getS; rw [if_neg h, hc, if_neg (by simp [h2]), hb, if_neg (by simp), if_neg he]
end
def IsB (l : List Int) : Blk := ⟨1, true, ints .i64 l⟩
theorem IsB_ren (ρ : Nat → Option Nat) (l : List Int) : Blk.ren ρ (IsB l) = IsB l := by simp [IsB, Blk.ren, renL_ints]
def ZsB (l : List Zn) : Blk := ⟨6, true, Zns l⟩
theorem ZsB_ren (ρ : Nat → Option Nat) (l : List Zn) : Blk.ren ρ (ZsB l) = ZsB l := by simp [ZsB, Blk.ren, Zns_ren]
def SGb (c : Cf) (v1 v2 : Int) (a n b m : Nat) : Blk := SB ⟨c, v1, v2, [], []⟩ (.sl a 0 n) (.sl b 0 m)
theorem SGb_ren {ρ : Nat → Option Nat} {c : Cf} {v1 v2 : Int} {a a' b b' n m : Nat} (ha : ρ a = some a') (hb : ρ b = some b') : some (Blk.ren ρ (SGb c v1 v2 a n b m)) = some (SGb c v1 v2 a' n b' m) := SB_ren ha hb
theorem sget_ok (b : List Int) (hB : Bytes b) (hl : b.length ≤ 140737488355328) : CSpec Try.prog 37 [] [.fz 1 (ints .u8 b)] [] (.tup [.agg (StC (getS b).1), .int (getS b).2]) := by
 refine CSpec.body Try.func37 rfl rfl rfl rfl rfl fun Q hQ => ?_
 refine T.seq fun K1 hK1 => ?_
 refine T.region ?_ -- region 0
 refine ro rfl rfl (OpOk.step (ok_alloc rfl ti_api_State rfl (by decide))) ?_
 refine ro rfl rfl (OpOk.step (ok_move (.inr rfl))) ?_
 refine ro_nil ?_
 refine keepK hK1 [0, 2] (by dsimp) (by dsimp) ?_
 refine T.seq fun K2 hK2 => ?_
 refine T.seq fun K3 hK3 => ?_
 refine T.region ?_ -- region 1
 refine ro rfl rfl (OpOk.step (ok_move (.inl rfl))) ?_
 refine ro rfl rfl (OpOk.step (ok_len' rfl rfl ti_Luint8 rfl (by first | exact ints_length _ _ | exact rowsA_length _ _ | exact Cms_len _ | exact mapLen _ | rfl))) ?_
 refine ro rfl rfl (OpOk.step (ok_binOp rfl ti_int rfl)) ?_
 refine ro_nil ?_
 refine keepK hK3 [0, 2, 10] (by dsimp) (by dsimp) ?_
 refine T.cond rfl (fun hc => ?_) (fun hc => ?_) -- cond 1
 ·(try simp only [dE] at hc)
  rw [getS_1 (by omega)] at hQ
  refine T.seq fun K4 hK4 => ?_
  refine T.region ?_ -- region 2
  refine ro rfl rfl (OpOk.step (ok_build rfl ti_api_State rfl)) ?_
  refine ro rfl rfl (OpOk.step (ok_store rfl ti_api_State (by decide) rfl rfl rfl rfl rfl (by first | exact Nat.le_of_ble_eq_true rfl | simp) (by first | exact .inl ⟨rfl, rfl⟩ | exact .inr rfl))) ?_
  refine ro rfl rfl (OpOk.step (ok_move (.inr rfl))) ?_
  refine ro_nil ?_
  refine keepK hK4 [2, 3] (by dsimp) (by dsimp) ?_
  refine T.ret (hQ _ _ _ rfl ?_).1 -- ret 1
  exact ap_no (e := 14) rfl rfl
 ·(try simp only [dE] at hc)
  have h88 : ¬ b.length < 88 := by omega
  have hB1 : Bytes (b.take 88) := hB.take 88
  obtain ⟨⟨c, ce⟩, hgc⟩ : ∃ q, getC (b.take 88) = q := ⟨_, rfl⟩
  have hget := cget_ok (b.take 88) hB1 (by simp; omega)
  rw [hgc] at hget
  refine T.skip ?_
  refine keepK hK2 [0, 2] (by dsimp) (by dsimp) ?_
  refine T.seq fun K5 hK5 => ?_
  refine T.region ?_ -- region 3
  refine ro rfl rfl (OpOk.step (ok_move (.inl rfl))) ?_
  refine ro rfl rfl (OpOk.step ((ok_slice rfl ti_Luint8 (.inl ⟨_, _, rfl, ti_uint8, rfl⟩) (zl := none) (zh := some 88) rfl rfl rfl (r := .fz 1 (ints .u8 (b.take 88))) (by
  have h1 : (88 : Int) ≤ b.length := by omega
  simp [sliceA, h1, ints, List.map_take])))) ?_
  refine ro rfl rfl (ok_call rfl rfl rfl (hget.plain (by simp [renL, AV.ren, renL_ints]) (by show AV.tup (renL _ [.agg (CC c), .int ce]) = _; simp [AV.ren, renL, CC_ren]))) ?_
  refine ro rfl rfl (OpOk.step (ok_move (.inl rfl))) ?_
  refine ro rfl rfl (OpOk.step (ok_extract rfl rfl rfl)) ?_
  refine ro rfl rfl (OpOk.step (ok_extract rfl rfl rfl)) ?_
  refine ro rfl rfl (OpOk.step (ok_alloc rfl ti_api_Conf rfl (by decide))) ?_
  refine ro rfl rfl (OpOk.step (ok_store rfl ti_api_Conf (by decide) rfl rfl rfl rfl rfl (by first | exact Nat.le_of_ble_eq_true rfl | simp) (by first | exact .inl ⟨rfl, rfl⟩ | exact .inr rfl))) ?_
  refine ro rfl rfl (OpOk.step (ok_move (.inr rfl))) ?_
  refine ro_nil ?_
  refine keepK hK5 [0, 2, 4, 5] (by dsimp) (by dsimp) ?_
  refine T.seq fun K6 hK6 => ?_
  refine T.seq fun K7 hK7 => ?_
  refine T.region ?_ -- region 4
  refine ro rfl rfl (OpOk.step (ok_move (.inl rfl))) ?_
  refine ro rfl rfl (OpOk.step (ok_binOp rfl ti_api_Errno rfl)) ?_
  refine ro_case rfl rfl (OpOk.step (ok_moveb (.inl rfl) rfl)) (fun hb => ?_) (fun hb => ?_)
  ·(try simp only [dE] at hb)
   rw [getS_2 h88 hgc (.inl hb)] at hQ
   refine ro_skip rfl rfl ?_
   refine ro_skip rfl rfl ?_
   refine ro_skip rfl rfl ?_
   refine ro rfl rfl (OpOk.step (ok_pickb (t := true) (d := true) rfl rfl rfl)) ?_
   refine ro_nil ?_
   refine keepK hK7 [0, 2, 4, 24] (by dsimp) (by dsimp) ?_
   refine T.cond_true rfl ?_
   refine T.seq fun K8 hK8 => ?_
   refine T.region ?_ -- region 5
   refine ro rfl rfl (OpOk.step (ok_build rfl ti_api_State rfl)) ?_
   refine ro rfl rfl (OpOk.step (ok_store rfl ti_api_State (by decide) rfl rfl rfl rfl rfl (by first | exact Nat.le_of_ble_eq_true rfl | simp) (by first | exact .inl ⟨rfl, rfl⟩ | exact .inr rfl))) ?_
   refine ro rfl rfl (OpOk.step (ok_move (.inr rfl))) ?_
   refine ro_nil ?_
   refine keepK hK8 [2, 3] (by dsimp) (by dsimp) ?_
   refine T.ret (hQ _ _ _ rfl ?_).1 -- ret 2
   exact ap_no (e := 13) rfl rfl
  ·(try simp only [dE] at hb)
   refine ro rfl rfl (OpOk.step (ok_load rfl ti_api_Conf rfl rfl)) ?_
   refine ro rfl rfl (ok_call rfl rfl rfl ((check_ok c).plain (by show renL _ [.agg (CC c)] = _; simp [renL, AV.ren, CC_ren]) rfl)) ?_
   refine ro rfl rfl (OpOk.step (ok_binOp rfl ti_api_Errno rfl)) ?_
   refine ro rfl rfl (OpOk.step (ok_pick rfl rfl)) ?_
   refine ro_nil ?_
   refine keepK hK7 [0, 2, 4, 24] (by dsimp) (by dsimp) ?_
   refine T.cond rfl (fun hc => ?_) (fun hc => ?_) -- cond 2
   ·(try simp only [dE] at hc)
    rw [getS_2 h88 hgc (.inr hc)] at hQ
    refine T.seq fun K9 hK9 => ?_
    refine T.region ?_ -- region 5
    refine ro rfl rfl (OpOk.step (ok_build rfl ti_api_State rfl)) ?_
    refine ro rfl rfl (OpOk.step (ok_store rfl ti_api_State (by decide) rfl rfl rfl rfl rfl (by first | exact Nat.le_of_ble_eq_true rfl | simp) (by first | exact .inl ⟨rfl, rfl⟩ | exact .inr rfl))) ?_
    refine ro rfl rfl (OpOk.step (ok_move (.inr rfl))) ?_
    refine ro_nil ?_
    refine keepK hK9 [2, 3] (by dsimp) (by dsimp) ?_
    refine T.ret (hQ _ _ _ rfl ?_).1 -- ret 3
    exact ap_no (e := 13) rfl rfl
   ·(try simp only [dE] at hc)
    obtain rfl : ce = 0 := hb
    have hck := hc
    have hk := chkC_ok hck
    obtain ⟨m, hm⟩ : ∃ m : Nat, c.mem = m := ⟨c.mem.toNat, by have := hk.2.1; omega⟩
    obtain ⟨n, hn⟩ : ∃ n : Nat, c.zon = n := ⟨c.zon.toNat, by unfold okC at hk; omega⟩
    have hmb : m ≤ 16 := by have := hk.2.1; omega
    have hnb : n ≤ 64 := by unfold okC at hk; omega
    obtain ⟨l, hle⟩ : ∃ l, b.drop 88 = l := ⟨_, rfl⟩
    have hB2 : Bytes l := by rw [← hle]; exact hB.drop 88
    have hl2 : l.length ≤ 140737488355328 := by rw [← hle]; simp; omega
    obtain ⟨⟨p1, e1, v1⟩, h1⟩ : ∃ q, ri l 0 0 0 1099511627776 = q := ⟨_, rfl⟩
    obtain ⟨⟨p2, e2, v2⟩, h2⟩ : ∃ q, ri l p1 e1 0 1099511627776 = q := ⟨_, rfl⟩
    have k1 : p1 ≤ l.length := by have := ri_le (l := l) (p := 0) (e := 0) (a := 0) (b := 1099511627776) (Nat.zero_le _); rw [h1] at this; exact this
    have k2 : p2 ≤ l.length := by have := ri_le (e := e1) (a := 0) (b := 1099511627776) k1; rw [h2] at this; exact this
    obtain ⟨⟨st, p3, e3⟩, h3⟩ : ∃ q, stK l p2 e2 m = q := ⟨_, rfl⟩
    have k3 : p3 ≤ l.length := by have := stK_le (e := e2) k2 m; rw [h3] at this; exact this
    obtain ⟨⟨zs, p4, e4⟩, h4⟩ : ∃ q, zsK l p3 e3 n = q := ⟨_, rfl⟩
    have k4 : p4 ≤ l.length := by have := zsK_le (e := e3) k3 n; rw [h4] at this; exact this
    have hstl : st.length = m := by have := stK_len l p2 e2 m; rw [h3] at this; exact this
    have hzsl : zs.length = n := by have := zsK_len l p3 e3 n; rw [h4] at this; exact this
    have hzp : ∀ z ∈ zs, z.pars.length ≤ 2 := by have := zsK_pars l p3 e3 n; rw [h4] at this; exact this
    have hbody : bodyS (b.drop 88) c = (⟨c, v1, v2, st, zs⟩, p4, e4) := by
      have e5 : c.mem.toNat = m := by omega
      have e6 : c.zon.toNat = n := by omega
      rw [hle]
      unfold bodyS
      simp only [h1, h2, e5, e6, h3, h4]
    refine T.skip ?_
    refine keepK hK6 [0, 2, 4] (by dsimp) (by dsimp) ?_
    refine T.seq fun K10 hK10 => ?_
    refine T.region ?_ -- region 6
    refine ro rfl rfl (OpOk.step (ok_move (.inl rfl))) ?_
    refine ro rfl rfl (OpOk.step ((ok_slice rfl ti_Luint8 (.inl ⟨_, _, rfl, ti_uint8, rfl⟩) (zl := some 88) (zh := none) rfl rfl rfl (r := .fz 1 (ints .u8 l)) (by
  have h1 : (88 : Int) ≤ b.length := by omega
  rw [← hle]
  simp [sliceA, h1, ints, List.map_drop, List.take_of_length_le])))) ?_
    refine ro rfl rfl (ok_call rfl rfl rfl ((new_ok l hl2).fresh (x' := .ref 2 0 0) (H' := [some (R l 0 0)]) (by simp [renL, AV.ren, renL_ints]) rfl (by simp [renH, R_ren]))) ?_
    refine ro rfl rfl (OpOk.step (ok_move (.inr rfl))) ?_
    refine ro_nil ?_
    refine keepK hK10 [2, 4, 6] (by dsimp) (by dsimp) ?_
    refine T.seq fun K11 hK11 => ?_
    refine T.join hK11 [(2, .ref 0 0 0), (4, .ref 1 0 0), (6, .ref 2 0 0), (7, .ref 5 0 0)] [some Z15, some (CB c), some (R l p2 e2), some (IsB []), some (ZsB []), some (SGb c v1 v2 3 0 4 0)] (fun hJ12 => ?_) ?_
    ·
     refine T.draw mixed (SH [7] (HeldL ([none, some (CB c)]))) ?_ -- region 7
     refine any_take 0 rfl (by first | rfl | decide +kernel) rfl (by first | (simp [HeldL]; done) | (simp only [HeldL, List.map_cons, List.map_nil, List.cons_append, List.nil_append, List.set_cons_zero, List.set_cons_succ]; (repeat' first | trivial | rfl | constructor))) (fun H' hH => OpOk.step (ok_load rfl ti_api_Conf (locA_held hH rfl) rfl)) ?_
     refine any_take 1 rfl (by first | rfl | decide +kernel) rfl (by first | (simp [HeldL]; done) | (simp only [HeldL, List.map_cons, List.map_nil, List.cons_append, List.nil_append, List.set_cons_zero, List.set_cons_succ]; (repeat' first | trivial | rfl | constructor))) (fun H' hH => OpOk.step (ok_move (.inl rfl))) ?_
     refine any_take 3 rfl (by first | rfl | decide +kernel) rfl (by first | (simp [HeldL]; done) | (simp only [HeldL, List.map_cons, List.map_nil, List.cons_append, List.nil_append, List.set_cons_zero, List.set_cons_succ]; (repeat' first | trivial | rfl | constructor))) (fun H' hH => OpOk.step (ok_move (.inl rfl))) ?_
     refine any_many [2, 6] (by first | rfl | decide +kernel) (by decide) (fun k hk => ?_)
     simp only [List.mem_cons, List.not_mem_nil, or_false] at hk
     rcases hk with rfl | rfl
     ·
      refine step_one rfl rfl rfl (ok_call rfl rfl rfl ((by have h := int_ok l 0 0 0 1099511627776 hB2 (Nat.zero_le _) hl2; rw [h1] at h; exact h.passR 2 rfl rfl (fun _ => rfl)))) (.inr (by first | (simp [HeldL]; done) | (simp only [HeldL, List.map_cons, List.map_nil, List.cons_append, List.nil_append, List.set_cons_zero, List.set_cons_succ]; (repeat' first | trivial | rfl | constructor)))) ?_
      refine any_many [4, 6] (by first | rfl | decide +kernel) (by decide) (fun k hk => ?_)
      simp only [List.mem_cons, List.not_mem_nil, or_false] at hk
      rcases hk with rfl | rfl
      ·
       refine step_one rfl rfl rfl (ok_call rfl rfl rfl ((by have h := int_ok l p1 e1 0 1099511627776 hB2 k1 hl2; rw [h2] at h; exact h.passR 2 rfl rfl (fun _ => rfl)))) (.inr (by first | (simp [HeldL]; done) | (simp only [HeldL, List.map_cons, List.map_nil, List.cons_append, List.nil_append, List.set_cons_zero, List.set_cons_succ]; (repeat' first | trivial | rfl | constructor)))) ?_
       refine any_many [5, 6] (by first | rfl | decide +kernel) (by decide) (fun k hk => ?_)
       simp only [List.mem_cons, List.not_mem_nil, or_false] at hk
       rcases hk with rfl | rfl
       ·
        refine step_one rfl rfl rfl (OpOk.step (((ok_build rfl ti_api_State rfl).eq (x' := .agg (StS ⟨c, v1, v2, [], []⟩ (.v (.slice none 0 0)) (.v (.slice none 0 0)))) rfl rfl).tent ((emptyAt11 0 13 1 (by decide) rfl rfl).trans ((emptyAt11 0 14 6 (by decide) rfl rfl).trans (TEnt.to ⟨rfl, trivial⟩))))) (.inr (by first | (simp [HeldL]; done) | (simp only [HeldL, List.map_cons, List.map_nil, List.cons_append, List.nil_append, List.set_cons_zero, List.set_cons_succ]; (repeat' first | trivial | rfl | constructor)))) ?_
        refine any_one 6 rfl (by first | rfl | decide +kernel) rfl rfl (OpOk.step (ok_alloc rfl ti_api_State rfl (by decide))) (.inr (by first | (simp [HeldL]; done) | (simp only [HeldL, List.map_cons, List.map_nil, List.cons_append, List.nil_append, List.set_cons_zero, List.set_cons_succ]; (repeat' first | trivial | rfl | constructor)))) ?_
        refine any_one 7 rfl (by first | rfl | decide +kernel) rfl rfl (OpOk.step (ok_store rfl ti_api_State (by decide) rfl rfl rfl rfl rfl (by first | exact Nat.le_of_ble_eq_true rfl | simp) (by first | exact .inl ⟨rfl, rfl⟩ | exact .inr rfl))) (.inl (by simp)) ?_
        refine any_done rfl ?_
        first | exact hJ12 _ _ (TEnt.fin [0, 1, 2, 3, 4, 5] (by decide) (by simp) (heap6 rfl (congrArg some (CB_ren _ _)) (congrArg some (R_ren _ _ _ _)) rfl rfl (SGb_ren (a := 3) (b := 4) (by decide) (by decide))) ⟨rfl, rfl, rfl, rfl, trivial⟩) | exact hJ12 _ _ (TEnt.fin [0, 1, 2, 4, 5, 3] (by decide) (by simp) (heap6 rfl (congrArg some (CB_ren _ _)) (congrArg some (R_ren _ _ _ _)) rfl rfl (SGb_ren (a := 4) (b := 5) (by decide) (by decide))) ⟨rfl, rfl, rfl, rfl, trivial⟩)
       ·
        refine step_one rfl rfl rfl (OpOk.step (ok_alloc rfl ti_api_State rfl (by decide))) (.inr (by first | (simp [HeldL]; done) | (simp only [HeldL, List.map_cons, List.map_nil, List.cons_append, List.nil_append, List.set_cons_zero, List.set_cons_succ]; (repeat' first | trivial | rfl | constructor)))) ?_
        refine any_one 5 rfl (by first | rfl | decide +kernel) rfl rfl (OpOk.step (((ok_build rfl ti_api_State rfl).eq (x' := .agg (StS ⟨c, v1, v2, [], []⟩ (.v (.slice none 0 0)) (.v (.slice none 0 0)))) rfl rfl).tent ((emptyAt11 0 13 1 (by decide) rfl rfl).trans ((emptyAt11 0 14 6 (by decide) rfl rfl).trans (TEnt.to ⟨rfl, trivial⟩))))) (.inr (by first | (simp [HeldL]; done) | (simp only [HeldL, List.map_cons, List.map_nil, List.cons_append, List.nil_append, List.set_cons_zero, List.set_cons_succ]; (repeat' first | trivial | rfl | constructor)))) ?_
        refine any_one 7 rfl (by first | rfl | decide +kernel) rfl rfl (OpOk.step (ok_store rfl ti_api_State (by decide) rfl rfl rfl rfl rfl (by first | exact Nat.le_of_ble_eq_true rfl | simp) (by first | exact .inl ⟨rfl, rfl⟩ | exact .inr rfl))) (.inl (by simp)) ?_
        refine any_done rfl ?_
        first | exact hJ12 _ _ (TEnt.fin [0, 1, 2, 3, 4, 5] (by decide) (by simp) (heap6 rfl (congrArg some (CB_ren _ _)) (congrArg some (R_ren _ _ _ _)) rfl rfl (SGb_ren (a := 3) (b := 4) (by decide) (by decide))) ⟨rfl, rfl, rfl, rfl, trivial⟩) | exact hJ12 _ _ (TEnt.fin [0, 1, 2, 4, 5, 3] (by decide) (by simp) (heap6 rfl (congrArg some (CB_ren _ _)) (congrArg some (R_ren _ _ _ _)) rfl rfl (SGb_ren (a := 4) (b := 5) (by decide) (by decide))) ⟨rfl, rfl, rfl, rfl, trivial⟩)
      ·
       refine step_one rfl rfl rfl (OpOk.step (ok_alloc rfl ti_api_State rfl (by decide))) (.inr (by first | (simp [HeldL]; done) | (simp only [HeldL, List.map_cons, List.map_nil, List.cons_append, List.nil_append, List.set_cons_zero, List.set_cons_succ]; (repeat' first | trivial | rfl | constructor)))) ?_
       refine any_one 4 rfl (by first | rfl | decide +kernel) rfl rfl (ok_call rfl rfl rfl ((by have h := int_ok l p1 e1 0 1099511627776 hB2 k1 hl2; rw [h2] at h; exact h.passR 2 rfl rfl (fun _ => rfl)))) (.inr (by first | (simp [HeldL]; done) | (simp only [HeldL, List.map_cons, List.map_nil, List.cons_append, List.nil_append, List.set_cons_zero, List.set_cons_succ]; (repeat' first | trivial | rfl | constructor)))) ?_
       refine any_one 5 rfl (by first | rfl | decide +kernel) rfl rfl (OpOk.step (((ok_build rfl ti_api_State rfl).eq (x' := .agg (StS ⟨c, v1, v2, [], []⟩ (.v (.slice none 0 0)) (.v (.slice none 0 0)))) rfl rfl).tent ((emptyAt11 0 13 1 (by decide) rfl rfl).trans ((emptyAt11 0 14 6 (by decide) rfl rfl).trans (TEnt.to ⟨rfl, trivial⟩))))) (.inr (by first | (simp [HeldL]; done) | (simp only [HeldL, List.map_cons, List.map_nil, List.cons_append, List.nil_append, List.set_cons_zero, List.set_cons_succ]; (repeat' first | trivial | rfl | constructor)))) ?_
       refine any_one 7 rfl (by first | rfl | decide +kernel) rfl rfl (OpOk.step (ok_store rfl ti_api_State (by decide) rfl rfl rfl rfl rfl (by first | exact Nat.le_of_ble_eq_true rfl | simp) (by first | exact .inl ⟨rfl, rfl⟩ | exact .inr rfl))) (.inl (by simp)) ?_
       refine any_done rfl ?_
       first | exact hJ12 _ _ (TEnt.fin [0, 1, 2, 3, 4, 5] (by decide) (by simp) (heap6 rfl (congrArg some (CB_ren _ _)) (congrArg some (R_ren _ _ _ _)) rfl rfl (SGb_ren (a := 3) (b := 4) (by decide) (by decide))) ⟨rfl, rfl, rfl, rfl, trivial⟩) | exact hJ12 _ _ (TEnt.fin [0, 1, 2, 4, 5, 3] (by decide) (by simp) (heap6 rfl (congrArg some (CB_ren _ _)) (congrArg some (R_ren _ _ _ _)) rfl rfl (SGb_ren (a := 4) (b := 5) (by decide) (by decide))) ⟨rfl, rfl, rfl, rfl, trivial⟩)
     ·
      refine step_one rfl rfl rfl (OpOk.step (ok_alloc rfl ti_api_State rfl (by decide))) (.inr (by first | (simp [HeldL]; done) | (simp only [HeldL, List.map_cons, List.map_nil, List.cons_append, List.nil_append, List.set_cons_zero, List.set_cons_succ]; (repeat' first | trivial | rfl | constructor)))) ?_
      refine any_one 2 rfl (by first | rfl | decide +kernel) rfl rfl (ok_call rfl rfl rfl ((by have h := int_ok l 0 0 0 1099511627776 hB2 (Nat.zero_le _) hl2; rw [h1] at h; exact h.passR 2 rfl rfl (fun _ => rfl)))) (.inr (by first | (simp [HeldL]; done) | (simp only [HeldL, List.map_cons, List.map_nil, List.cons_append, List.nil_append, List.set_cons_zero, List.set_cons_succ]; (repeat' first | trivial | rfl | constructor)))) ?_
      refine any_one 4 rfl (by first | rfl | decide +kernel) rfl rfl (ok_call rfl rfl rfl ((by have h := int_ok l p1 e1 0 1099511627776 hB2 k1 hl2; rw [h2] at h; exact h.passR 2 rfl rfl (fun _ => rfl)))) (.inr (by first | (simp [HeldL]; done) | (simp only [HeldL, List.map_cons, List.map_nil, List.cons_append, List.nil_append, List.set_cons_zero, List.set_cons_succ]; (repeat' first | trivial | rfl | constructor)))) ?_
      refine any_one 5 rfl (by first | rfl | decide +kernel) rfl rfl (OpOk.step (((ok_build rfl ti_api_State rfl).eq (x' := .agg (StS ⟨c, v1, v2, [], []⟩ (.v (.slice none 0 0)) (.v (.slice none 0 0)))) rfl rfl).tent ((emptyAt11 0 13 1 (by decide) rfl rfl).trans ((emptyAt11 0 14 6 (by decide) rfl rfl).trans (TEnt.to ⟨rfl, trivial⟩))))) (.inr (by first | (simp [HeldL]; done) | (simp only [HeldL, List.map_cons, List.map_nil, List.cons_append, List.nil_append, List.set_cons_zero, List.set_cons_succ]; (repeat' first | trivial | rfl | constructor)))) ?_
      refine any_one 7 rfl (by first | rfl | decide +kernel) rfl rfl (OpOk.step (ok_store rfl ti_api_State (by decide) rfl rfl rfl rfl rfl (by first | exact Nat.le_of_ble_eq_true rfl | simp) (by first | exact .inl ⟨rfl, rfl⟩ | exact .inr rfl))) (.inl (by simp)) ?_
      refine any_done rfl ?_
      first | exact hJ12 _ _ (TEnt.fin [0, 1, 2, 3, 4, 5] (by decide) (by simp) (heap6 rfl (congrArg some (CB_ren _ _)) (congrArg some (R_ren _ _ _ _)) rfl rfl (SGb_ren (a := 3) (b := 4) (by decide) (by decide))) ⟨rfl, rfl, rfl, rfl, trivial⟩) | exact hJ12 _ _ (TEnt.fin [0, 1, 2, 4, 5, 3] (by decide) (by simp) (heap6 rfl (congrArg some (CB_ren _ _)) (congrArg some (R_ren _ _ _ _)) rfl rfl (SGb_ren (a := 4) (b := 5) (by decide) (by decide))) ⟨rfl, rfl, rfl, rfl, trivial⟩)
    refine T.seq fun K13 hK13 => ?_
    refine T.seq fun K14 hK14 => ?_
    refine T.region ?_ -- region 8
    refine ro rfl rfl (OpOk.step (ok_fieldAddr rfl ti_api_Conf rfl rfl ti_int (by decide) rfl)) ?_
    refine ro rfl rfl (OpOk.step ((ok_load rfl ti_int rfl rfl).eq (x' := .int m) (by show AV.int c.mem = _; rw [hm]) rfl)) ?_
    refine ro rfl rfl (OpOk.step (ok_move (.inl rfl))) ?_
    refine ro_nil ?_
    refine keepK hK14 [2, 4, 6, 7, 36, 37] (by dsimp) (by dsimp) ?_
    refine T.block ?_
    refine T.loopI (ι := Nat) (fun i => i ≤ m) (fun i => m - i) (fun i => ([(2, .ref 0 0 0), (4, .ref 1 0 0), (6, .ref 2 0 0), (7, .ref 5 0 0), (36, .int m), (37, .int i)], [some Z15, some (CB c), some (R l (stK l p2 e2 i).2.1 (stK l p2 e2 i).2.2), some (IsB (stK l p2 e2 i).1), some (ZsB []), some (SGb c v1 v2 3 i 4 0)])) 0 (Nat.zero_le _) (TEnt.toH rfl ⟨rfl, rfl, rfl, rfl, rfl, rfl, trivial⟩) (fun i hi => ?_) -- loop 1
    have q0 := stK_le (e := e2) k2 i
    have ql := stK_len l p2 e2 i
    obtain ⟨⟨sk, a, u⟩, q1⟩ : ∃ q, stK l p2 e2 i = q := ⟨_, rfl⟩
    obtain ⟨⟨a2, u2, v⟩, q2⟩ : ∃ q, ri l a u 0 2 = q := ⟨_, rfl⟩
    have q4 := stK_succ q1 q2
    rw [q1] at q0 ql
    dsimp only at q0 ql
    refine T.ent (TEnt.toH (tm' := [(2, .ref 0 0 0), (4, .ref 1 0 0), (6, .ref 2 0 0), (7, .ref 5 0 0), (36, .int m), (37, .int i)]) (H' := [some Z15, some (CB c), some (R l a u), some (IsB sk), some (ZsB []), some (SGb c v1 v2 3 i 4 0)]) (by rw [q1]) ⟨rfl, rfl, rfl, rfl, rfl, rfl, trivial⟩) ?_
    refine T.seq fun K15 hK15 => ?_
    refine T.region ?_ -- region 9
    refine ro rfl rfl (OpOk.step (ok_binOp rfl ti_int rfl)) ?_
    refine ro_nil ?_
    refine keepK hK15 [2, 4, 6, 7, 36, 37, 38] (by dsimp) (by dsimp) ?_
    refine T.seq fun K16 hK16 => ?_
    refine T.cond rfl (fun hc => ?_) (fun hc => ?_) -- cond 3
    ·(try simp only [dE] at hc)
     refine T.skip ?_
     refine keepK hK16 [2, 4, 6, 7, 36, 37] (by dsimp) (by dsimp) ?_
     refine T.seq fun K17 hK17 => ?_
     refine T.block ?_
     refine T.draw mixed (SH [7] (HeldL ([none, none, none, none, none, some (SGb c v1 v2 3 i 4 0)]))) ?_ -- region 10
     refine any_take 0 rfl (by first | rfl | decide +kernel) rfl (by first | (simp [HeldL]; done) | (simp only [HeldL, List.map_cons, List.map_nil, List.cons_append, List.nil_append, List.set_cons_zero, List.set_cons_succ]; (repeat' first | trivial | rfl | constructor))) (fun H' hH => OpOk.step (ok_fieldAddr rfl ti_api_State rfl rfl ti_Lint (by decide) rfl)) ?_
     refine any_take 1 rfl (by first | rfl | decide +kernel) rfl (by first | (simp [HeldL]; done) | (simp only [HeldL, List.map_cons, List.map_nil, List.cons_append, List.nil_append, List.set_cons_zero, List.set_cons_succ]; (repeat' first | trivial | rfl | constructor))) (fun H' hH => OpOk.step (ok_load rfl ti_Lint (locA_held hH rfl) rfl)) ?_
     refine any_take 2 rfl (by first | rfl | decide +kernel) rfl (by first | (simp [HeldL]; done) | (simp only [HeldL, List.map_cons, List.map_nil, List.cons_append, List.nil_append, List.set_cons_zero, List.set_cons_succ]; (repeat' first | trivial | rfl | constructor))) (fun H' hH => OpOk.step (ok_move (.inl rfl))) ?_
     refine any_one 3 rfl (by first | rfl | decide +kernel) rfl rfl (ok_call rfl rfl rfl ((by have h := int_ok l a u 0 2 hB2 q0 hl2; rw [q2] at h; exact h.passR 2 rfl rfl (fun _ => rfl)))) (.inr (by first | (simp [HeldL]; done) | (simp only [HeldL, List.map_cons, List.map_nil, List.cons_append, List.nil_append, List.set_cons_zero, List.set_cons_succ]; (repeat' first | trivial | rfl | constructor)))) ?_
     refine any_one 4 rfl (by first | rfl | decide +kernel) rfl rfl (OpOk.step (ok_buildSlice (n := 1) (ps := #[(0, .tmp 42)]) rfl ti_Lint rfl ti_int (by decide) rfl rfl (by decide) rfl rfl rfl)) (.inr (by first | (simp [HeldL]; done) | (simp only [HeldL, List.map_cons, List.map_nil, List.cons_append, List.nil_append, List.set_cons_zero, List.set_cons_succ]; (repeat' first | trivial | rfl | constructor)))) ?_
     refine any_one 5 rfl (by first | rfl | decide +kernel) rfl rfl (OpOk.step (by exact ok_append_ints (k := .i64) (xs := sk) (ys := [v]) rfl ti_Lint rfl ti_int rfl (by decide) rfl ti_Lint (by simp) rfl rfl rfl rfl rfl rfl rfl rfl (by omega) (by simp; omega))) (.inr (by first | (simp [HeldL]; done) | (simp only [HeldL, List.map_cons, List.map_nil, List.cons_append, List.nil_append, List.set_cons_zero, List.set_cons_succ]; (repeat' first | trivial | rfl | constructor)))) ?_
     refine any_take 6 rfl (by first | rfl | decide +kernel) rfl (by first | (simp [HeldL]; done) | (simp only [HeldL, List.map_cons, List.map_nil, List.cons_append, List.nil_append, List.set_cons_zero, List.set_cons_succ]; (repeat' first | trivial | rfl | constructor))) (fun H' hH => OpOk.step (ok_fieldAddr rfl ti_api_State rfl rfl ti_Lint (by decide) rfl)) ?_
     refine any_one 7 rfl (by first | rfl | decide +kernel) rfl rfl (OpOk.step (ok_store rfl ti_Lint (by decide) rfl rfl rfl rfl rfl (by first | exact Nat.le_of_ble_eq_true rfl | simp) (by first | exact .inl ⟨rfl, rfl⟩ | exact .inr rfl))) (.inl (by simp)) ?_
     refine any_done rfl ?_
     refine keepK hK17 [2, 4, 6, 7, 36, 37] (by dsimp) (by dsimp) ?_
     refine T.region ?_ -- region 11
     refine ro rfl rfl (OpOk.step (ok_add64 rfl ti_int rfl rfl (by omega) (by omega))) ?_
     refine ro rfl rfl (OpOk.step (ok_move (.inl rfl))) ?_
     refine ro_nil ?_
     exact ⟨i + 1, by omega, by omega, TEnt.fin [0, 1, 2, 7, 4, 5] (by decide) (by simp) (by show [some (Blk.ren _ Z15), some (Blk.ren _ (CB c)), some (Blk.ren _ (R l a2 u2)), some (Blk.ren _ (IsB (sk ++ [v]))), some (Blk.ren _ (ZsB [])), some (Blk.ren _ (SGb c v1 v2 7 (sk ++ [v]).length 4 0))] = _; rw [R_ren, CB_ren, IsB_ren, ZsB_ren, SGb_ren (a' := 3) (b' := 4) (by decide) (by decide), q4, List.length_append, ql]; rfl) ⟨rfl, rfl, rfl, rfl, rfl, rfl, trivial⟩⟩
    ·(try simp only [dE] at hc)
     obtain rfl : i = m := by omega
     obtain ⟨rfl, rfl, rfl⟩ : sk = st ∧ a = p3 ∧ u = e3 := by rw [q1] at h3; cases h3; exact ⟨rfl, rfl, rfl⟩
     obtain ⟨M, hM⟩ : ∃ M, M = i := ⟨_, rfl⟩
     subst hM
     refine T.exit ?_
     refine keepK hK13 [2, 4, 6, 7] (by dsimp) (by dsimp) ?_
     refine T.seq fun K18 hK18 => ?_
     refine T.seq fun K19 hK19 => ?_
     refine T.region ?_ -- region 12
     refine ro rfl rfl (OpOk.step (ok_fieldAddr rfl ti_api_Conf rfl rfl ti_int (by decide) rfl)) ?_
     refine ro rfl rfl (OpOk.step ((ok_load rfl ti_int rfl rfl).eq (x' := .int n) (by show AV.int c.zon = _; rw [hn]) rfl)) ?_
     refine ro rfl rfl (OpOk.step (ok_move (.inl rfl))) ?_
     refine ro_nil ?_
     refine keepK hK19 [2, 6, 7, 48, 49] (by dsimp) (by dsimp) ?_
     refine T.block ?_
     refine T.loopI (ι := Nat) (fun k => k ≤ n) (fun k => n - k) (fun k => ([(2, .ref 0 0 0), (6, .ref 2 0 0), (7, .ref 5 0 0), (48, .int n), (49, .int k)], [some Z15, some (CB c), some (R l (zsK l a u k).2.1 (zsK l a u k).2.2), some (IsB sk), some (ZsB (zsK l a u k).1), some (SGb c v1 v2 3 M 4 k)])) 0 (Nat.zero_le _) (TEnt.toH rfl ⟨rfl, rfl, rfl, rfl, rfl, trivial⟩) (fun i hi => ?_) -- loop 2
     have r0 := zsK_le (e := u) q0 i
     have rl := zsK_len l a u i
     obtain ⟨⟨zk, x, y⟩, r1⟩ : ∃ q, zsK l a u i = q := ⟨_, rfl⟩
     obtain ⟨⟨z, x2, y2⟩, r2⟩ : ∃ q, zget l x y = q := ⟨_, rfl⟩
     have r4 := zsK_succ r1 r2
     rw [r1] at r0 rl
     dsimp only at r0 rl
     refine T.ent (TEnt.toH (tm' := [(2, .ref 0 0 0), (6, .ref 2 0 0), (7, .ref 5 0 0), (48, .int n), (49, .int i)]) (H' := [some Z15, some (CB c), some (R l x y), some (IsB sk), some (ZsB zk), some (SGb c v1 v2 3 M 4 i)]) (by rw [r1]) ⟨rfl, rfl, rfl, rfl, rfl, trivial⟩) ?_
     refine T.seq fun K20 hK20 => ?_
     refine T.region ?_ -- region 13
     refine ro rfl rfl (OpOk.step (ok_binOp rfl ti_int rfl)) ?_
     refine ro_nil ?_
     refine keepK hK20 [2, 6, 7, 48, 49, 50] (by dsimp) (by dsimp) ?_
     refine T.seq fun K21 hK21 => ?_
     refine T.cond rfl (fun hc => ?_) (fun hc => ?_) -- cond 4
     ·(try simp only [dE] at hc)
      refine T.skip ?_
      refine keepK hK21 [2, 6, 7, 48, 49] (by dsimp) (by dsimp) ?_
      refine T.seq fun K22 hK22 => ?_
      refine T.block ?_
      refine T.draw mixed (SH [7] (HeldL ([none, none, none, none, none, some (SGb c v1 v2 3 M 4 i)]))) ?_ -- region 14
      refine any_take 0 rfl (by first | rfl | decide +kernel) rfl (by first | (simp [HeldL]; done) | (simp only [HeldL, List.map_cons, List.map_nil, List.cons_append, List.nil_append, List.set_cons_zero, List.set_cons_succ]; (repeat' first | trivial | rfl | constructor))) (fun H' hH => OpOk.step (ok_fieldAddr rfl ti_api_State rfl rfl ti_Lapi_Zone (by decide) rfl)) ?_
      refine any_take 1 rfl (by first | rfl | decide +kernel) rfl (by first | (simp [HeldL]; done) | (simp only [HeldL, List.map_cons, List.map_nil, List.cons_append, List.nil_append, List.set_cons_zero, List.set_cons_succ]; (repeat' first | trivial | rfl | constructor))) (fun H' hH => OpOk.step (ok_load rfl ti_Lapi_Zone (locA_held hH rfl) rfl)) ?_
      refine any_take 2 rfl (by first | rfl | decide +kernel) rfl (by first | (simp [HeldL]; done) | (simp only [HeldL, List.map_cons, List.map_nil, List.cons_append, List.nil_append, List.set_cons_zero, List.set_cons_succ]; (repeat' first | trivial | rfl | constructor))) (fun H' hH => OpOk.step (ok_move (.inl rfl))) ?_
      refine any_one 3 rfl (by first | rfl | decide +kernel) rfl rfl (ok_call rfl rfl rfl ((by have h := zget_ok l x y hB2 r0 hl2; rw [r2] at h; exact h.passR 2 rfl rfl (fun _ => by simp [AV.ren, ZnC_ren])))) (.inr (by first | (simp [HeldL]; done) | (simp only [HeldL, List.map_cons, List.map_nil, List.cons_append, List.nil_append, List.set_cons_zero, List.set_cons_succ]; (repeat' first | trivial | rfl | constructor)))) ?_
      refine any_one 4 rfl (by first | rfl | decide +kernel) rfl rfl (OpOk.step (ok_buildSlice (n := 1) (ps := #[(0, .tmp 54)]) rfl ti_Lapi_Zone rfl ti_api_Zone (by decide) rfl rfl (by decide) rfl rfl rfl)) (.inr (by first | (simp [HeldL]; done) | (simp only [HeldL, List.map_cons, List.map_nil, List.cons_append, List.nil_append, List.set_cons_zero, List.set_cons_succ]; (repeat' first | trivial | rfl | constructor)))) ?_
      refine any_one 5 rfl (by first | rfl | decide +kernel) rfl rfl (OpOk.step (by exact ok_append_map (fun z => .agg (ZnC z)) (xs := zk) (ys := [z]) rfl ti_Lapi_Zone rfl ti_api_Zone (by decide) (by decide) rfl ti_Lapi_Zone (by simp) rfl rfl rfl rfl rfl rfl rfl rfl (by omega) (by simp; omega))) (.inr (by first | (simp [HeldL]; done) | (simp only [HeldL, List.map_cons, List.map_nil, List.cons_append, List.nil_append, List.set_cons_zero, List.set_cons_succ]; (repeat' first | trivial | rfl | constructor)))) ?_
      refine any_take 6 rfl (by first | rfl | decide +kernel) rfl (by first | (simp [HeldL]; done) | (simp only [HeldL, List.map_cons, List.map_nil, List.cons_append, List.nil_append, List.set_cons_zero, List.set_cons_succ]; (repeat' first | trivial | rfl | constructor))) (fun H' hH => OpOk.step (ok_fieldAddr rfl ti_api_State rfl rfl ti_Lapi_Zone (by decide) rfl)) ?_
      refine any_one 7 rfl (by first | rfl | decide +kernel) rfl rfl (OpOk.step (ok_store rfl ti_Lapi_Zone (by decide) rfl rfl rfl rfl rfl (by first | exact Nat.le_of_ble_eq_true rfl | simp) (by first | exact .inl ⟨rfl, rfl⟩ | exact .inr rfl))) (.inl (by simp)) ?_
      refine any_done rfl ?_
      refine keepK hK22 [2, 6, 7, 48, 49] (by dsimp) (by dsimp) ?_
      refine T.region ?_ -- region 15
      refine ro rfl rfl (OpOk.step (ok_add64 rfl ti_int rfl rfl (by omega) (by omega))) ?_
      refine ro rfl rfl (OpOk.step (ok_move (.inl rfl))) ?_
      refine ro_nil ?_
      exact ⟨i + 1, by omega, by omega, TEnt.fin [0, 1, 2, 3, 7, 5] (by decide) (by simp) (by show [some (Blk.ren _ Z15), some (Blk.ren _ (CB c)), some (Blk.ren _ (R l x2 y2)), some (Blk.ren _ (IsB sk)), some (Blk.ren _ (ZsB (zk ++ [z]))), some (Blk.ren _ (SGb c v1 v2 3 M 7 (zk ++ [z]).length))] = _; rw [R_ren, CB_ren, IsB_ren, ZsB_ren, SGb_ren (a' := 3) (b' := 4) (by decide) (by decide), r4, List.length_append, rl]; rfl) ⟨rfl, rfl, rfl, rfl, rfl, trivial⟩⟩
     ·(try simp only [dE] at hc)
      obtain rfl : i = n := by omega
      obtain ⟨rfl, rfl, rfl⟩ : zk = zs ∧ x = p4 ∧ y = e4 := by rw [r1] at h4; cases h4; exact ⟨rfl, rfl, rfl⟩
      refine T.exit ?_
      refine keepK hK18 [2, 6, 7] (by dsimp) (by dsimp) ?_
      refine T.seq fun K23 hK23 => ?_
      refine T.block ?_
      refine T.seq fun K24 hK24 => ?_
      refine T.region ?_ -- region 16
      refine ro rfl rfl (OpOk.step (ok_move (.inl rfl))) ?_
      refine ro rfl rfl (ok_call rfl rfl rfl ((err_ok l x y).passR 2 rfl rfl (fun _ => rfl))) ?_
      refine ro rfl rfl (OpOk.step (ok_binOp rfl ti_api_Errno rfl)) ?_
      refine ro rfl rfl (OpOk.step (ok_move (.inr rfl))) ?_
      refine ro_nil ?_
      refine keepK hK24 [2, 6, 7, 59] (by dsimp) (by dsimp) ?_
      refine T.cond rfl (fun hc => ?_) (fun hc => ?_) -- cond 5
      ·(try simp only [dE] at hc)
       rw [getS_3 h88 hgc hck hbody hc] at hQ
       refine T.seq fun K25 hK25 => ?_
       refine T.region ?_ -- region 17
       refine ro rfl rfl (OpOk.step (ok_build rfl ti_api_State rfl)) ?_
       refine ro rfl rfl (OpOk.step (ok_move (.inl rfl))) ?_
       refine ro rfl rfl (ok_call rfl rfl rfl ((err_ok l x y).passR 2 rfl rfl (fun _ => rfl))) ?_
       refine ro rfl rfl (OpOk.step (ok_store rfl ti_api_State (by decide) rfl rfl rfl rfl rfl (by first | exact Nat.le_of_ble_eq_true rfl | simp) (by first | exact .inl ⟨rfl, rfl⟩ | exact .inr rfl))) ?_
       refine ro rfl rfl (OpOk.step (ok_move (.inr rfl))) ?_
       refine ro_nil ?_
       refine keepK hK25 [2, 3] (by dsimp) (by dsimp) ?_
       refine T.ret (hQ _ _ _ rfl ?_).1 -- ret 4
       exact ap_no (e := y) rfl rfl
      ·(try simp only [dE] at hc)
       obtain rfl : y = 0 := hc
       refine T.seq fun K26 hK26 => ?_
       refine T.region ?_ -- region 18
       refine ro rfl rfl (OpOk.step (ok_move (.inl rfl))) ?_
       refine ro rfl rfl (ok_call rfl rfl rfl ((left_ok l x 0 k4 hl2).passR 2 rfl rfl (fun _ => rfl))) ?_
       refine ro rfl rfl (OpOk.step (ok_binOp rfl ti_int rfl)) ?_
       refine ro_case rfl rfl (OpOk.step (ok_moveb (.inl rfl) rfl)) (fun hb => ?_) (fun hb => ?_)
       ·(try simp only [dE] at hb)
        rw [getS_4 h88 hgc hck hbody (.inl (by rw [hle]; omega))] at hQ
        refine ro_skip rfl rfl ?_
        refine ro_skip rfl rfl ?_
        refine ro_skip rfl rfl ?_
        refine ro rfl rfl (OpOk.step (ok_pickb (t := true) (d := true) rfl rfl rfl)) ?_
        refine ro rfl rfl (OpOk.step (ok_moveb (c := true) (.inr rfl) rfl)) ?_
        refine ro_nil ?_
        refine keepK hK26 [2, 7, 66] (by dsimp) (by dsimp) ?_
        refine T.cond_true rfl ?_
        refine T.seq fun K27 hK27 => ?_
        refine T.region ?_ -- region 19
        refine ro rfl rfl (OpOk.step (ok_build rfl ti_api_State rfl)) ?_
        refine ro rfl rfl (OpOk.step (ok_store rfl ti_api_State (by decide) rfl rfl rfl rfl rfl (by first | exact Nat.le_of_ble_eq_true rfl | simp) (by first | exact .inl ⟨rfl, rfl⟩ | exact .inr rfl))) ?_
        refine ro rfl rfl (OpOk.step (ok_move (.inr rfl))) ?_
        refine ro_nil ?_
        refine keepK hK27 [2, 3] (by dsimp) (by dsimp) ?_
        refine T.ret (hQ _ _ _ rfl ?_).1 -- ret 5
        exact ap_no (e := 13) rfl rfl
       ·(try simp only [dE] at hb)
        refine ro rfl rfl (OpOk.step (ok_load rfl ti_api_State rfl rfl)) ?_
        refine ro rfl rfl (ok_call rfl rfl rfl ((sright_ok ⟨c, v1, v2, sk, zk⟩ (by show sk.length ≤ _; omega) (by show zk.length ≤ _; omega) (fun z hz => by have := hzp z hz; omega)).lendV (EntL.cons (Ent.st' ⟨c, v1, v2, sk, zk⟩ hstl.symm hzsl.symm rfl rfl) EntL.nil) (by simp [renL, AV.ren, StC_ren]))) ?_
        refine ro rfl rfl (OpOk.step (ok_unOp rfl rfl)) ?_
        refine ro rfl rfl (OpOk.step (ok_pick rfl rfl)) ?_
        refine ro rfl rfl (OpOk.step (ok_move (.inr rfl))) ?_
        refine ro_nil ?_
        refine keepK hK26 [2, 7, 66] (by dsimp) (by dsimp) ?_
        refine T.cond rfl (fun hc => ?_) (fun hc => ?_) -- cond 6
        ·(try simp only [dE] at hc)
         rw [getS_4 h88 hgc hck hbody (.inr hc)] at hQ
         refine T.seq fun K28 hK28 => ?_
         refine T.region ?_ -- region 19
         refine ro rfl rfl (OpOk.step (ok_build rfl ti_api_State rfl)) ?_
         refine ro rfl rfl (OpOk.step (ok_store rfl ti_api_State (by decide) rfl rfl rfl rfl rfl (by first | exact Nat.le_of_ble_eq_true rfl | simp) (by first | exact .inl ⟨rfl, rfl⟩ | exact .inr rfl))) ?_
         refine ro rfl rfl (OpOk.step (ok_move (.inr rfl))) ?_
         refine ro_nil ?_
         refine keepK hK28 [2, 3] (by dsimp) (by dsimp) ?_
         refine T.ret (hQ _ _ _ rfl ?_).1 -- ret 6
         exact ap_no (e := 13) rfl rfl
        ·(try simp only [dE] at hc)
         rw [getS_5 h88 hgc hck hbody (by rw [hle]; intro h; rcases h with h | h; exact absurd h (by omega); exact h (by simpa using hc))] at hQ
         refine T.skip ?_
         refine keepK hK23 [2, 7] (by dsimp) (by dsimp) ?_
         refine T.seq fun K29 hK29 => ?_
         refine T.region ?_ -- region 20
         refine ro rfl rfl (OpOk.step (ok_load rfl ti_api_State rfl rfl)) ?_
         refine ro rfl rfl (OpOk.step (ok_store rfl ti_api_State (by decide) rfl rfl rfl rfl rfl (by first | exact Nat.le_of_ble_eq_true rfl | simp) (by first | exact .inl ⟨rfl, rfl⟩ | exact .inr rfl))) ?_
         refine ro rfl rfl (OpOk.step (ok_move (.inr rfl))) ?_
         refine ro_nil ?_
         refine keepK hK29 [2, 3] (by dsimp) (by dsimp) ?_
         refine T.ret (hQ _ _ _ rfl ?_).1 -- ret 7
         exact ap_ok ⟨c, v1, v2, sk, zk⟩ rfl rfl hstl.symm hzsl.symm rfl rfl
end Go.Proofs.Ytlegolcbjjjofaa.AmF
