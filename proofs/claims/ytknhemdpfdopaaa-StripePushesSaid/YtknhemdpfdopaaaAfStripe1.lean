/- Walks over the abstract machine: parities of first blocks of a stripe. -/
import Derived.Test.YtknhemdpfdopaaaAfMore
import Derived.Test.YtknhemdpfdopaaaAfXor
namespace Go.Proofs.Ytknhemdpfdopaaa.AmF
open Go Go.AM
set_option maxRecDepth 100000
set_option linter.unusedSimpArgs false
set_option linter.unusedVariables false
attribute [local simp] tkeep tget tput ev cav argsTM pickA normT putA splice AV.cells ints_length rowsA_length fit_len zipx_len upd_len
theorem fit_splice (l : List Int) (n : Nat) : splice (ints .u8 (List.replicate n 0)) 0 ((ints .u8 l).take (min (ints .u8 l).length n)) = ints .u8 (fit l n) := by
  unfold splice
  rw [ints_length, List.take_zero, List.nil_append, Nat.zero_add, ints_take, ints_drop, ints_length, ints_append]
  refine congrArg _ (ext0 (by simp; omega) fun i => ?_)
  have hf : (fit l n).getD i 0 = if i < n then l.getD i 0 else 0 := get_map _ _ _
  rw [hf, List.getD_eq_getElem?_getD, List.getElem?_append]
  simp only [List.length_take]
  by_cases h1 : i < min (min l.length n) l.length
  · rw [if_pos h1, List.getElem?_take, if_pos (by omega), if_pos (by omega), List.getD_eq_getElem?_getD]
  · rw [if_neg h1, List.getElem?_drop]
    by_cases h2 : i < n
    · rw [if_pos h2, getD_none (by omega)]
      rw [List.getElem?_replicate]
      split <;> rfl
    · rw [if_neg h2, List.getElem?_replicate, if_neg (by omega)]; rfl
theorem xfit_new (l : List Int) (n : Nat) (hn : n ≤ 1048576) : CSpec Try.prog 19 [] [.fz 1 (ints .u8 l), .int n] [some ⟨1, true, ints .u8 (fit l n)⟩] (.sl 0 0 n) := by
  refine CSpec.body Try.func19 rfl rfl rfl rfl rfl fun Q hQ => ?_
  refine T.seq fun K1 hK1 => ?_
  refine T.region ?_ -- region 0
  refine ro rfl rfl (OpOk.step (ok_move (.inr rfl))) ?_
  refine ro_nil ?_
  refine keepK hK1 [0, 1] (by dsimp) (by dsimp) ?_
  refine T.seq fun K2 hK2 => ?_
  refine T.region ?_ -- region 1
  refine ro rfl rfl (OpOk.step (ok_move (.inl rfl))) ?_
  refine ro rfl rfl (OpOk.step ((ok_max rfl rfl rfl).eq (x' := .int n) (by rw [show max (n : Int) 0 = n by omega]) rfl)) ?_
  refine ro rfl rfl (OpOk.step ((ok_min rfl rfl rfl).eq (x' := .int n) (by rw [show min (n : Int) 1048576 = n by omega]) rfl)) ?_
  refine ro rfl rfl (OpOk.step (ok_move (.inr rfl))) ?_
  refine ro_nil ?_
  refine keepK hK2 [0, 1] (by dsimp) (by dsimp) ?_
  refine T.seq fun K3 hK3 => ?_
  refine T.region ?_ -- region 2
  refine ro rfl rfl (OpOk.step (ok_move (.inl rfl))) ?_
  refine ro rfl rfl (OpOk.step ((ok_makeSlice (n := n) rfl ti_Luint8 rfl ti_uint8 rfl rfl (by omega) (by omega) (by show (1 : Int) * n ≤ _; omega) rfl (by decide)).eq (x' := .sl 0 0 n) (H'' := [some ⟨1, true, ints .u8 (List.replicate n 0)⟩]) rfl (by simp [ints]))) ?_
  refine ro rfl rfl (OpOk.step (ok_move (.inr rfl))) ?_
  refine ro_nil ?_
  refine keepK hK3 [0, 5] (by dsimp) (by dsimp) ?_
  refine T.seq fun K4 hK4 => ?_
  refine T.region ?_ -- region 3
  refine ro rfl rfl (OpOk.step (ok_move (.inl rfl))) ?_
  refine ro rfl rfl (OpOk.step (ok_move (.inl rfl))) ?_
  refine ro rfl rfl (OpOk.step ((ok_copy rfl ti_Luint8 rfl ti_uint8 (by decide) rfl rfl rfl rfl (by simp) rfl (.inl rfl)).eq (x' := .int (min (ints .u8 l).length n : Nat)) (H'' := [some ⟨1, true, ints .u8 (fit l n)⟩]) rfl (by rw [← fit_splice]; rfl))) ?_
  refine ro_nil ?_
  refine keepK hK4 [5] (by dsimp) (by dsimp) ?_
  refine T.seq fun K5 hK5 => ?_
  refine T.region ?_ -- region 4
  refine ro rfl rfl (OpOk.step (ok_move (.inl rfl))) ?_
  refine ro rfl rfl (OpOk.step (ok_move (.inr rfl))) ?_
  refine ro_nil ?_
  refine keepK hK5 [4] (by dsimp) (by dsimp) ?_
  refine T.ret (hQ _ _ _ rfl ?_).1 -- ret 1
  exact TEnt.fin [0] (by decide) (by simp) (by simp [normH, hget, Blk.ren, renL_ints]) ⟨rfl, trivial⟩
theorem xfit_frz (l : List Int) (n : Nat) (hn : n ≤ 1048576) : CSpec Try.prog 19 [] [.fz 1 (ints .u8 l), .int n] [] (.fz 1 (ints .u8 (fit l n))) := (xfit_new l n hn).frz (by simp) (renL_ints _ _ _)
theorem into_frz (a b : List Int) (ha : Bytes a) (hb : Bytes b) (la : a.length ≤ 140737488355328) (lb : b.length ≤ 140737488355328) : CSpec Try.prog 87 [] [.fz 1 (ints .u8 a), .fz 1 (ints .u8 b)] [] (.fz 1 (ints .u8 (zipx a b))) := (into_new a b ha hb la lb).frz (by simp) (renL_ints _ _ _)
/-- What stands at a place of a unit's parity: of the first n blocks. -/
def cn (u i t : Nat) (ls : List (List Int)) : Nat → Nat
  | 0 => 0
  | n + 1 => if n % u = i then cn u i t ls n ^^^ ((ls.getD n []).getD t 0).toNat else cn u i t ls n
def BB (ls : List (List Int)) : Prop := ∀ l ∈ ls, Bytes l
theorem BB.at {ls : List (List Int)} (h : BB ls) (n : Nat) : Bytes (ls.getD n []) := by
  rw [List.getD_eq_getElem?_getD]
  cases hn : ls[n]? with
  | none => exact .nil
  | some l => exact h l (List.mem_of_getElem? hn)
theorem byte_nat {l : List Int} (h : Bytes l) (t : Nat) : (l.getD t 0).toNat < 256 := by have := byte_at h t; omega
theorem cn_lt (u i t : Nat) {ls : List (List Int)} (h : BB ls) : ∀ n, cn u i t ls n < 256
  | 0 => by unfold cn; omega
  | n + 1 => by
    have h1 := cn_lt u i t h n
    have h2 := byte_nat (h.at n) t
    unfold cn
    split
    · exact Nat.xor_lt_two_pow (n := 8) h1 h2
    · exact h1
theorem cn_same {u i t : Nat} {ls : List (List Int)} {a : Nat} : ∀ {e : Nat}, a ≤ e → (∀ m, a ≤ m → m < e → m % u ≠ i) → cn u i t ls e = cn u i t ls a
  | e, hae, h => by
    rcases Nat.lt_or_ge a e with h1 | h1
    · obtain ⟨d, rfl⟩ : ∃ d, e = d + 1 := ⟨e - 1, by omega⟩
      show (if d % u = i then _ else _) = _
      rw [if_neg (h d (by omega) (by omega))]
      exact cn_same (by omega) fun m h2 h3 => h m h2 (by omega)
    · have : a = e := by omega
      rw [this]
theorem cn_tail {u i t : Nat} {ls : List (List Int)} : ∀ {e : Nat}, ls.length ≤ e → cn u i t ls e = cn u i t ls ls.length
  | e, hae => by
    rcases Nat.lt_or_ge ls.length e with h1 | h1
    · obtain ⟨d, rfl⟩ : ∃ d, e = d + 1 := ⟨e - 1, by omega⟩
      have ih := cn_tail (u := u) (i := i) (t := t) (ls := ls) (e := d) (by omega)
      show (if d % u = i then cn u i t ls d ^^^ _ else _) = _
      have hd : ls.getD d [] = [] := by rw [List.getD_eq_getElem?_getD, List.getElem?_eq_none (show ls.length ≤ d by omega)]; rfl
      rw [hd, ih]
      simp
    · have : e = ls.length := by omega
      rw [this]
/-- A unit's parity, of the first n blocks. -/
def cs (u i b : Nat) (ls : List (List Int)) (n : Nat) : List Int := (List.range b).map fun t => ((cn u i t ls n : Nat) : Int)
theorem cs_len (u i b : Nat) (ls : List (List Int)) (n : Nat) : (cs u i b ls n).length = b := by simp [cs]
theorem cs_get (u i b : Nat) (ls : List (List Int)) (n t : Nat) : (cs u i b ls n).getD t 0 = if t < b then ((cn u i t ls n : Nat) : Int) else 0 := get_map _ _ _
theorem cs_bytes (u i b : Nat) {ls : List (List Int)} (h : BB ls) (n : Nat) : Bytes (cs u i b ls n) := by
  intro x hx
  simp only [cs, List.mem_map] at hx
  obtain ⟨t, _, rfl⟩ := hx
  have := cn_lt u i t h n
  omega
theorem cs_zero (u i b : Nat) (ls : List (List Int)) : cs u i b ls 0 = List.replicate b 0 := by
  refine ext0 (by simp [cs]) fun t => ?_
  rw [cs_get, List.getD_eq_getElem?_getD, List.getElem?_replicate]
  split <;> rfl
theorem cs_congr {u i b : Nat} {ls : List (List Int)} {n m : Nat} (h : ∀ t, cn u i t ls n = cn u i t ls m) : cs u i b ls n = cs u i b ls m := by
  unfold cs
  exact List.map_congr_left fun t _ => by rw [h]
theorem cs_step {u i b n : Nat} {ls : List (List Int)} (hB : BB ls) (hn : n % u = i) {x : List Int} (hx : ls[n]? = some x) : zipx (cs u i b ls n) (fit x b) = cs u i b ls (n + 1) := by
  have hxd : ls.getD n [] = x := by rw [List.getD_eq_getElem?_getD, hx]; rfl
  refine ext0 (by simp [cs_len]) fun t => ?_
  have hf : (fit x b).getD t 0 = if t < b then x.getD t 0 else 0 := get_map _ _ _
  rw [zipx_get, cs_get, cs_get, hf]
  by_cases ht : t < b
  · rw [if_pos ht, if_pos ht, if_pos ht]
    have hb := byte_at (hB x (List.mem_of_getElem? hx)) t
    have hc := cn_lt u i t hB n
    obtain ⟨y, hy⟩ := Int.eq_ofNat_of_zero_le hb.1
    show _ = (((if n % u = i then cn u i t ls n ^^^ ((ls.getD n []).getD t 0).toNat else _) : Nat) : Int)
    rw [if_pos hn, hxd, hy, X_nat _ _ hc (by omega)]
    rfl
  · rw [if_neg ht, if_neg ht, if_neg ht]; decide +kernel
/-- All units' parities. -/
def ovr (u b : Nat) (ls : List (List Int)) : Nat → List Int
  | 0 => []
  | k + 1 => ovr u b ls k ++ cs u k b ls ls.length
theorem ovr_len (u b : Nat) (ls : List (List Int)) : ∀ k, (ovr u b ls k).length = k * b
  | 0 => by simp [ovr]
  | k + 1 => by simp [ovr, ovr_len u b ls k, cs_len, Nat.add_mul]
theorem ovr_bytes (u b : Nat) {ls : List (List Int)} (h : BB ls) : ∀ k, Bytes (ovr u b ls k)
  | 0 => .nil
  | k + 1 => (ovr_bytes u b h k).append (cs_bytes u k b h _)
def overC (c : Cf) (ls : List (List Int)) : List Int := if chkC c = 0 ∧ (ls.length : Int) ≤ rowC c then ovr c.unit.toNat c.blk.toNat ls c.unit.toNat else []
theorem conf_bd {c : Cf} (h : chkC c = 0) : (3 ≤ c.mem ∧ c.mem ≤ 16) ∧ (1 ≤ c.unit ∧ c.unit ≤ 64) ∧ (1 ≤ c.blk ∧ c.blk ≤ 4096) ∧ rowC c = (c.mem - 1) * c.unit ∧ saneC c = true := by
  have h1 := chkC_ok h
  have h2 := okC_sane h1
  refine ⟨h1.2.1, h1.2.2.1, h1.2.2.2.1, ?_, h2⟩
  unfold rowC
  rw [if_pos h2]
theorem row_bd {c : Cf} (h : chkC c = 0) : 1 ≤ rowC c ∧ rowC c ≤ 960 := by
  obtain ⟨h1, h2, _, h3, _⟩ := conf_bd h
  rw [h3]
  have h4 := mul_bd (a := c.mem - 1) (b := c.unit) (A := 15) (B := 64) (by omega) (by omega) (by omega) (by omega)
  have h5 : 0 < (c.mem - 1) * c.unit := Int.mul_pos (by omega) (by omega)
  omega
attribute [local simp] cs_len ovr_len
theorem CC_take' (c : Cf) : (CC c).take 11 = CC c := rfl
theorem mul_le_nat {a b A B : Nat} (h : a ≤ A) (h' : b ≤ B) : a * b ≤ A * B := Nat.mul_le_mul h h'
set_option maxHeartbeats 2000000 in
theorem over_new (c : Cf) (ls : List (List Int)) (hB : BB ls) (hn : ls.length ≤ 100000000) (hl : ∀ l ∈ ls, l.length ≤ 140737488355328) : CSpec Try.prog 46 [] [.agg (CC c), .fz 1 (rowsA .u8 ls)] [some ⟨1, true, ints .u8 (overC c ls)⟩] (.sl 0 0 (overC c ls).length) := by
  refine CSpec.body Try.func46 rfl rfl rfl rfl rfl fun Q hQ => ?_
  refine T.seq fun K1 hK1 => ?_
  refine T.region ?_ -- region 0
  refine ro rfl rfl (OpOk.step (ok_box (n := 11) rfl rfl (by decide))) ?_
  refine ro rfl rfl (OpOk.step (ok_move (.inr rfl))) ?_
  refine ro_nil ?_
  refine keepK hK1 [1, 2] (by dsimp) (by dsimp) ?_
  refine T.seq fun K2 hK2 => ?_
  refine T.seq fun K3 hK3 => ?_
  refine T.region ?_ -- region 1
  refine ro rfl rfl (OpOk.step (ok_load rfl ti_api_Conf rfl rfl)) ?_
  refine ro rfl rfl (ok_call rfl rfl rfl ((check_ok c).plain (by simp [renL, AV.ren, CC_take', CC_ren]) rfl)) ?_
  refine ro rfl rfl (OpOk.step (ok_binOp rfl ti_api_Errno rfl)) ?_
  refine ro_case rfl rfl (OpOk.step (ok_moveb (.inl rfl) rfl)) (fun hb => ?_) (fun hb => ?_)
  · (try simp only [decide_eq_true_eq, decide_eq_false_iff_not, beq_iff_eq, beq_eq_false_iff_ne, bne_iff_ne, bne_eq_false_iff_eq, ne_eq, Bool.not_eq_true', Bool.not_eq_false'] at hb)
    refine ro_skip rfl rfl ?_
    refine ro_skip rfl rfl ?_
    refine ro_skip rfl rfl ?_
    refine ro_skip rfl rfl ?_
    refine ro_skip rfl rfl ?_
    refine ro rfl rfl (OpOk.step (ok_pickb (t := true) (d := true) rfl rfl rfl)) ?_
    refine ro_nil ?_
    refine keepK hK3 [1, 2, 18] (by dsimp) (by dsimp) ?_
    refine T.cond_true rfl ?_
    refine T.seq fun K4 hK4 => ?_
    refine T.region ?_ -- region 2
    refine ro rfl rfl (OpOk.step (ok_move (.inr rfl))) ?_
    refine ro_nil ?_
    refine keepK hK4 [4] (by dsimp) (by dsimp) ?_
    refine T.ret (hQ _ _ _ rfl ?_).1 -- ret 1
    have e : overC c ls = [] := by unfold overC; rw [if_neg]; rintro ⟨h1, h2⟩; first | omega | (simp_all; done)
    rw [e]
    exact (TEnt.empty 0 1 (by decide) (.inr rfl)).trans (TEnt.fin [1] (by decide) (by simp) rfl ⟨rfl, trivial⟩)
  · (try simp only [decide_eq_true_eq, decide_eq_false_iff_not, beq_iff_eq, beq_eq_false_iff_ne, bne_iff_ne, bne_eq_false_iff_eq, ne_eq, Bool.not_eq_true', Bool.not_eq_false'] at hb)
    refine ro rfl rfl (OpOk.step (ok_move (.inl rfl))) ?_
    refine ro rfl rfl (OpOk.step (ok_len' rfl rfl ti_LLuint8 rfl (by first | exact ints_length _ _ | exact rowsA_length _ _ | exact Cms_len _ | exact mapLen _ | rfl))) ?_
    refine ro rfl rfl (OpOk.step (ok_load rfl ti_api_Conf rfl rfl)) ?_
    refine ro rfl rfl (ok_call rfl rfl rfl ((row_ok c).plain (by simp [renL, AV.ren, CC_take', CC_ren]) rfl)) ?_
    refine ro rfl rfl (OpOk.step (ok_binOp rfl ti_int rfl)) ?_
    refine ro rfl rfl (OpOk.step (ok_pick rfl rfl)) ?_
    refine ro_nil ?_
    refine keepK hK3 [1, 2, 18] (by dsimp) (by dsimp) ?_
    refine T.cond rfl (fun hc => ?_) (fun hc => ?_) -- cond 1
    · (try simp only [decide_eq_true_eq, decide_eq_false_iff_not, beq_iff_eq, beq_eq_false_iff_ne, bne_iff_ne, bne_eq_false_iff_eq, ne_eq, Bool.not_eq_true', Bool.not_eq_false'] at hc)
      refine T.seq fun K5 hK5 => ?_
      refine T.region ?_ -- region 2
      refine ro rfl rfl (OpOk.step (ok_move (.inr rfl))) ?_
      refine ro_nil ?_
      refine keepK hK5 [4] (by dsimp) (by dsimp) ?_
      refine T.ret (hQ _ _ _ rfl ?_).1 -- ret 2
      have e : overC c ls = [] := by unfold overC; rw [if_neg]; rintro ⟨h1, h2⟩; first | omega | (simp_all; done)
      rw [e]
      exact (TEnt.empty 0 1 (by decide) (.inr rfl)).trans (TEnt.fin [1] (by decide) (by simp) rfl ⟨rfl, trivial⟩)
    · (try simp only [decide_eq_true_eq, decide_eq_false_iff_not, beq_iff_eq, beq_eq_false_iff_ne, bne_iff_ne, bne_eq_false_iff_eq, ne_eq, Bool.not_eq_true', Bool.not_eq_false'] at hc)
      refine T.skip ?_
      refine keepK hK2 [1, 2] (by dsimp) (by dsimp) ?_
      refine T.seq fun K6 hK6 => ?_
      have hchk : chkC c = 0 := by first | omega | (simp_all; done)
      have hrow : (ls.length : Int) ≤ rowC c := by first | omega | (simp_all; done)
      obtain ⟨_, ⟨hu1, hu2⟩, ⟨hb1, hb2⟩, _, _⟩ := conf_bd hchk
      have hrb := row_bd hchk
      have hov : overC c ls = ovr c.unit.toNat c.blk.toNat ls c.unit.toNat := if_pos ⟨hchk, hrow⟩
      rw [hov] at hQ
      obtain ⟨u, hu⟩ := Int.eq_ofNat_of_zero_le (show 0 ≤ c.unit by omega)
      obtain ⟨b, hb⟩ := Int.eq_ofNat_of_zero_le (show 0 ≤ c.blk by omega)
      have hut : c.unit.toNat = u := by omega
      have hbt : c.blk.toNat = b := by omega
      rw [hut, hbt] at hQ
      refine T.region ?_ -- region 3
      refine ro rfl rfl (OpOk.step (ok_move (.inr rfl))) ?_
      refine ro_nil ?_
      refine keepK hK6 [1, 2, 5] (by dsimp) (by dsimp) ?_
      refine T.seq fun K7 hK7 => ?_
      refine T.seq fun K8 hK8 => ?_
      refine T.region ?_ -- region 4
      refine ro rfl rfl (OpOk.step (ok_fieldAddr rfl ti_api_Conf rfl rfl ti_int (by decide) rfl)) ?_
      refine ro rfl rfl (OpOk.step (ok_load rfl ti_int rfl rfl)) ?_
      refine ro rfl rfl (OpOk.step (ok_move (.inl rfl))) ?_
      refine ro_nil ?_
      refine keepK hK8 [1, 2, 5, 20, 21] (by dsimp) (by dsimp) ?_
      refine T.block ?_
      refine T.loopI (ι := Nat) (fun i => i ≤ u) (fun i => u - i) (fun i => ([(1, .fz 1 (rowsA .u8 ls)), (2, .ref 0 0 0), (5, .sl 1 0 (ovr u b ls i).length), (20, .int c.unit), (21, .int i)], [some (CB c), some ⟨1, true, ints .u8 (ovr u b ls i)⟩])) 0 (Nat.zero_le _) ((TEnt.empty 5 1 (by decide) (.inr rfl)).trans (TEnt.toH rfl ⟨rfl, rfl, rfl, rfl, rfl, trivial⟩)) (fun i hi => ?_) -- loop 1
      rename Nat => q
      rename q ≤ u => hq
      refine T.seq fun K9 hK9 => ?_
      refine T.region ?_ -- region 5
      refine ro rfl rfl (OpOk.step (ok_binOp rfl ti_int rfl)) ?_
      refine ro_nil ?_
      refine keepK hK9 [1, 2, 5, 20, 21, 22] (by dsimp) (by dsimp) ?_
      refine T.seq fun K10 hK10 => ?_
      refine T.cond rfl (fun hc => ?_) (fun hc => ?_) -- cond 2
      · (try simp only [decide_eq_true_eq, decide_eq_false_iff_not, beq_iff_eq, beq_eq_false_iff_ne, bne_iff_ne, bne_eq_false_iff_eq, ne_eq, Bool.not_eq_true', Bool.not_eq_false'] at hc)
        have hqu : q < u := by omega
        have hovl := ovr_len u b ls q
        have hqb := mul_le_nat (a := q) (A := 64) (b := b) (B := 4096) (by omega) (by omega)
        refine T.skip ?_
        refine keepK hK10 [1, 2, 5, 20, 21] (by dsimp) (by dsimp) ?_
        refine T.seq fun K11 hK11 => ?_
        refine T.block ?_
        refine T.seq fun K12 hK12 => ?_
        refine T.region ?_ -- region 6
        refine ro rfl rfl (OpOk.step (ok_move (.inl rfl))) ?_
        refine ro rfl rfl (OpOk.step (ok_move (.inr rfl))) ?_
        refine ro_nil ?_
        refine keepK hK12 [1, 2, 5, 6, 20, 21] (by dsimp) (by dsimp) ?_
        refine T.seq fun K13 hK13 => ?_
        refine T.region ?_ -- region 7
        refine ro rfl rfl (OpOk.step (ok_fieldAddr rfl ti_api_Conf rfl rfl ti_int (by decide) rfl)) ?_
        refine ro rfl rfl (OpOk.step (ok_load rfl ti_int rfl rfl)) ?_
        refine ro rfl rfl (OpOk.step ((((ok_makeSlice (n := c.blk) rfl ti_Luint8 rfl ti_uint8 rfl rfl (by omega) (by omega) (by show (1 : Int) * c.blk ≤ _; omega) rfl (by decide)).eq (x' := .sl 2 0 b) (H'' := [some (CB c), some ⟨1, true, ints .u8 (ovr u b ls q)⟩, some ⟨1, true, ints .u8 (List.replicate b 0)⟩]) (by rw [hbt]; rfl) (by rw [hbt]; simp [ints])).frz rfl (by simp)).eq (x' := .fz 1 (ints .u8 (cs u q b ls 0))) (H'' := [some (CB c), some ⟨1, true, ints .u8 (ovr u b ls q)⟩, some ⟨1, false, ints .u8 (cs u q b ls 0)⟩]) (by rw [cs_zero]) (by rw [cs_zero]; rfl))) ?_
        refine ro rfl rfl (OpOk.step (ok_move (.inr rfl))) ?_
        refine ro_nil ?_
        refine keepK hK13 [1, 2, 5, 6, 7, 20, 21] (by dsimp) (by dsimp) ?_
        refine T.seq fun K14 hK14 => ?_
        refine T.seq fun K15 hK15 => ?_
        refine T.region ?_ -- region 8
        refine ro rfl rfl (OpOk.step (ok_move (.inl rfl))) ?_
        refine ro rfl rfl (OpOk.step (ok_move (.inr rfl))) ?_
        refine ro_nil ?_
        refine keepK hK15 [1, 2, 5, 7, 8, 20, 21] (by dsimp) (by dsimp) ?_
        refine T.block ?_
        refine T.loopI (ι := Nat) (fun k => k % u = q ∧ k ≤ ls.length + u) (fun k => ls.length - k) (fun k => ([(1, .fz 1 (rowsA .u8 ls)), (2, .ref 0 0 0), (5, .sl 1 0 (ovr u b ls q).length), (7, .fz 1 (ints .u8 (cs u q b ls k))), (8, .int k), (20, .int c.unit), (21, .int q)], [some (CB c), some ⟨1, true, ints .u8 (ovr u b ls q)⟩])) q ⟨Nat.mod_eq_of_lt hqu, by omega⟩ (TEnt.fin [0, 1] (by decide) (by simp) (by simp [normH, hget, CB_ren, IB_ren]) ⟨by simp [AV.ren, renL_rowsA], rfl, rfl, by rw [show cs u q b ls q = cs u q b ls 0 from cs_congr fun t => cn_same (Nat.zero_le _) fun m _ hm => by rw [Nat.mod_eq_of_lt (by omega)]; omega]; simp [AV.ren, renL_ints], rfl, rfl, rfl, trivial⟩) (fun i hi => ?_) -- loop 2
        rename Nat => k
        rename (_ ∧ _) => hk
        refine T.seq fun K16 hK16 => ?_
        refine T.seq fun K17 hK17 => ?_
        refine T.region ?_ -- region 9
        refine ro rfl rfl (OpOk.step (ok_move (.inl rfl))) ?_
        refine ro rfl rfl (OpOk.step (ok_move (.inl rfl))) ?_
        refine ro rfl rfl (OpOk.step (ok_len' rfl rfl ti_LLuint8 rfl (by first | exact ints_length _ _ | exact rowsA_length _ _ | exact Cms_len _ | exact mapLen _ | rfl))) ?_
        refine ro rfl rfl (OpOk.step (ok_binOp rfl ti_int rfl)) ?_
        refine ro_nil ?_
        refine keepK hK17 [1, 2, 5, 7, 8, 20, 21, 31] (by dsimp) (by dsimp) ?_
        refine T.cond rfl (fun hc => ?_) (fun hc => ?_) -- cond 3
        · (try simp only [decide_eq_true_eq, decide_eq_false_iff_not, beq_iff_eq, beq_eq_false_iff_ne, bne_iff_ne, bne_eq_false_iff_eq, ne_eq, Bool.not_eq_true', Bool.not_eq_false'] at hc)
          have hkl : k < ls.length := by omega
          obtain ⟨x, hx⟩ : ∃ x, ls[k]? = some x := ⟨_, List.getElem?_eq_getElem hkl⟩
          have hst := cs_step (b := b) hB hk.1 hx
          have hxm := List.mem_of_getElem? hx
          have hnx : cs u q b ls (k + u) = cs u q b ls (k + 1) := cs_congr fun t => cn_same (by omega) fun m h1 h2 e => by
            have h3 := hk.1
            have h4 := Nat.div_add_mod m u
            have h5 := Nat.div_add_mod k u
            rw [e] at h4
            rw [h3] at h5
            have h6 : u * (k / u) < u * (m / u) := by omega
            have h7 : k / u < m / u := Nat.lt_of_mul_lt_mul_left h6
            have h8 : u * (k / u + 1) ≤ u * (m / u) := Nat.mul_le_mul_left _ h7
            rw [Nat.mul_add, Nat.mul_one] at h8
            omega
          refine T.skip ?_
          refine keepK hK16 [1, 2, 5, 7, 8, 20, 21] (by dsimp) (by dsimp) ?_
          refine T.seq fun K18 hK18 => ?_
          refine T.block ?_
          refine T.drawH mixed [] ?_ -- region 11
          refine any_take 0 rfl (by first | rfl | decide +kernel) rfl (HeldL.refl _) (fun H' hH => OpOk.step (ok_move (.inl rfl))) ?_
          refine any_take 1 rfl (by first | rfl | decide +kernel) rfl (HeldL.refl _) (fun H' hH => OpOk.step (ok_move (.inl rfl))) ?_
          refine any_take 2 rfl (by first | rfl | decide +kernel) rfl (HeldL.refl _) (fun H' hH => OpOk.step (ok_move (.inl rfl))) ?_
          refine any_take 3 rfl (by first | rfl | decide +kernel) rfl (HeldL.refl _) (fun H' hH => OpOk.step (by exact ok_index_fz rfl ti_LLuint8 rfl ti_Luint8 rfl rfl rfl (by omega) (rowsA_get_of (by simpa using hx)) rfl)) ?_
          refine any_take 4 rfl (by first | rfl | decide +kernel) rfl (HeldL.refl _) (fun H' hH => OpOk.step (ok_load rfl ti_Luint8 (locA_held hH rfl) rfl)) ?_
          refine any_take 5 rfl (by first | rfl | decide +kernel) rfl (HeldL.refl _) (fun H' hH => OpOk.step (ok_fieldAddr rfl ti_api_Conf rfl rfl ti_int (by decide) rfl)) ?_
          refine any_take 6 rfl (by first | rfl | decide +kernel) rfl (HeldL.refl _) (fun H' hH => OpOk.step (ok_load rfl ti_int (locA_held hH rfl) rfl)) ?_
          refine any_one 7 rfl (by first | rfl | decide +kernel) rfl rfl (ok_call rfl rfl rfl (((xfit_frz x b (by omega)).plain (by simp [renL, AV.ren, renL_ints, hb]) (by simp [AV.ren, renL_ints])))) (.inr (by first | (simp [HeldL]; done) | (simp only [HeldL, List.map_cons, List.map_nil, List.cons_append, List.nil_append, List.set_cons_zero, List.set_cons_succ]; (repeat' first | trivial | rfl | constructor)))) ?_
          refine any_one 8 rfl (by first | rfl | decide +kernel) rfl rfl (ok_call rfl rfl rfl (((into_frz (cs u q b ls k) (fit x b) (cs_bytes u q b hB k) (fit_bytes (hB x hxm) b) (by simp; omega) (by simp; omega)).plain (by simp [renL, AV.ren, renL_ints]) (by simp [AV.ren, renL_ints])).eq (x' := .fz 1 (ints .u8 (cs u q b ls (k + 1)))) (H'' := [some (CB c), some ⟨1, true, ints .u8 (ovr u b ls q)⟩]) (by rw [hst]) rfl)) (.inr (by first | (simp [HeldL]; done) | (simp only [HeldL, List.map_cons, List.map_nil, List.cons_append, List.nil_append, List.set_cons_zero, List.set_cons_succ]; (repeat' first | trivial | rfl | constructor)))) ?_
          refine any_take 9 rfl (by first | rfl | decide +kernel) rfl (by first | exact HeldL.refl _ | exact HeldL.append _ _ | simp [HeldL]) (fun H' hH => OpOk.step (ok_move (.inr rfl))) ?_
          refine any_done rfl ?_
          refine keepK hK18 [1, 2, 5, 7, 8, 20, 21] (by dsimp) (by dsimp) ?_
          refine T.region ?_ -- region 10
          refine ro rfl rfl (OpOk.step (ok_move (.inl rfl))) ?_
          refine ro rfl rfl (OpOk.step (ok_fieldAddr rfl ti_api_Conf rfl rfl ti_int (by decide) rfl)) ?_
          refine ro rfl rfl (OpOk.step (ok_load rfl ti_int rfl rfl)) ?_
          refine ro rfl rfl (OpOk.step (ok_add64 rfl ti_int rfl rfl (by omega) (by omega))) ?_
          refine ro rfl rfl (OpOk.step (ok_move (.inr rfl))) ?_
          refine ro_nil ?_
          exact ⟨k + u, ⟨by rw [Nat.add_mod_right]; exact hk.1, by omega⟩, by omega, TEnt.toH rfl ⟨rfl, rfl, rfl, by rw [hnx]; rfl, by show AV.int ((k : Int) + c.unit) = .int ((k + u : Nat) : Int); rw [hu]; rfl, rfl, rfl, trivial⟩⟩
        · (try simp only [decide_eq_true_eq, decide_eq_false_iff_not, beq_iff_eq, beq_eq_false_iff_ne, bne_iff_ne, bne_eq_false_iff_eq, ne_eq, Bool.not_eq_true', Bool.not_eq_false'] at hc)
          have hend : cs u q b ls k = cs u q b ls ls.length := cs_congr fun t => cn_tail (by omega)
          refine T.exit ?_
          refine keepK hK14 [1, 2, 5, 7, 20, 21] (by dsimp) (by dsimp) ?_
          refine T.region ?_ -- region 12
          refine ro rfl rfl (OpOk.step (ok_move (.inl rfl))) ?_
          refine ro rfl rfl (OpOk.step (ok_move (.inl rfl))) ?_
          refine ro rfl rfl (OpOk.step (by exact ok_append_ints (k := .u8) (xs := ovr u b ls q) (ys := cs u q b ls k) rfl ti_Luint8 rfl ti_uint8 rfl (by decide) rfl ti_Luint8 (by simp) rfl rfl rfl rfl rfl rfl rfl rfl (by simp) (by show (_ + _) * 1 ≤ _; simp; omega))) ?_
          refine ro rfl rfl (OpOk.step (ok_move (.inr rfl))) ?_
          refine ro_nil ?_
          refine keepK hK11 [1, 2, 5, 20, 21] (by dsimp) (by dsimp) ?_
          refine T.region ?_ -- region 13
          refine ro rfl rfl (OpOk.step (ok_add64 rfl ti_int rfl rfl (by omega) (by omega))) ?_
          refine ro rfl rfl (OpOk.step (ok_move (.inl rfl))) ?_
          refine ro_nil ?_
          exact ⟨q + 1, by omega, by omega, TEnt.fin [0, 2] (by decide) (by simp) (by rw [show ovr u b ls (q + 1) = ovr u b ls q ++ cs u q b ls k by rw [hend]; rfl]; simp [normH, hget, CB_ren, IB_ren]) ⟨by simp [AV.ren, renL_rowsA], rfl, by rw [show ovr u b ls (q + 1) = ovr u b ls q ++ cs u q b ls k by rw [hend]; rfl]; rfl, rfl, rfl, trivial⟩⟩
      · (try simp only [decide_eq_true_eq, decide_eq_false_iff_not, beq_iff_eq, beq_eq_false_iff_ne, bne_iff_ne, bne_eq_false_iff_eq, ne_eq, Bool.not_eq_true', Bool.not_eq_false'] at hc)
        have hin : q = u := by omega
        subst hin
        refine T.exit ?_
        refine keepK hK7 [5] (by dsimp) (by dsimp) ?_
        refine T.seq fun K19 hK19 => ?_
        refine T.region ?_ -- region 14
        refine ro rfl rfl (OpOk.step (ok_move (.inl rfl))) ?_
        refine ro rfl rfl (OpOk.step (ok_move (.inr rfl))) ?_
        refine ro_nil ?_
        refine keepK hK19 [4] (by dsimp) (by dsimp) ?_
        refine T.ret (hQ _ _ _ rfl ?_).1 -- ret 3
        exact TEnt.fin [1] (by decide) (by simp) (by simp [normH, hget, Blk.ren, renL_ints]) ⟨rfl, trivial⟩
end Go.Proofs.Ytknhemdpfdopaaa.AmF
