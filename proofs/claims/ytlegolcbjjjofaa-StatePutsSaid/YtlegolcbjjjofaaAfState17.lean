/- Walks over the abstract machine: states of the log: the first state. -/
import Derived.Test.YtlegolcbjjjofaaAfState9a
namespace Go.Proofs.Ytlegolcbjjjofaa.AmF
open Go Go.AM
set_option maxRecDepth 100000
set_option maxHeartbeats 4000000
set_option linter.unusedSimpArgs false
set_option linter.unusedVariables false
attribute [local simp] tkeep tget tput ev cav argsTM pickA normT putA splice AV.cells ints_length rowsA_length Prs_len Zns_len
theorem emptyAt11 {k : Nat} {tm : TM} {H : Heap} (t i es : Nat) (he : 0 < es) {l : List AV} (h : tget tm t = .agg l) (hi : l[i]? = some (.v (.slice none 0 0))) : TEnt k tm H ((t, .agg (l.set i (.sl H.length 0 0))) :: tm) (H ++ [some ⟨es, true, []⟩]) := by
  intro g vs hH hk hg ht
  subst hH
  obtain ⟨hgv, hsv⟩ := vpush_ok he hg
  refine ⟨g.vpush es, rfl, rfl, hgv, fun t' => ?_, hsv.ext, hsv.pin hk⟩
  simp only [tget]
  by_cases ht' : t = t'
  · subst ht'
    rw [if_pos rfl]
    have hr := Rel.mono hsv.ren (ht t)
    rw [h] at hr
    simp only [Rel] at hr ⊢
    obtain ⟨cs, e1, hl⟩ := hr
    obtain ⟨y, hy, hyr⟩ := hl.get hi
    simp only [Rel] at hyr
    subst hyr
    have hset : cs.toList.set i (.slice none 0 0) = cs.toList := by
      apply List.ext_getElem?
      intro j
      rw [List.getElem?_set]
      by_cases hj : i = j
      · subst hj
        have := (List.getElem?_eq_some_iff.1 hy).1
        rw [if_pos rfl, if_pos this, hy]
      · rw [if_neg hj]
    refine ⟨cs, e1, ?_⟩
    rw [← hset]
    refine RelL.set i hl ?_
    simp only [Rel]
    refine ⟨by simp [G.vpush], none, 0, rfl, fun k' hk' => ⟨Nat.le_refl _, ?_, fun h => absurd rfl h⟩⟩
    have e1 : (g.vpush es).sz g.H.length = 0 := by simp [G.vpush]
    have e2 : (g.vpush es).bs g.H.length = 0 := by simp [G.vpush]
    rw [e1, e2]; simp
  · rw [if_neg ht']
    exact Rel.mono hsv.ren (ht t')
def z0 : Zn := ⟨0, -1, false, 0, false, []⟩
/-- The first state. -/
def newS (c : Cf) : St := ⟨c, 1, 0, List.replicate c.mem.toNat 0, List.replicate c.zon.toNat z0⟩
def SBf (c : Cf) (L : List Int) (p n : Nat) : Blk := SB (newS c) (.fz 1 (ints .i64 L)) (.sl p 0 n)
theorem SBf_ren {ρ : Nat → Option Nat} {c : Cf} {L : List Int} {a a' n : Nat} (ha : ρ a = some a') : some (Blk.ren ρ (SBf c L a n)) = some (SBf c L a' n) := by
  simp [SBf, SB, Blk.ren, renL, AV.ren, StS_ren, renL_ints, ha]
theorem mk_frz {P : Program} {tm : TM} {H : Heap} {o : Oper} {m : Nat} (h : OpOk P tm H o (.sl H.length 0 m) (H ++ [some ⟨1, true, List.replicate m (AV.int 0)⟩])) : OpOk P tm H o (.fz 1 (ints .i64 (List.replicate m 0))) (H ++ [some ⟨1, false, ints .i64 (List.replicate m 0)⟩]) := by
  have h1 := h.eq (x' := .sl H.length 0 m) (H'' := H ++ [some ⟨1, true, ints .i64 (List.replicate m 0)⟩]) rfl (by simp [ints])
  have h2 := h1.frz (es := 1) (own := true) (l := ints .i64 (List.replicate m 0)) (by simp [hget]) (by simp)
  exact h2.eq rfl (by rw [List.set_append_right _ _ (Nat.le_refl _)]; simp)
theorem heap4 {a a' b b' c c' d d' : Option Blk} (h1 : a = a') (h2 : b = b') (h3 : c = c') (h4 : d = d') : [a, b, c, d] = [a', b', c', d'] := by subst h1 h2 h3 h4; rfl
theorem snew_ok (c : Cf) (hck : chkC c = 0) : CSpec Try.prog 31 [] [.agg (CC c)] [] (.tup [.agg (StC (newS c)), .int 0]) := by
 have hk := chkC_ok hck
 obtain ⟨m, hm⟩ : ∃ m : Nat, c.mem = m := ⟨c.mem.toNat, by have := hk.2.1; omega⟩
 obtain ⟨n, hn⟩ : ∃ n : Nat, c.zon = n := ⟨c.zon.toNat, by unfold okC at hk; omega⟩
 have hmb : m ≤ 16 := by have := hk.2.1; omega
 have hnb : n ≤ 64 := by unfold okC at hk; omega
 have hzs : (newS c).zs = List.replicate n z0 := by show List.replicate c.zon.toNat z0 = _; rw [hn]; rfl
 have hst : (newS c).st = List.replicate m 0 := by show List.replicate c.mem.toNat 0 = _; rw [hm]; rfl
 refine CSpec.body Try.func31 rfl rfl rfl rfl rfl fun Q hQ => ?_
 refine T.seq fun K1 hK1 => ?_
 refine T.region ?_ -- region 0
 refine ro rfl rfl (OpOk.step (ok_box (n := 11) rfl rfl (by decide))) ?_
 refine ro rfl rfl (OpOk.step (ok_alloc rfl ti_api_State rfl (by decide))) ?_
 refine ro rfl rfl (OpOk.step (ok_move (.inr rfl))) ?_
 refine ro_nil ?_
 refine keepK hK1 [1, 2] (by dsimp) (by dsimp) ?_
 refine T.seq fun K2 hK2 => ?_
 refine T.seq fun K3 hK3 => ?_
 refine T.region ?_ -- region 1
 refine ro rfl rfl (OpOk.step (ok_load rfl ti_api_Conf rfl rfl)) ?_
 refine ro rfl rfl (ok_call rfl rfl rfl ((check_ok c).plain (by show renL _ [.agg (CC c)] = _; simp [renL, AV.ren, CC_ren]) rfl)) ?_
 refine ro rfl rfl (OpOk.step (ok_move (.inr rfl))) ?_
 refine ro_nil ?_
 refine keepK hK3 [1, 2, 4] (by dsimp) (by dsimp) ?_
 refine T.seq fun K4 hK4 => ?_
 refine T.region ?_ -- region 2
 refine ro rfl rfl (OpOk.step (ok_move (.inl rfl))) ?_
 refine ro rfl rfl (OpOk.step (OpOk.bool (d := false) (ok_binOp rfl ti_api_Errno rfl) ((by simp [hck])))) ?_
 refine ro_nil ?_
 refine keepK hK4 [1, 2, 4, 9] (by dsimp) (by dsimp) ?_
 refine T.cond_false rfl ?_
 refine T.skip ?_
 refine keepK hK2 [1, 2] (by dsimp) (by dsimp) ?_
 refine T.seq fun K5 hK5 => ?_
 refine T.join hK5 [(1, .ref 0 0 0), (2, .ref 1 0 0), (5, .ref 2 0 0)] [some (CB c), some Z15, some (SBf c (List.replicate m 0) 3 0), some ⟨6, true, Zns (List.replicate 0 z0)⟩] (fun hJ6 => ?_) ?_
 ·
  refine T.draw mixed (SH [6] (HeldL ([some (CB c)]))) ?_ -- region 4
  refine any_take 0 rfl (by first | rfl | decide +kernel) rfl (by first | (simp [HeldL]; done) | (simp only [HeldL, List.map_cons, List.map_nil, List.cons_append, List.nil_append, List.set_cons_zero, List.set_cons_succ]; (repeat' first | trivial | rfl | constructor))) (fun H' hH => OpOk.step (ok_load rfl ti_api_Conf (locA_held hH rfl) rfl)) ?_
  refine any_take 1 rfl (by first | rfl | decide +kernel) rfl (by first | (simp [HeldL]; done) | (simp only [HeldL, List.map_cons, List.map_nil, List.cons_append, List.nil_append, List.set_cons_zero, List.set_cons_succ]; (repeat' first | trivial | rfl | constructor))) (fun H' hH => OpOk.step (ok_fieldAddr rfl ti_api_Conf rfl rfl ti_int (by decide) rfl)) ?_
  refine any_take 2 rfl (by first | rfl | decide +kernel) rfl (by first | (simp [HeldL]; done) | (simp only [HeldL, List.map_cons, List.map_nil, List.cons_append, List.nil_append, List.set_cons_zero, List.set_cons_succ]; (repeat' first | trivial | rfl | constructor))) (fun H' hH => OpOk.step (ok_load rfl ti_int (locA_held hH rfl) rfl)) ?_
  refine any_many [3, 5] (by first | rfl | decide +kernel) (by decide) (fun k hk => ?_)
  simp only [List.mem_cons, List.not_mem_nil, or_false] at hk
  rcases hk with rfl | rfl
  ·
   refine step_one rfl rfl rfl (OpOk.step (by exact mk_frz (m := m) (ok_makeSlice (n := (m : Int)) rfl ti_Lint rfl ti_int (by show AV.int c.mem = _; rw [hm]) (by show AV.int c.mem = _; rw [hm]) (by omega) (by omega) (by show (8 : Int) * m ≤ _; omega) rfl (by decide)))) (.inr (by first | (simp [HeldL]; done) | (simp only [HeldL, List.map_cons, List.map_nil, List.cons_append, List.nil_append, List.set_cons_zero, List.set_cons_succ]; (repeat' first | trivial | rfl | constructor)))) ?_
   refine any_many [4, 5] (by first | rfl | decide +kernel) (by decide) (fun k hk => ?_)
   simp only [List.mem_cons, List.not_mem_nil, or_false] at hk
   rcases hk with rfl | rfl
   ·
    refine step_one rfl rfl rfl (OpOk.step (((ok_build rfl ti_api_State rfl).eq (x' := .agg (StS (newS c) (.fz 1 (ints .i64 (List.replicate m 0))) (.v (.slice none 0 0)))) rfl rfl).tent ((emptyAt11 0 14 6 (by decide) rfl rfl).trans (TEnt.to ⟨rfl, trivial⟩)))) (.inr (by first | (simp [HeldL]; done) | (simp only [HeldL, List.map_cons, List.map_nil, List.cons_append, List.nil_append, List.set_cons_zero, List.set_cons_succ]; (repeat' first | trivial | rfl | constructor)))) ?_
    refine any_one 5 rfl (by first | rfl | decide +kernel) rfl rfl (OpOk.step (ok_alloc rfl ti_api_State rfl (by decide))) (.inr (by first | (simp [HeldL]; done) | (simp only [HeldL, List.map_cons, List.map_nil, List.cons_append, List.nil_append, List.set_cons_zero, List.set_cons_succ]; (repeat' first | trivial | rfl | constructor)))) ?_
    refine any_one 6 rfl (by first | rfl | decide +kernel) rfl rfl (OpOk.step (ok_store rfl ti_api_State (by decide) rfl rfl rfl rfl rfl (by first | exact Nat.le_of_ble_eq_true rfl | simp) (by first | exact .inl ⟨rfl, rfl⟩ | exact .inr rfl))) (.inl (by simp)) ?_
    refine any_done rfl ?_
    first | exact hJ6 _ _ (TEnt.fin [0, 1, 4, 3] (by decide) (by simp) (heap4 (congrArg some (CB_ren _ _)) rfl (SBf_ren (c := c) (L := List.replicate m 0) (a := 3) (n := 0) (by decide)) rfl) ⟨rfl, rfl, rfl, trivial⟩) | exact hJ6 _ _ (TEnt.fin [0, 1, 3, 4] (by decide) (by simp) (heap4 (congrArg some (CB_ren _ _)) rfl (SBf_ren (c := c) (L := List.replicate m 0) (a := 4) (n := 0) (by decide)) rfl) ⟨rfl, rfl, rfl, trivial⟩) | exact hJ6 _ _ (TEnt.fin [0, 1, 2, 4] (by decide) (by simp) (heap4 (congrArg some (CB_ren _ _)) rfl (SBf_ren (c := c) (L := List.replicate m 0) (a := 4) (n := 0) (by decide)) rfl) ⟨rfl, rfl, rfl, trivial⟩)
   ·
    refine step_one rfl rfl rfl (OpOk.step (ok_alloc rfl ti_api_State rfl (by decide))) (.inr (by first | (simp [HeldL]; done) | (simp only [HeldL, List.map_cons, List.map_nil, List.cons_append, List.nil_append, List.set_cons_zero, List.set_cons_succ]; (repeat' first | trivial | rfl | constructor)))) ?_
    refine any_one 4 rfl (by first | rfl | decide +kernel) rfl rfl (OpOk.step (((ok_build rfl ti_api_State rfl).eq (x' := .agg (StS (newS c) (.fz 1 (ints .i64 (List.replicate m 0))) (.v (.slice none 0 0)))) rfl rfl).tent ((emptyAt11 0 14 6 (by decide) rfl rfl).trans (TEnt.to ⟨rfl, trivial⟩)))) (.inr (by first | (simp [HeldL]; done) | (simp only [HeldL, List.map_cons, List.map_nil, List.cons_append, List.nil_append, List.set_cons_zero, List.set_cons_succ]; (repeat' first | trivial | rfl | constructor)))) ?_
    refine any_one 6 rfl (by first | rfl | decide +kernel) rfl rfl (OpOk.step (ok_store rfl ti_api_State (by decide) rfl rfl rfl rfl rfl (by first | exact Nat.le_of_ble_eq_true rfl | simp) (by first | exact .inl ⟨rfl, rfl⟩ | exact .inr rfl))) (.inl (by simp)) ?_
    refine any_done rfl ?_
    first | exact hJ6 _ _ (TEnt.fin [0, 1, 4, 3] (by decide) (by simp) (heap4 (congrArg some (CB_ren _ _)) rfl (SBf_ren (c := c) (L := List.replicate m 0) (a := 3) (n := 0) (by decide)) rfl) ⟨rfl, rfl, rfl, trivial⟩) | exact hJ6 _ _ (TEnt.fin [0, 1, 3, 4] (by decide) (by simp) (heap4 (congrArg some (CB_ren _ _)) rfl (SBf_ren (c := c) (L := List.replicate m 0) (a := 4) (n := 0) (by decide)) rfl) ⟨rfl, rfl, rfl, trivial⟩) | exact hJ6 _ _ (TEnt.fin [0, 1, 2, 4] (by decide) (by simp) (heap4 (congrArg some (CB_ren _ _)) rfl (SBf_ren (c := c) (L := List.replicate m 0) (a := 4) (n := 0) (by decide)) rfl) ⟨rfl, rfl, rfl, trivial⟩)
  ·
   refine step_one rfl rfl rfl (OpOk.step (ok_alloc rfl ti_api_State rfl (by decide))) (.inr (by first | (simp [HeldL]; done) | (simp only [HeldL, List.map_cons, List.map_nil, List.cons_append, List.nil_append, List.set_cons_zero, List.set_cons_succ]; (repeat' first | trivial | rfl | constructor)))) ?_
   refine any_one 3 rfl (by first | rfl | decide +kernel) rfl rfl (OpOk.step (by exact mk_frz (m := m) (ok_makeSlice (n := (m : Int)) rfl ti_Lint rfl ti_int (by show AV.int c.mem = _; rw [hm]) (by show AV.int c.mem = _; rw [hm]) (by omega) (by omega) (by show (8 : Int) * m ≤ _; omega) rfl (by decide)))) (.inr (by first | (simp [HeldL]; done) | (simp only [HeldL, List.map_cons, List.map_nil, List.cons_append, List.nil_append, List.set_cons_zero, List.set_cons_succ]; (repeat' first | trivial | rfl | constructor)))) ?_
   refine any_one 4 rfl (by first | rfl | decide +kernel) rfl rfl (OpOk.step (((ok_build rfl ti_api_State rfl).eq (x' := .agg (StS (newS c) (.fz 1 (ints .i64 (List.replicate m 0))) (.v (.slice none 0 0)))) rfl rfl).tent ((emptyAt11 0 14 6 (by decide) rfl rfl).trans (TEnt.to ⟨rfl, trivial⟩)))) (.inr (by first | (simp [HeldL]; done) | (simp only [HeldL, List.map_cons, List.map_nil, List.cons_append, List.nil_append, List.set_cons_zero, List.set_cons_succ]; (repeat' first | trivial | rfl | constructor)))) ?_
   refine any_one 6 rfl (by first | rfl | decide +kernel) rfl rfl (OpOk.step (ok_store rfl ti_api_State (by decide) rfl rfl rfl rfl rfl (by first | exact Nat.le_of_ble_eq_true rfl | simp) (by first | exact .inl ⟨rfl, rfl⟩ | exact .inr rfl))) (.inl (by simp)) ?_
   refine any_done rfl ?_
   first | exact hJ6 _ _ (TEnt.fin [0, 1, 4, 3] (by decide) (by simp) (heap4 (congrArg some (CB_ren _ _)) rfl (SBf_ren (c := c) (L := List.replicate m 0) (a := 3) (n := 0) (by decide)) rfl) ⟨rfl, rfl, rfl, trivial⟩) | exact hJ6 _ _ (TEnt.fin [0, 1, 3, 4] (by decide) (by simp) (heap4 (congrArg some (CB_ren _ _)) rfl (SBf_ren (c := c) (L := List.replicate m 0) (a := 4) (n := 0) (by decide)) rfl) ⟨rfl, rfl, rfl, trivial⟩) | exact hJ6 _ _ (TEnt.fin [0, 1, 2, 4] (by decide) (by simp) (heap4 (congrArg some (CB_ren _ _)) rfl (SBf_ren (c := c) (L := List.replicate m 0) (a := 4) (n := 0) (by decide)) rfl) ⟨rfl, rfl, rfl, trivial⟩)
 refine T.seq fun K7 hK7 => ?_
 refine T.seq fun K8 hK8 => ?_
 refine T.region ?_ -- region 5
 refine ro rfl rfl (OpOk.step (ok_fieldAddr rfl ti_api_Conf rfl rfl ti_int (by decide) rfl)) ?_
 refine ro rfl rfl (OpOk.step (ok_load rfl ti_int rfl rfl)) ?_
 refine ro rfl rfl (OpOk.step (ok_move (.inl rfl))) ?_
 refine ro_nil ?_
 refine keepK hK8 [2, 5, 18, 19] (by dsimp) (by dsimp) ?_
 refine T.block ?_
 refine T.loopI (ι := Nat) (fun i => i ≤ n) (fun i => n - i) (fun i => ([(2, .ref 1 0 0), (5, .ref 2 0 0), (18, .int n), (19, .int i)], [some (CB c), some Z15, some (SBf c (List.replicate m 0) 3 i), some ⟨6, true, Zns (List.replicate i z0)⟩])) 0 (Nat.zero_le _) (TEnt.toH rfl ⟨rfl, rfl, by show AV.int c.zon = _; rw [hn], rfl, trivial⟩) (fun i hi => ?_) -- loop 1
 refine T.seq fun K9 hK9 => ?_
 refine T.region ?_ -- region 6
 refine ro rfl rfl (OpOk.step (ok_binOp rfl ti_int rfl)) ?_
 refine ro_nil ?_
 refine keepK hK9 [2, 5, 18, 19, 20] (by dsimp) (by dsimp) ?_
 refine T.seq fun K10 hK10 => ?_
 refine T.cond rfl (fun hc => ?_) (fun hc => ?_) -- cond 1
 ·(try simp only [dE] at hc)
  refine T.skip ?_
  refine keepK hK10 [2, 5, 18, 19] (by dsimp) (by dsimp) ?_
  refine T.seq fun K11 hK11 => ?_
  refine T.block ?_
  refine T.region ?_ -- region 7
  refine ro rfl rfl (OpOk.step (ok_fieldAddr rfl ti_api_State rfl rfl ti_Lapi_Zone (by decide) rfl)) ?_
  refine ro rfl rfl (OpOk.step (ok_load rfl ti_Lapi_Zone rfl rfl)) ?_
  refine ro rfl rfl (OpOk.step (((ok_build rfl ti_api_Zone rfl).eq (x' := .agg (ZnS z0 (.v (.slice none 0 0)))) rfl rfl).tent ((TEnt.put1 0 (x' := .agg (ZnC z0)) (Ent.agg (EntL.cons (Ent.refl _) (EntL.cons (Ent.refl _) (EntL.cons (Ent.refl _) (EntL.cons (Ent.refl _) (EntL.cons (Ent.refl _) (EntL.cons (Ent.nil 2) EntL.nil)))))))).trans (TEnt.to ⟨rfl, trivial⟩)))) ?_
  refine ro rfl rfl (OpOk.step (ok_buildSlice (n := 1) (ps := #[(0, .tmp 23)]) rfl ti_Lapi_Zone rfl ti_api_Zone (by decide) rfl rfl (by decide) rfl rfl rfl)) ?_
  refine ro rfl rfl (OpOk.step (by exact ok_append_map (fun z => .agg (ZnC z)) (xs := List.replicate i z0) (ys := [z0]) rfl ti_Lapi_Zone rfl ti_api_Zone (by decide) (by decide) rfl ti_Lapi_Zone (by simp) rfl rfl rfl rfl rfl rfl rfl rfl (by simp) (by simp; omega))) ?_
  refine ro rfl rfl (OpOk.step (ok_fieldAddr rfl ti_api_State rfl rfl ti_Lapi_Zone (by decide) rfl)) ?_
  refine ro rfl rfl (OpOk.step (ok_store rfl ti_Lapi_Zone (by decide) rfl rfl rfl rfl rfl (by first | exact Nat.le_of_ble_eq_true rfl | simp) (by first | exact .inl ⟨rfl, rfl⟩ | exact .inr rfl))) ?_
  refine ro_nil ?_
  refine keepK hK11 [2, 5, 18, 19] (by dsimp) (by dsimp) ?_
  refine T.region ?_ -- region 8
  refine ro rfl rfl (OpOk.step (ok_add64 rfl ti_int rfl rfl (by omega) (by omega))) ?_
  refine ro rfl rfl (OpOk.step (ok_move (.inl rfl))) ?_
  refine ro_nil ?_
  exact ⟨i + 1, by omega, by omega, TEnt.fin [0, 1, 2, 5] (by decide) (by simp) (heap4 (congrArg some (CB_ren _ _)) rfl (by show some (Blk.ren _ (SBf c (List.replicate m 0) 5 ((List.replicate i z0 ++ [z0]).length))) = _; rw [show (List.replicate i z0 ++ [z0]).length = i + 1 by simp]; exact SBf_ren (by decide)) (by show some (Blk.ren _ ⟨6, true, Zns (List.replicate i z0 ++ [z0])⟩) = _; rw [← List.replicate_succ']; exact znb_ren _ _)) ⟨rfl, rfl, rfl, rfl, trivial⟩⟩
 ·(try simp only [dE] at hc)
  have hin : i = n := by omega
  subst hin
  refine T.exit ?_
  refine keepK hK7 [2, 5] (by dsimp) (by dsimp) ?_
  refine T.seq fun K12 hK12 => ?_
  refine T.region ?_ -- region 9
  refine ro rfl rfl (OpOk.step (ok_load rfl ti_api_State rfl rfl)) ?_
  refine ro rfl rfl (OpOk.step (ok_store rfl ti_api_State (by decide) rfl rfl rfl rfl rfl (by first | exact Nat.le_of_ble_eq_true rfl | simp) (by first | exact .inl ⟨rfl, rfl⟩ | exact .inr rfl))) ?_
  refine ro rfl rfl (OpOk.step (ok_move (.inr rfl))) ?_
  refine ro_nil ?_
  refine keepK hK12 [2, 3] (by dsimp) (by dsimp) ?_
  refine T.ret (hQ _ _ _ rfl ?_).1 -- ret 1
  exact (TEnt.freeze 3 (b := ⟨6, true, Zns (List.replicate i z0)⟩) rfl).trans ((TEnt.put1 0 (x' := .tup [.agg (StC (newS c)), .int 0]) (by
    show Ent _ (.tup [.agg (StS (newS c) (.fz 1 (ints .i64 (List.replicate m 0))) (.sl 3 0 i)), .int 0]) _
    rw [show StC (newS c) = StS (newS c) (.fz 1 (ints .i64 (newS c).st)) (.fz 6 (Zns (newS c).zs)) from rfl, hst, hzs]
    exact Ent.tup (EntL.cons (Ent.sts _ (Ent.refl _) (Ent.sl0 (b := ⟨6, false, Zns (List.replicate i z0)⟩) rfl rfl (by simp))) (EntL.refl _)))).trans (TEnt.fin [] (by decide) (by simp) rfl ⟨by simp [AV.ren, renL, StC_ren], trivial⟩))
theorem code11_ok (e : Int) : CSpec Try.prog 30 [] [.int e] [] (.int e) := by
 refine CSpec.body Try.func30 rfl rfl rfl rfl rfl fun Q hQ => ?_
 refine T.seq fun K1 hK1 => ?_
 refine T.region ?_ -- region 0
 refine ro rfl rfl (OpOk.step (ok_move (.inr rfl))) ?_
 refine ro_nil ?_
 refine keepK hK1 [0] (by dsimp) (by dsimp) ?_
 refine T.seq fun K2 hK2 => ?_
 refine T.region ?_ -- region 1
 refine ro rfl rfl (OpOk.step (ok_move (.inl rfl))) ?_
 refine ro rfl rfl (OpOk.step (ok_move (.inr rfl))) ?_
 refine ro_nil ?_
 refine keepK hK2 [2] (by dsimp) (by dsimp) ?_
 refine T.ret (hQ _ _ _ rfl ?_).1 -- ret 1
 exact TEnt.fin [] (by decide) (by simp) rfl ⟨rfl, trivial⟩
def cf7 : Cf := ⟨7, 4, 2, 64, 24, 3, 1, 3, 2, 3, 7⟩
theorem cf7_ok : chkC cf7 = 0 := by decide +kernel
theorem free7 : (freeZ cf7 (newS cf7).zs).length = 4 := by decide +kernel
theorem rs7 : RS (newS cf7) := by decide +kernel
theorem live11_ok : CSpec Try.prog 26 [] [] [] (.b true) := by
 refine CSpec.body Try.func26 rfl rfl rfl rfl rfl fun Q hQ => ?_
 refine T.seq fun K1 hK1 => ?_
 refine T.region ?_ -- region 0
 refine ro rfl rfl (OpOk.step (ok_moveb (c := false) (.inr rfl) rfl)) ?_
 refine ro_nil ?_
 refine keepK hK1 [] (by dsimp) (by dsimp) ?_
 refine T.seq fun K2 hK2 => ?_
 refine T.region ?_ -- region 1
 refine ro rfl rfl (ok_call rfl rfl rfl (plain_ok.plain rfl (by simp [AV.ren]; exact CC_ren _ cf7))) ?_
 refine ro rfl rfl (ok_call rfl rfl rfl ((snew_ok cf7 cf7_ok).plain (by simp [renL, AV.ren]; exact CC_ren _ cf7) (by simp [AV.ren, renL, StC_ren]))) ?_
 refine ro rfl rfl (OpOk.step (ok_move (.inl rfl))) ?_
 refine ro rfl rfl (OpOk.step (ok_extract rfl rfl rfl)) ?_
 refine ro rfl rfl (OpOk.step (ok_extract rfl rfl rfl)) ?_
 refine ro rfl rfl (OpOk.step (ok_alloc rfl ti_api_State rfl (by decide))) ?_
 refine ro rfl rfl (OpOk.step (ok_store rfl ti_api_State (by decide) rfl rfl rfl rfl rfl (by first | exact Nat.le_of_ble_eq_true rfl | simp) (by first | exact .inl ⟨rfl, rfl⟩ | exact .inr rfl))) ?_
 refine ro rfl rfl (OpOk.step (ok_move (.inr rfl))) ?_
 refine ro_nil ?_
 refine keepK hK2 [1, 2] (by dsimp) (by dsimp) ?_
 refine T.seq fun K3 hK3 => ?_
 refine T.region ?_ -- region 2
 refine ro rfl rfl (OpOk.step (ok_move (.inl rfl))) ?_
 refine ro rfl rfl (ok_call rfl rfl rfl ((code11_ok 0).plain rfl rfl)) ?_
 refine ro rfl rfl (OpOk.step (ok_binOp rfl ti_int rfl)) ?_
 refine ro rfl rfl (OpOk.step (OpOk.bool (d := true) (ok_moveb (.inl rfl) rfl) (rfl))) ?_
 refine ro rfl rfl (OpOk.step (ok_load rfl ti_api_State rfl rfl)) ?_
 refine ro rfl rfl (ok_call rfl rfl rfl ((free_frz (newS cf7) (by decide)).plain (by simp [renL, AV.ren, StC_take, StC_ren]) (by simp [AV.ren, renL_ints]))) ?_
 refine ro rfl rfl (OpOk.step (ok_len' rfl rfl ti_Lint rfl (by first | exact ints_length _ _ | exact rowsA_length _ _ | exact Cms_len _ | exact mapLen _ | rfl))) ?_
 refine ro rfl rfl (OpOk.step ((ok_binOp rfl ti_int rfl).eq (x' := .b true) (by have h : (freeZ (newS cf7).c (newS cf7).zs).length = 4 := free7; simp; omega) rfl)) ?_
 refine ro rfl rfl (OpOk.step (ok_pick rfl rfl)) ?_
 refine ro rfl rfl (OpOk.step (OpOk.bool (d := true) (ok_moveb (.inl rfl) rfl) (rfl))) ?_
 refine ro rfl rfl (OpOk.step (ok_load rfl ti_api_State rfl rfl)) ?_
 refine ro rfl rfl (ok_call rfl rfl rfl ((sright_ok (newS cf7) (by decide) (by decide) (fun z hz => by have : z = z0 := List.eq_of_mem_replicate hz; subst this; decide)).plain (by simp [renL, AV.ren, StC_take, StC_ren]) rfl)) ?_
 refine ro rfl rfl (OpOk.step (ok_pick rfl rfl)) ?_
 refine ro rfl rfl (OpOk.step (ok_move (.inr rfl))) ?_
 refine ro_nil ?_
 refine keepK hK3 [0] (by dsimp) (by dsimp) ?_
 refine T.ret (hQ _ _ _ rfl ?_).1 -- ret 1
 exact (by rw [show (true : Bool) = decide (RS (newS cf7)) from (decide_eq_true rs7).symm]; exact TEnt.fin [] (by decide) (by simp) rfl ⟨rfl, trivial⟩)
end Go.Proofs.Ytlegolcbjjjofaa.AmF
