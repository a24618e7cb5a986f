/- Walks over the abstract machine: states of the log: the document's step. -/
import Derived.Test.YtlegolcbjjjofaaAfState12
namespace Go.Proofs.Ytlegolcbjjjofaa.AmF
open Go Go.AM
set_option maxRecDepth 100000
set_option maxHeartbeats 4000000
set_option linter.unusedSimpArgs false
set_option linter.unusedVariables false
attribute [local simp] tkeep tget tput ev cav argsTM pickA normT putA splice AV.cells ints_length rowsA_length Prs_len Zns_len
/-- The zone that the document's step tells, good or not. -/
def rz (rb : Bool) (z : Zn) (x : Rc) : Zn :=
  if x.kind = 1 then { z with slot := x.slot, whole := rb }
  else if x.kind = 2 then ⟨x.gen, -1, false, 0, false, []⟩
  else if x.kind = 3 then { z with full := true, w := x.w }
  else if x.kind = 4 then { z with pars := last2 (z.pars ++ [⟨x.w, x.body⟩]) }
  else if x.kind = 5 then { z with whole := true }
  else z
section
variable {c : Cf} {zs : List Zn} {rb : Bool} {z : Zn} {x : Rc}
theorem rz_1 (h : x.kind = 1) : rz rb z x = { z with slot := x.slot, whole := rb } := if_pos h
theorem rz_2 (h : x.kind = 2) : rz rb z x = ⟨x.gen, -1, false, 0, false, []⟩ := by unfold rz; rw [if_neg (by omega), if_pos h]
theorem rz_3 (h : x.kind = 3) : rz rb z x = { z with full := true, w := x.w } := by unfold rz; rw [if_neg (by omega), if_neg (by omega), if_pos h]
theorem rz_4 (h : x.kind = 4) : rz rb z x = { z with pars := last2 (z.pars ++ [⟨x.w, x.body⟩]) } := by unfold rz; rw [if_neg (by omega), if_neg (by omega), if_neg (by omega), if_pos h]
theorem rz_5 (h : x.kind = 5) : rz rb z x = { z with whole := true } := by unfold rz; rw [if_neg (by omega), if_neg (by omega), if_neg (by omega), if_neg (by omega), if_pos h]
theorem rz_no (h : ¬ x.kind = 1) (h2 : ¬ x.kind = 2) (h3 : ¬ x.kind = 3) (h4 : ¬ x.kind = 4) (h5 : ¬ x.kind = 5) : rz rb z x = z := by unfold rz; rw [if_neg h, if_neg h2, if_neg h3, if_neg h4, if_neg h5]
theorem isS {p : Prop} [Decidable p] {a : Zn} : (if p then some a else none).isSome = decide p := by by_cases h : p <;> simp [h]
theorem ok_1 (h : x.kind = 1) : (stepZ c zs rb z x).isSome = decide (Z1 c zs z x) := by rw [stepZ_1 h, isS]
theorem ok_2 (h : x.kind = 2) : (stepZ c zs rb z x).isSome = decide (Z2 z x) := by rw [stepZ_2 h, isS]
theorem ok_3 (h : x.kind = 3) : (stepZ c zs rb z x).isSome = decide (Z3 c z x) := by rw [stepZ_3 h, isS]
theorem ok_4 (h : x.kind = 4) : (stepZ c zs rb z x).isSome = decide (Z4 c z x) := by rw [stepZ_4 h, isS]
theorem ok_5 (h : x.kind = 5) : (stepZ c zs rb z x).isSome = decide (Z5 rb z) := by rw [stepZ_5 h, isS]
theorem stepZ_rz : stepZ c zs rb z x = if (stepZ c zs rb z x).isSome then some (rz rb z x) else none := by
  unfold stepZ rz
  repeat' split
  all_goals simp_all
theorem Z1_iff : Z1 c zs z x ↔ z.slot = -1 ∧ z.full = false ∧ z.gen = x.gen ∧ 0 ≤ x.slot ∧ x.slot < slotsC c ∧ hasZ zs x.slot = false := by
  unfold Z1
  rw [freeZ_mem]
  exact ⟨fun ⟨a, b, c, ⟨d, e⟩, f⟩ => ⟨a, b, c, d, e, f⟩, fun ⟨a, b, c, d, e, f⟩ => ⟨a, b, c, ⟨d, e⟩, f⟩⟩
end
theorem wrap_sub1 {g v : Int} (h : -9223372036854775808 ≤ g) (h' : g ≤ 9223372036854775807) (hv : 0 ≤ v ∧ v ≤ 1099511627776) : IntKind.i64.wrap (g - 1) = v ↔ g = v + 1 := by
  by_cases hg : g = -9223372036854775808
  · subst hg
    rw [show IntKind.i64.wrap (-9223372036854775808 - 1) = 9223372036854775807 by decide]
    omega
  · rw [wrap_i64 (by omega) (by omega)]; omega
theorem Prs_take (l : List Pr) (n : Nat) : (Prs l).take n = Prs (l.take n) := by simp [Prs, List.map_take]
theorem Prs_drop (l : List Pr) (n : Nat) : (Prs l).drop n = Prs (l.drop n) := by simp [Prs, List.map_drop]
theorem last2_le {l : List Pr} (h : l.length ≤ 2) : (l.drop 0).take l.length = last2 l := by
  unfold last2
  rw [show l.length - 2 = 0 by omega, List.drop_zero, List.take_length]
theorem last2_3 {l : List Pr} (h : l.length = 3) : (l.drop 1).take (l.length - 1) = last2 l := by
  unfold last2
  rw [List.take_of_length_le (by simp), show l.length - 2 = 1 by omega]
def Z6 : Blk := ⟨6, true, [.agg (List.map .v [.int .i64 0, .int .i64 0, .bool false, .int .i64 0, .bool false, .slice none 0 0])]⟩
theorem zret {k : Nat} {tm : TM} {H : Heap} {z : Zn} {v : Bool} (hk : k = 0) (h : tget tm 0 = .tup [.agg (ZnC z), .b v]) : TEnt k tm H [(0, .tup [.agg (ZnC z), .b v])] [] := by
  subst hk
  exact TEnt.fin [] (by decide) (by simp) rfl ⟨by rw [tget_normT, h]; simp [AV.ren, renL, ZnC_ren], trivial⟩
theorem zret_nil {k : Nat} {tm : TM} {H : Heap} {z : Zn} {v : Bool} (hk : k = 0) (h : tget tm 0 = .tup [.agg (ZnS z (.v (.slice none 0 0))), .b v]) (hp : z.pars = []) : TEnt k tm H [(0, .tup [.agg (ZnC z), .b v])] [] := by
  refine (TEnt.put1 0 (x' := .tup [.agg (ZnC z), .b v]) ?_).trans (zret hk rfl)
  rw [h]
  refine Ent.tup (EntL.cons (Ent.agg (EntL.cons (Ent.refl _) (EntL.cons (Ent.refl _) (EntL.cons (Ent.refl _) (EntL.cons (Ent.refl _) (EntL.cons (Ent.refl _) (EntL.cons ?_ EntL.nil))))))) (EntL.refl _))
  rw [hp]
  exact Ent.nil 2
theorem zret_sl {k : Nat} {tm : TM} {H : Heap} {z : Zn} {v : Bool} {p off len : Nat} {l : List Pr} (hk : k = 0) (h : tget tm 0 = .tup [.agg (ZnS z (.sl p off len)), .b v]) (hp : hget H p = some ⟨2, true, Prs l⟩) (hb : off + len ≤ l.length) (hl : (l.drop off).take len = z.pars) : TEnt k tm H [(0, .tup [.agg (ZnC z), .b v])] [] := by
  have hpl := hget_lt hp
  refine (TEnt.freeze p hp).trans ((TEnt.put1 0 (x' := .tup [.agg (ZnC z), .b v]) ?_).trans (zret hk rfl))
  rw [h]
  refine Ent.tup (EntL.cons (Ent.agg (EntL.cons (Ent.refl _) (EntL.cons (Ent.refl _) (EntL.cons (Ent.refl _) (EntL.cons (Ent.refl _) (EntL.cons (Ent.refl _) (EntL.cons ?_ EntL.nil))))))) (EntL.refl _))
  have h1 := Ent.sl (H := H.set p (some ⟨2, false, Prs l⟩)) (id := p) (off := off) (len := len) (b := ⟨2, false, Prs l⟩) (by rw [hget_set, if_pos ⟨rfl, hpl⟩]) rfl (by simpa using hb)
  rw [show (((⟨2, false, Prs l⟩ : Blk).els.drop off).take len) = Prs z.pars by show ((Prs l).drop off).take len = _; rw [Prs_drop, Prs_take, hl]] at h1
  exact h1
theorem rstep_ok (s : St) (x : Rc) (z : Zn) (hz : s.zs[x.zone.toNat]? = some z) (hx0 : 0 ≤ x.zone ∧ x.zone < s.zs.length) (hck : chkC s.c = 0) (hrz : RZ s.c (decide (2 ∈ s.st)) z) (hxg : -9223372036854775808 ≤ x.gen ∧ x.gen ≤ 9223372036854775807) (hn : s.st.length ≤ 1000000) (hm : s.zs.length ≤ 1000000) (hb : x.body.length ≤ 1000000) : CSpec Try.prog 65 [] [.agg (StC s), .agg (RcC x)] [] (.tup [.agg (ZnC (rz (decide (2 ∈ s.st)) z x)), .b (stepZ s.c s.zs (decide (2 ∈ s.st)) z x).isSome]) := by
 have hk := chkC_ok hck
 have hmu := mul_bd (a := s.c.unit) (b := s.c.blk) (A := 64) (B := 4096) (by have := hk.2.2.1; omega) (by have := hk.2.2.1; omega) (by have := hk.2.2.2.1; omega) (by have := hk.2.2.2.1; omega)
 have hpl := hrz.2.2.2.2.2.1
 refine CSpec.body Try.func65 rfl rfl rfl rfl rfl fun Q hQ => ?_
 refine T.seq fun K1 hK1 => ?_
 refine T.region ?_ -- region 0
 refine ro rfl rfl (OpOk.step (ok_box (n := 15) rfl rfl (by decide))) ?_
 refine ro rfl rfl (OpOk.step (ok_box (n := 10) rfl rfl (by decide))) ?_
 refine ro rfl rfl (OpOk.step (ok_alloc rfl ti_api_Zone rfl (by decide))) ?_
 refine ro rfl rfl (OpOk.step (ok_moveb (c := false) (.inr rfl) rfl)) ?_
 refine ro_nil ?_
 refine keepK hK1 [2, 3, 4] (by dsimp) (by dsimp) ?_
 refine T.seq fun K2 hK2 => ?_
 refine T.region ?_ -- region 1
 refine ro rfl rfl (OpOk.step (ok_fieldAddr rfl ti_api_State rfl rfl ti_Lapi_Zone (by decide) rfl)) ?_
 refine ro rfl rfl (OpOk.step (ok_load rfl ti_Lapi_Zone rfl rfl)) ?_
 refine ro rfl rfl (OpOk.step (ok_fieldAddr rfl ti_api_Rec rfl rfl ti_int (by decide) rfl)) ?_
 refine ro rfl rfl (OpOk.step (ok_load rfl ti_int rfl rfl)) ?_
 refine ro rfl rfl (OpOk.step (by exact ok_index_map (F := ZnC) rfl ti_Lapi_Zone rfl ti_api_Zone rfl rfl (show x.zone = (x.zone.toNat : Int) by omega) hz (by simp [ZnC]))) ?_
 refine ro rfl rfl (OpOk.step (ok_load rfl ti_api_Zone rfl rfl)) ?_
 refine ro rfl rfl (OpOk.step (ok_alloc rfl ti_api_Zone rfl (by decide))) ?_
 refine ro rfl rfl (OpOk.step (ok_store rfl ti_api_Zone (by decide) rfl rfl rfl rfl rfl (by first | exact Nat.le_of_ble_eq_true rfl | simp) (by first | exact .inl ⟨rfl, rfl⟩ | exact .inr rfl))) ?_
 refine ro_nil ?_
 refine keepK hK2 [2, 3, 4, 6] (by dsimp) (by dsimp) ?_
 refine T.seq fun K3 hK3 => ?_
 refine T.drawH mixed [] ?_ -- region 2
 refine any_take 0 rfl (by first | rfl | decide +kernel) rfl (HeldL.refl _) (fun H' hH => OpOk.step (ok_fieldAddr rfl ti_api_State rfl rfl ti_api_Conf (by decide) rfl)) ?_
 refine any_take 1 rfl (by first | rfl | decide +kernel) rfl (HeldL.refl _) (fun H' hH => OpOk.step (ok_load rfl ti_api_Conf (locA_held hH rfl) rfl)) ?_
 refine any_take 3 rfl (by first | rfl | decide +kernel) rfl (HeldL.refl _) (fun H' hH => OpOk.step (ok_fieldAddr rfl ti_api_State rfl rfl ti_api_Conf (by decide) rfl)) ?_
 refine any_take 4 rfl (by first | rfl | decide +kernel) rfl (HeldL.refl _) (fun H' hH => OpOk.step (ok_load rfl ti_api_Conf (locA_held hH rfl) rfl)) ?_
 refine any_one 2 rfl (by first | rfl | decide +kernel) rfl rfl (ok_call rfl rfl rfl ((rsize_ok s.c).plain (by show renL _ [.agg (CC s.c)] = _; simp [renL, AV.ren, CC_ren]) rfl)) (.inr (by first | (simp [HeldL]; done) | (simp only [HeldL, List.map_cons, List.map_nil, List.cons_append, List.nil_append, List.set_cons_zero, List.set_cons_succ]; (repeat' first | trivial | rfl | constructor)))) ?_
 refine any_one 5 rfl (by first | rfl | decide +kernel) rfl rfl (ok_call rfl rfl rfl ((nums_ok s.c).plain (by show renL _ [.agg (CC s.c)] = _; simp [renL, AV.ren, CC_ren]) (by simp [AV.ren, renL_ints]))) (.inr (by first | (simp [HeldL]; done) | (simp only [HeldL, List.map_cons, List.map_nil, List.cons_append, List.nil_append, List.set_cons_zero, List.set_cons_succ]; (repeat' first | trivial | rfl | constructor)))) ?_
 refine any_take 6 rfl (by first | rfl | decide +kernel) rfl (by first | exact HeldL.refl _ | exact HeldL.append _ _ | simp [HeldL]) (fun H' hH => OpOk.step (ok_index rfl ti_A7int rfl ti_int rfl rfl (by omega) (by omega) rfl)) ?_
 refine any_take 7 rfl (by first | rfl | decide +kernel) rfl (by first | exact HeldL.refl _ | exact HeldL.append _ _ | simp [HeldL]) (fun H' hH => OpOk.step (ok_move (.inr rfl))) ?_
 refine any_take 8 rfl (by first | rfl | decide +kernel) rfl (by first | exact HeldL.refl _ | exact HeldL.append _ _ | simp [HeldL]) (fun H' hH => OpOk.step (ok_move (.inr rfl))) ?_
 refine any_done rfl ?_
 refine keepK hK3 [2, 3, 4, 6, 7, 8] (by dsimp) (by dsimp) ?_
 refine T.seq fun K4 hK4 => ?_
 refine T.seq fun K5 hK5 => ?_
 refine T.region ?_ -- region 3
 refine ro rfl rfl (OpOk.step (ok_fieldAddr rfl ti_api_Rec rfl rfl ti_int (by decide) rfl)) ?_
 refine ro rfl rfl (OpOk.step (ok_load rfl ti_int rfl rfl)) ?_
 refine ro_nil ?_
 refine keepK hK5 [2, 3, 4, 6, 7, 8, 27] (by dsimp) (by dsimp) ?_
 refine T.block ?_
 refine T.seq fun K6 hK6 => ?_
 refine T.region ?_ -- region 4
 refine ro rfl rfl (OpOk.step (ok_binOp rfl ti_int rfl)) ?_
 refine ro rfl rfl (OpOk.step (ok_move (.inr rfl))) ?_
 refine ro_nil ?_
 refine keepK hK6 [2, 3, 4, 6, 7, 8, 27, 28] (by dsimp) (by dsimp) ?_
 refine T.cond rfl (fun hc => ?_) (fun hc => ?_) -- cond 1
 ·(try simp only [dE] at hc)
  refine T.seq fun K7 hK7 => ?_
  refine T.join hK7 [(2, .ref 0 0 0), (3, .ref 1 0 0), (4, .ref 2 0 0), (6, .ref 3 0 0), (9, .b (decide (Z1 s.c s.zs z x)))] [some (StB s), some (RcB x), some Z6, some (ZnB z)] (fun hJ8 => ?_) ?_
  ·
   refine T.region ?_ -- region 5
   refine ro rfl rfl (OpOk.step (ok_fieldAddr rfl ti_api_Zone rfl rfl ti_int (by decide) rfl)) ?_
   refine ro rfl rfl (OpOk.step (ok_load rfl ti_int rfl rfl)) ?_
   refine ro rfl rfl (OpOk.step (ok_binOp rfl ti_int rfl)) ?_
   refine ro_case rfl rfl (OpOk.step (ok_moveb (.inl rfl) rfl)) (fun hb => ?_) (fun hb => ?_)
   ·(try simp only [dE] at hb)
    refine ro rfl rfl (OpOk.step (ok_fieldAddr rfl ti_api_Zone rfl rfl ti_bool (by decide) rfl)) ?_
    refine ro rfl rfl (OpOk.step (ok_load rfl ti_bool rfl rfl)) ?_
    refine ro rfl rfl (OpOk.step (ok_unOp rfl rfl)) ?_
    refine ro rfl rfl (OpOk.step (ok_pick rfl rfl)) ?_
    refine ro_case rfl rfl (OpOk.step (ok_moveb (.inl rfl) rfl)) (fun hb => ?_) (fun hb => ?_)
    ·(try simp only [dE] at hb)
     refine ro rfl rfl (OpOk.step (ok_fieldAddr rfl ti_api_Zone rfl rfl ti_int (by decide) rfl)) ?_
     refine ro rfl rfl (OpOk.step (ok_load rfl ti_int rfl rfl)) ?_
     refine ro rfl rfl (OpOk.step (ok_fieldAddr rfl ti_api_Rec rfl rfl ti_int (by decide) rfl)) ?_
     refine ro rfl rfl (OpOk.step (ok_load rfl ti_int rfl rfl)) ?_
     refine ro rfl rfl (OpOk.step (ok_binOp rfl ti_int rfl)) ?_
     refine ro rfl rfl (OpOk.step (ok_pick rfl rfl)) ?_
     refine ro_case rfl rfl (OpOk.step (ok_moveb (.inl rfl) rfl)) (fun hb => ?_) (fun hb => ?_)
     ·(try simp only [dE] at hb)
      refine ro rfl rfl (OpOk.step (ok_fieldAddr rfl ti_api_Rec rfl rfl ti_int (by decide) rfl)) ?_
      refine ro rfl rfl (OpOk.step (ok_load rfl ti_int rfl rfl)) ?_
      refine ro rfl rfl (OpOk.step (ok_binOp rfl ti_int rfl)) ?_
      refine ro rfl rfl (OpOk.step (ok_pick rfl rfl)) ?_
      refine ro_case rfl rfl (OpOk.step (ok_moveb (.inl rfl) rfl)) (fun hb => ?_) (fun hb => ?_)
      ·(try simp only [dE] at hb)
       refine ro rfl rfl (OpOk.step (ok_fieldAddr rfl ti_api_Rec rfl rfl ti_int (by decide) rfl)) ?_
       refine ro rfl rfl (OpOk.step (ok_load rfl ti_int rfl rfl)) ?_
       refine ro rfl rfl (OpOk.step (ok_move (.inl rfl))) ?_
       refine ro rfl rfl (OpOk.step (ok_binOp rfl ti_int rfl)) ?_
       refine ro rfl rfl (OpOk.step (ok_pick rfl rfl)) ?_
       refine ro_case rfl rfl (OpOk.step (ok_moveb (.inl rfl) rfl)) (fun hb => ?_) (fun hb => ?_)
       ·(try simp only [dE] at hb)
        refine ro rfl rfl (OpOk.step (ok_load rfl ti_api_State rfl rfl)) ?_
        refine ro rfl rfl (OpOk.step (ok_fieldAddr rfl ti_api_Rec rfl rfl ti_int (by decide) rfl)) ?_
        refine ro rfl rfl (OpOk.step (ok_load rfl ti_int rfl rfl)) ?_
        refine ro rfl rfl (ok_call rfl rfl rfl ((rhas_ok s x.slot (by omega)).plain (by simp [renL, AV.ren, StC_take, StC_ren]) rfl)) ?_
        refine ro rfl rfl (OpOk.step (ok_unOp rfl rfl)) ?_
        refine ro rfl rfl (OpOk.step (ok_pick rfl rfl)) ?_
        refine ro rfl rfl (OpOk.step (ok_move (.inr rfl))) ?_
        refine ro_nil ?_
        exact hJ8 _ _ (TEnt.toH rfl ⟨rfl, rfl, rfl, rfl, by first | exact congrArg AV.b (decide_eq_false (show ¬ Z1 s.c s.zs z x by rw [Z1_iff]; rintro ⟨h1, h2, h3, h4, h5, h6⟩; first | omega | (simp_all; done))).symm | exact congrArg AV.b (show (!hasZ s.zs x.slot) = decide (Z1 s.c s.zs z x) by rw [Bool.eq_iff_iff, decide_eq_true_iff, Z1_iff]; simp_all), trivial⟩)
       ·(try simp only [dE] at hb)
        refine ro_skip rfl rfl ?_
        refine ro_skip rfl rfl ?_
        refine ro_skip rfl rfl ?_
        refine ro_skip rfl rfl ?_
        refine ro_skip rfl rfl ?_
        refine ro rfl rfl (OpOk.step (ok_pickb (t := false) (d := false) rfl rfl rfl)) ?_
        refine ro rfl rfl (OpOk.step (ok_moveb (c := false) (.inr rfl) rfl)) ?_
        refine ro_nil ?_
        exact hJ8 _ _ (TEnt.toH rfl ⟨rfl, rfl, rfl, rfl, by first | exact congrArg AV.b (decide_eq_false (show ¬ Z1 s.c s.zs z x by rw [Z1_iff]; rintro ⟨h1, h2, h3, h4, h5, h6⟩; first | omega | (simp_all; done))).symm | exact congrArg AV.b (show (!hasZ s.zs x.slot) = decide (Z1 s.c s.zs z x) by rw [Bool.eq_iff_iff, decide_eq_true_iff, Z1_iff]; simp_all), trivial⟩)
      ·(try simp only [dE] at hb)
       refine ro_skip rfl rfl ?_
       refine ro_skip rfl rfl ?_
       refine ro_skip rfl rfl ?_
       refine ro_skip rfl rfl ?_
       refine ro rfl rfl (OpOk.step (ok_pickb (t := false) (d := false) rfl rfl rfl)) ?_
       refine ro rfl rfl (OpOk.step (ok_moveb (c := false) (.inl rfl) rfl)) ?_
       refine ro_skip rfl rfl ?_
       refine ro_skip rfl rfl ?_
       refine ro_skip rfl rfl ?_
       refine ro_skip rfl rfl ?_
       refine ro_skip rfl rfl ?_
       refine ro rfl rfl (OpOk.step (ok_pickb (t := false) (d := false) rfl rfl rfl)) ?_
       refine ro rfl rfl (OpOk.step (ok_moveb (c := false) (.inr rfl) rfl)) ?_
       refine ro_nil ?_
       exact hJ8 _ _ (TEnt.toH rfl ⟨rfl, rfl, rfl, rfl, by first | exact congrArg AV.b (decide_eq_false (show ¬ Z1 s.c s.zs z x by rw [Z1_iff]; rintro ⟨h1, h2, h3, h4, h5, h6⟩; first | omega | (simp_all; done))).symm | exact congrArg AV.b (show (!hasZ s.zs x.slot) = decide (Z1 s.c s.zs z x) by rw [Bool.eq_iff_iff, decide_eq_true_iff, Z1_iff]; simp_all), trivial⟩)
     ·(try simp only [dE] at hb)
      refine ro_skip rfl rfl ?_
      refine ro_skip rfl rfl ?_
      refine ro_skip rfl rfl ?_
      refine ro rfl rfl (OpOk.step (ok_pickb (t := false) (d := false) rfl rfl rfl)) ?_
      refine ro rfl rfl (OpOk.step (ok_moveb (c := false) (.inl rfl) rfl)) ?_
      refine ro_skip rfl rfl ?_
      refine ro_skip rfl rfl ?_
      refine ro_skip rfl rfl ?_
      refine ro_skip rfl rfl ?_
      refine ro rfl rfl (OpOk.step (ok_pickb (t := false) (d := false) rfl rfl rfl)) ?_
      refine ro rfl rfl (OpOk.step (ok_moveb (c := false) (.inl rfl) rfl)) ?_
      refine ro_skip rfl rfl ?_
      refine ro_skip rfl rfl ?_
      refine ro_skip rfl rfl ?_
      refine ro_skip rfl rfl ?_
      refine ro_skip rfl rfl ?_
      refine ro rfl rfl (OpOk.step (ok_pickb (t := false) (d := false) rfl rfl rfl)) ?_
      refine ro rfl rfl (OpOk.step (ok_moveb (c := false) (.inr rfl) rfl)) ?_
      refine ro_nil ?_
      exact hJ8 _ _ (TEnt.toH rfl ⟨rfl, rfl, rfl, rfl, by first | exact congrArg AV.b (decide_eq_false (show ¬ Z1 s.c s.zs z x by rw [Z1_iff]; rintro ⟨h1, h2, h3, h4, h5, h6⟩; first | omega | (simp_all; done))).symm | exact congrArg AV.b (show (!hasZ s.zs x.slot) = decide (Z1 s.c s.zs z x) by rw [Bool.eq_iff_iff, decide_eq_true_iff, Z1_iff]; simp_all), trivial⟩)
    ·(try simp only [dE] at hb)
     refine ro_skip rfl rfl ?_
     refine ro_skip rfl rfl ?_
     refine ro_skip rfl rfl ?_
     refine ro_skip rfl rfl ?_
     refine ro_skip rfl rfl ?_
     refine ro rfl rfl (OpOk.step (ok_pickb (t := false) (d := false) rfl rfl rfl)) ?_
     refine ro rfl rfl (OpOk.step (ok_moveb (c := false) (.inl rfl) rfl)) ?_
     refine ro_skip rfl rfl ?_
     refine ro_skip rfl rfl ?_
     refine ro_skip rfl rfl ?_
     refine ro rfl rfl (OpOk.step (ok_pickb (t := false) (d := false) rfl rfl rfl)) ?_
     refine ro rfl rfl (OpOk.step (ok_moveb (c := false) (.inl rfl) rfl)) ?_
     refine ro_skip rfl rfl ?_
     refine ro_skip rfl rfl ?_
     refine ro_skip rfl rfl ?_
     refine ro_skip rfl rfl ?_
     refine ro rfl rfl (OpOk.step (ok_pickb (t := false) (d := false) rfl rfl rfl)) ?_
     refine ro rfl rfl (OpOk.step (ok_moveb (c := false) (.inl rfl) rfl)) ?_
     refine ro_skip rfl rfl ?_
     refine ro_skip rfl rfl ?_
     refine ro_skip rfl rfl ?_
     refine ro_skip rfl rfl ?_
     refine ro_skip rfl rfl ?_
     refine ro rfl rfl (OpOk.step (ok_pickb (t := false) (d := false) rfl rfl rfl)) ?_
     refine ro rfl rfl (OpOk.step (ok_moveb (c := false) (.inr rfl) rfl)) ?_
     refine ro_nil ?_
     exact hJ8 _ _ (TEnt.toH rfl ⟨rfl, rfl, rfl, rfl, by first | exact congrArg AV.b (decide_eq_false (show ¬ Z1 s.c s.zs z x by rw [Z1_iff]; rintro ⟨h1, h2, h3, h4, h5, h6⟩; first | omega | (simp_all; done))).symm | exact congrArg AV.b (show (!hasZ s.zs x.slot) = decide (Z1 s.c s.zs z x) by rw [Bool.eq_iff_iff, decide_eq_true_iff, Z1_iff]; simp_all), trivial⟩)
   ·(try simp only [dE] at hb)
    refine ro_skip rfl rfl ?_
    refine ro_skip rfl rfl ?_
    refine ro_skip rfl rfl ?_
    refine ro rfl rfl (OpOk.step (ok_pickb (t := false) (d := false) rfl rfl rfl)) ?_
    refine ro rfl rfl (OpOk.step (ok_moveb (c := false) (.inl rfl) rfl)) ?_
    refine ro_skip rfl rfl ?_
    refine ro_skip rfl rfl ?_
    refine ro_skip rfl rfl ?_
    refine ro_skip rfl rfl ?_
    refine ro_skip rfl rfl ?_
    refine ro rfl rfl (OpOk.step (ok_pickb (t := false) (d := false) rfl rfl rfl)) ?_
    refine ro rfl rfl (OpOk.step (ok_moveb (c := false) (.inl rfl) rfl)) ?_
    refine ro_skip rfl rfl ?_
    refine ro_skip rfl rfl ?_
    refine ro_skip rfl rfl ?_
    refine ro rfl rfl (OpOk.step (ok_pickb (t := false) (d := false) rfl rfl rfl)) ?_
    refine ro rfl rfl (OpOk.step (ok_moveb (c := false) (.inl rfl) rfl)) ?_
    refine ro_skip rfl rfl ?_
    refine ro_skip rfl rfl ?_
    refine ro_skip rfl rfl ?_
    refine ro_skip rfl rfl ?_
    refine ro rfl rfl (OpOk.step (ok_pickb (t := false) (d := false) rfl rfl rfl)) ?_
    refine ro rfl rfl (OpOk.step (ok_moveb (c := false) (.inl rfl) rfl)) ?_
    refine ro_skip rfl rfl ?_
    refine ro_skip rfl rfl ?_
    refine ro_skip rfl rfl ?_
    refine ro_skip rfl rfl ?_
    refine ro_skip rfl rfl ?_
    refine ro rfl rfl (OpOk.step (ok_pickb (t := false) (d := false) rfl rfl rfl)) ?_
    refine ro rfl rfl (OpOk.step (ok_moveb (c := false) (.inr rfl) rfl)) ?_
    refine ro_nil ?_
    exact hJ8 _ _ (TEnt.toH rfl ⟨rfl, rfl, rfl, rfl, by first | exact congrArg AV.b (decide_eq_false (show ¬ Z1 s.c s.zs z x by rw [Z1_iff]; rintro ⟨h1, h2, h3, h4, h5, h6⟩; first | omega | (simp_all; done))).symm | exact congrArg AV.b (show (!hasZ s.zs x.slot) = decide (Z1 s.c s.zs z x) by rw [Bool.eq_iff_iff, decide_eq_true_iff, Z1_iff]; simp_all), trivial⟩)
  refine T.seq fun K9 hK9 => ?_
  refine T.drawH mixed [5, 6, 7] ?_ -- region 6
  refine any_take 0 rfl (by first | rfl | decide +kernel) rfl (HeldL.refl _) (fun H' hH => OpOk.step (ok_fieldAddr rfl ti_api_Rec rfl rfl ti_int (by decide) rfl)) ?_
  refine any_take 1 rfl (by first | rfl | decide +kernel) rfl (HeldL.refl _) (fun H' hH => OpOk.step (ok_load rfl ti_int (locA_held hH rfl) rfl)) ?_
  refine any_take 2 rfl (by first | rfl | decide +kernel) rfl (HeldL.refl _) (fun H' hH => OpOk.step (ok_load rfl ti_api_State (locA_held hH rfl) rfl)) ?_
  refine any_take 4 rfl (by first | rfl | decide +kernel) rfl (HeldL.refl _) (fun H' hH => OpOk.step (ok_fieldAddr rfl ti_api_Zone rfl rfl ti_int (by decide) rfl)) ?_
  refine any_one 3 rfl (by first | rfl | decide +kernel) rfl rfl (ok_call rfl rfl rfl ((rreb_ok s (by omega)).plain (by simp [renL, AV.ren, StC_take, StC_ren]) rfl)) (.inr (by first | (simp [HeldL]; done) | (simp only [HeldL, List.map_cons, List.map_nil, List.cons_append, List.nil_append, List.set_cons_zero, List.set_cons_succ]; (repeat' first | trivial | rfl | constructor)))) ?_
  refine any_one 5 rfl (by first | rfl | decide +kernel) rfl rfl (OpOk.step (ok_store rfl ti_int (by decide) rfl rfl rfl rfl rfl (by first | exact Nat.le_of_ble_eq_true rfl | simp) (by first | exact .inl ⟨rfl, rfl⟩ | exact .inr rfl))) (.inl (by simp)) ?_
  refine any_one 6 rfl (by first | rfl | decide +kernel) rfl rfl (OpOk.step (ok_fieldAddr rfl ti_api_Zone rfl rfl ti_bool (by decide) rfl)) (.inl (by simp)) ?_
  refine any_one 7 rfl (by first | rfl | decide +kernel) rfl rfl (OpOk.step (ok_store rfl ti_bool (by decide) rfl rfl rfl rfl rfl (by first | exact Nat.le_of_ble_eq_true rfl | simp) (by first | exact .inl ⟨rfl, rfl⟩ | exact .inr rfl))) (.inl (by simp)) ?_
  refine any_done rfl ?_
  refine keepK hK9 [4, 6, 9] (by dsimp) (by dsimp) ?_
  refine T.seq fun K10 hK10 => ?_
  refine T.region ?_ -- region 7
  refine ro rfl rfl (OpOk.step (ok_load rfl ti_api_Zone rfl rfl)) ?_
  refine ro rfl rfl (OpOk.step (ok_move (.inl rfl))) ?_
  refine ro rfl rfl (OpOk.step (ok_store rfl ti_api_Zone (by decide) rfl rfl rfl rfl rfl (by first | exact Nat.le_of_ble_eq_true rfl | simp) (by first | exact .inl ⟨rfl, rfl⟩ | exact .inr rfl))) ?_
  refine ro rfl rfl (OpOk.step (ok_move (.inr rfl))) ?_
  refine ro_nil ?_
  refine keepK hK10 [4, 5] (by dsimp) (by dsimp) ?_
  refine T.ret (hQ _ _ _ rfl ?_).1 -- ret 1
  exact by (rw [rz_1 (by assumption), ok_1 (by assumption)]; exact zret rfl rfl)
 ·(try simp only [dE] at hc)
  refine T.seq fun K11 hK11 => ?_
  refine T.region ?_ -- region 8
  refine ro rfl rfl (OpOk.step (ok_binOp rfl ti_int rfl)) ?_
  refine ro rfl rfl (OpOk.step (ok_move (.inr rfl))) ?_
  refine ro_nil ?_
  refine keepK hK11 [2, 3, 4, 6, 7, 27, 71] (by dsimp) (by dsimp) ?_
  refine T.cond rfl (fun hc => ?_) (fun hc => ?_) -- cond 2
  ·(try simp only [dE] at hc)
   refine T.seq fun K12 hK12 => ?_
   refine T.draw mixed (SH [] (HeldL ([none, some (RcB x), none, some (ZnB z)]))) ?_ -- region 9
   refine any_take 0 rfl (by first | rfl | decide +kernel) rfl (by first | (simp [HeldL]; done) | (simp only [HeldL, List.map_cons, List.map_nil, List.cons_append, List.nil_append, List.set_cons_zero, List.set_cons_succ]; (repeat' first | trivial | rfl | constructor))) (fun H' hH => OpOk.step (ok_fieldAddr rfl ti_api_Rec rfl rfl ti_int (by decide) rfl)) ?_
   refine any_take 1 rfl (by first | rfl | decide +kernel) rfl (by first | (simp [HeldL]; done) | (simp only [HeldL, List.map_cons, List.map_nil, List.cons_append, List.nil_append, List.set_cons_zero, List.set_cons_succ]; (repeat' first | trivial | rfl | constructor))) (fun H' hH => OpOk.step (ok_load rfl ti_int (locA_held hH rfl) rfl)) ?_
   refine any_take 2 rfl (by first | rfl | decide +kernel) rfl (by first | (simp [HeldL]; done) | (simp only [HeldL, List.map_cons, List.map_nil, List.cons_append, List.nil_append, List.set_cons_zero, List.set_cons_succ]; (repeat' first | trivial | rfl | constructor))) (fun H' hH => OpOk.step (ok_build rfl ti_api_Zone rfl)) ?_
   refine any_take 3 rfl (by first | rfl | decide +kernel) rfl (by first | (simp [HeldL]; done) | (simp only [HeldL, List.map_cons, List.map_nil, List.cons_append, List.nil_append, List.set_cons_zero, List.set_cons_succ]; (repeat' first | trivial | rfl | constructor))) (fun H' hH => OpOk.step (ok_fieldAddr rfl ti_api_Rec rfl rfl ti_int (by decide) rfl)) ?_
   refine any_take 4 rfl (by first | rfl | decide +kernel) rfl (by first | (simp [HeldL]; done) | (simp only [HeldL, List.map_cons, List.map_nil, List.cons_append, List.nil_append, List.set_cons_zero, List.set_cons_succ]; (repeat' first | trivial | rfl | constructor))) (fun H' hH => OpOk.step (ok_load rfl ti_int (locA_held hH rfl) rfl)) ?_
   refine any_take 5 rfl (by first | rfl | decide +kernel) rfl (by first | (simp [HeldL]; done) | (simp only [HeldL, List.map_cons, List.map_nil, List.cons_append, List.nil_append, List.set_cons_zero, List.set_cons_succ]; (repeat' first | trivial | rfl | constructor))) (fun H' hH => OpOk.step (ok_binOp rfl ti_int rfl)) ?_
   refine any_take 6 rfl (by first | rfl | decide +kernel) rfl (by first | (simp [HeldL]; done) | (simp only [HeldL, List.map_cons, List.map_nil, List.cons_append, List.nil_append, List.set_cons_zero, List.set_cons_succ]; (repeat' first | trivial | rfl | constructor))) (fun H' hH => OpOk.step (ok_fieldAddr rfl ti_api_Zone rfl rfl ti_int (by decide) rfl)) ?_
   refine any_take 7 rfl (by first | rfl | decide +kernel) rfl (by first | (simp [HeldL]; done) | (simp only [HeldL, List.map_cons, List.map_nil, List.cons_append, List.nil_append, List.set_cons_zero, List.set_cons_succ]; (repeat' first | trivial | rfl | constructor))) (fun H' hH => OpOk.step (ok_load rfl ti_int (locA_held hH rfl) rfl)) ?_
   refine any_take 8 rfl (by first | rfl | decide +kernel) rfl (by first | (simp [HeldL]; done) | (simp only [HeldL, List.map_cons, List.map_nil, List.cons_append, List.nil_append, List.set_cons_zero, List.set_cons_succ]; (repeat' first | trivial | rfl | constructor))) (fun H' hH => OpOk.step (ok_binOp rfl ti_int rfl)) ?_
   refine any_take_case 9 rfl (by first | rfl | decide +kernel) rfl (by first | (simp [HeldL]; done) | (simp only [HeldL, List.map_cons, List.map_nil, List.cons_append, List.nil_append, List.set_cons_zero, List.set_cons_succ]; (repeat' first | trivial | rfl | constructor))) (fun H' hH => OpOk.step (ok_moveb (.inl rfl) rfl)) (fun hb => ?_) (fun hb => ?_)
   ·(try simp only [dE] at hb)
    refine any_take 10 rfl (by first | rfl | decide +kernel) rfl (by first | (simp [HeldL]; done) | (simp only [HeldL, List.map_cons, List.map_nil, List.cons_append, List.nil_append, List.set_cons_zero, List.set_cons_succ]; (repeat' first | trivial | rfl | constructor))) (fun H' hH => OpOk.step (ok_fieldAddr rfl ti_api_Rec rfl rfl ti_int (by decide) rfl)) ?_
    refine any_take 11 rfl (by first | rfl | decide +kernel) rfl (by first | (simp [HeldL]; done) | (simp only [HeldL, List.map_cons, List.map_nil, List.cons_append, List.nil_append, List.set_cons_zero, List.set_cons_succ]; (repeat' first | trivial | rfl | constructor))) (fun H' hH => OpOk.step (ok_load rfl ti_int (locA_held hH rfl) rfl)) ?_
    refine any_take 12 rfl (by first | rfl | decide +kernel) rfl (by first | (simp [HeldL]; done) | (simp only [HeldL, List.map_cons, List.map_nil, List.cons_append, List.nil_append, List.set_cons_zero, List.set_cons_succ]; (repeat' first | trivial | rfl | constructor))) (fun H' hH => OpOk.step (ok_binOp rfl ti_int rfl)) ?_
    refine any_take 13 rfl (by first | rfl | decide +kernel) rfl (by first | (simp [HeldL]; done) | (simp only [HeldL, List.map_cons, List.map_nil, List.cons_append, List.nil_append, List.set_cons_zero, List.set_cons_succ]; (repeat' first | trivial | rfl | constructor))) (fun H' hH => OpOk.step (ok_pick rfl rfl)) ?_
    refine any_one 14 rfl (by first | rfl | decide +kernel) rfl rfl (OpOk.step (ok_store rfl ti_api_Zone (by decide) rfl rfl rfl rfl rfl (by first | exact Nat.le_of_ble_eq_true rfl | simp) (by first | exact .inl ⟨rfl, rfl⟩ | exact .inr rfl))) (.inr (by first | (simp [HeldL]; done) | (simp only [HeldL, List.map_cons, List.map_nil, List.cons_append, List.nil_append, List.set_cons_zero, List.set_cons_succ]; (repeat' first | trivial | rfl | constructor)))) ?_
    refine any_take 15 rfl (by first | rfl | decide +kernel) rfl (by first | (simp [HeldL]; done) | (simp only [HeldL, List.map_cons, List.map_nil, List.cons_append, List.nil_append, List.set_cons_zero, List.set_cons_succ]; (repeat' first | trivial | rfl | constructor))) (fun H' hH => OpOk.step (ok_move (.inr rfl))) ?_
    refine any_done rfl ?_
    refine keepK hK12 [4, 5] (by dsimp) (by dsimp) ?_
    refine T.ret (hQ _ _ _ rfl ?_).1 -- ret 2
    exact by (rw [rz_2 (by assumption), ok_2 (by assumption), show decide (Z2 z x) = decide (x.gen ≤ 1099511627776) by rw [decide_eq_decide]; have h := (wrap_sub1 hxg.1 hxg.2 hrz.1).1 (by assumption); exact ⟨fun h' => h'.2, fun h' => ⟨h, h'⟩⟩]; exact zret_nil rfl rfl rfl)
   ·(try simp only [dE] at hb)
    refine any_skip 10 rfl (by first | rfl | decide +kernel) rfl (by first | (simp [HeldL]; done) | (simp only [HeldL, List.map_cons, List.map_nil, List.cons_append, List.nil_append, List.set_cons_zero, List.set_cons_succ]; (repeat' first | trivial | rfl | constructor))) ?_
    refine any_skip 11 rfl (by first | rfl | decide +kernel) rfl (by first | (simp [HeldL]; done) | (simp only [HeldL, List.map_cons, List.map_nil, List.cons_append, List.nil_append, List.set_cons_zero, List.set_cons_succ]; (repeat' first | trivial | rfl | constructor))) ?_
    refine any_skip 12 rfl (by first | rfl | decide +kernel) rfl (by first | (simp [HeldL]; done) | (simp only [HeldL, List.map_cons, List.map_nil, List.cons_append, List.nil_append, List.set_cons_zero, List.set_cons_succ]; (repeat' first | trivial | rfl | constructor))) ?_
    refine any_take 13 rfl (by first | rfl | decide +kernel) rfl (by first | (simp [HeldL]; done) | (simp only [HeldL, List.map_cons, List.map_nil, List.cons_append, List.nil_append, List.set_cons_zero, List.set_cons_succ]; (repeat' first | trivial | rfl | constructor))) (fun H' hH => OpOk.step (ok_pickb (t := false) (d := false) rfl rfl rfl)) ?_
    refine any_one 14 rfl (by first | rfl | decide +kernel) rfl rfl (OpOk.step (ok_store rfl ti_api_Zone (by decide) rfl rfl rfl rfl rfl (by first | exact Nat.le_of_ble_eq_true rfl | simp) (by first | exact .inl ⟨rfl, rfl⟩ | exact .inr rfl))) (.inr (by first | (simp [HeldL]; done) | (simp only [HeldL, List.map_cons, List.map_nil, List.cons_append, List.nil_append, List.set_cons_zero, List.set_cons_succ]; (repeat' first | trivial | rfl | constructor)))) ?_
    refine any_take 15 rfl (by first | rfl | decide +kernel) rfl (by first | (simp [HeldL]; done) | (simp only [HeldL, List.map_cons, List.map_nil, List.cons_append, List.nil_append, List.set_cons_zero, List.set_cons_succ]; (repeat' first | trivial | rfl | constructor))) (fun H' hH => OpOk.step (ok_moveb (c := false) (.inr rfl) rfl)) ?_
    refine any_done rfl ?_
    refine keepK hK12 [4, 5] (by dsimp) (by dsimp) ?_
    refine T.ret (hQ _ _ _ rfl ?_).1 -- ret 3
    exact by (rw [rz_2 (by assumption), ok_2 (by assumption), decide_eq_false (fun h => absurd ((wrap_sub1 hxg.1 hxg.2 hrz.1).2 h.1) (by assumption))]; exact zret_nil rfl rfl rfl)
  ·(try simp only [dE] at hc)
   refine T.seq fun K13 hK13 => ?_
   refine T.region ?_ -- region 10
   refine ro rfl rfl (OpOk.step (ok_binOp rfl ti_int rfl)) ?_
   refine ro rfl rfl (OpOk.step (ok_move (.inr rfl))) ?_
   refine ro_nil ?_
   refine keepK hK13 [2, 3, 4, 6, 7, 27, 87] (by dsimp) (by dsimp) ?_
   refine T.cond rfl (fun hc => ?_) (fun hc => ?_) -- cond 3
   ·(try simp only [dE] at hc)
    refine T.seq fun K14 hK14 => ?_
    refine T.join hK14 [(2, .ref 0 0 0), (3, .ref 1 0 0), (4, .ref 2 0 0), (6, .ref 3 0 0), (10, .b (decide (Z3 s.c z x)))] [some (StB s), some (RcB x), some Z6, some (ZnB z)] (fun hJ15 => ?_) ?_
    ·
     refine T.region ?_ -- region 11
     refine ro rfl rfl (OpOk.step (ok_fieldAddr rfl ti_api_Zone rfl rfl ti_bool (by decide) rfl)) ?_
     refine ro rfl rfl (OpOk.step (ok_load rfl ti_bool rfl rfl)) ?_
     refine ro rfl rfl (OpOk.step (ok_unOp rfl rfl)) ?_
     refine ro_case rfl rfl (OpOk.step (ok_moveb (.inl rfl) rfl)) (fun hb => ?_) (fun hb => ?_)
     ·(try simp only [dE] at hb)
      refine ro rfl rfl (OpOk.step (ok_fieldAddr rfl ti_api_Rec rfl rfl ti_int (by decide) rfl)) ?_
      refine ro rfl rfl (OpOk.step (ok_load rfl ti_int rfl rfl)) ?_
      refine ro rfl rfl (OpOk.step (ok_binOp rfl ti_int rfl)) ?_
      refine ro rfl rfl (OpOk.step (ok_pick rfl rfl)) ?_
      refine ro_case rfl rfl (OpOk.step (ok_moveb (.inl rfl) rfl)) (fun hb => ?_) (fun hb => ?_)
      ·(try simp only [dE] at hb)
       refine ro rfl rfl (OpOk.step (ok_fieldAddr rfl ti_api_Rec rfl rfl ti_int (by decide) rfl)) ?_
       refine ro rfl rfl (OpOk.step (ok_load rfl ti_int rfl rfl)) ?_
       refine ro rfl rfl (OpOk.step (ok_move (.inl rfl))) ?_
       refine ro rfl rfl (OpOk.step (ok_binOp rfl ti_int rfl)) ?_
       refine ro rfl rfl (OpOk.step (ok_pick rfl rfl)) ?_
       refine ro_case rfl rfl (OpOk.step (ok_moveb (.inl rfl) rfl)) (fun hb => ?_) (fun hb => ?_)
       ·(try simp only [dE] at hb)
        refine ro rfl rfl (OpOk.step (ok_fieldAddr rfl ti_api_Zone rfl rfl ti_int (by decide) rfl)) ?_
        refine ro rfl rfl (OpOk.step (ok_load rfl ti_int rfl rfl)) ?_
        refine ro rfl rfl (OpOk.step (ok_binOp rfl ti_int rfl)) ?_
        refine ro_case rfl rfl (OpOk.step (ok_moveb (.inl rfl) rfl)) (fun hb => ?_) (fun hb => ?_)
        ·(try simp only [dE] at hb)
         refine ro_skip rfl rfl ?_
         refine ro_skip rfl rfl ?_
         refine ro_skip rfl rfl ?_
         refine ro rfl rfl (OpOk.step (ok_pickb (t := true) (d := true) rfl rfl rfl)) ?_
         refine ro rfl rfl (OpOk.step (ok_pickb (t := true) (d := true) rfl rfl rfl)) ?_
         refine ro rfl rfl (OpOk.step (ok_moveb (c := true) (.inr rfl) rfl)) ?_
         refine ro_nil ?_
         exact hJ15 _ _ (TEnt.toH rfl ⟨rfl, rfl, rfl, rfl, by have hsl := hrz.2.1; first | exact congrArg AV.b (decide_eq_false (show ¬ Z3 s.c z x by unfold Z3; rintro ⟨h1, h2, h3⟩; first | omega | (simp_all; done))).symm | exact congrArg AV.b (decide_eq_true (show Z3 s.c z x by unfold Z3; refine ⟨?_, ?_, fun _ => ?_⟩ <;> first | assumption | omega)).symm | exact congrArg AV.b (show (x.w == 0) = decide (Z3 s.c z x) by rw [Bool.eq_iff_iff, decide_eq_true_iff, beq_iff_eq]; unfold Z3; exact ⟨fun h => ⟨by assumption, by omega, fun _ => h⟩, fun h => h.2.2 (by omega)⟩), trivial⟩)
        ·(try simp only [dE] at hb)
         refine ro rfl rfl (OpOk.step (ok_fieldAddr rfl ti_api_Rec rfl rfl ti_int (by decide) rfl)) ?_
         refine ro rfl rfl (OpOk.step (ok_load rfl ti_int rfl rfl)) ?_
         refine ro rfl rfl (OpOk.step (ok_binOp rfl ti_int rfl)) ?_
         refine ro rfl rfl (OpOk.step (ok_pick rfl rfl)) ?_
         refine ro rfl rfl (OpOk.step (ok_pick rfl rfl)) ?_
         refine ro rfl rfl (OpOk.step (ok_move (.inr rfl))) ?_
         refine ro_nil ?_
         exact hJ15 _ _ (TEnt.toH rfl ⟨rfl, rfl, rfl, rfl, by have hsl := hrz.2.1; first | exact congrArg AV.b (decide_eq_false (show ¬ Z3 s.c z x by unfold Z3; rintro ⟨h1, h2, h3⟩; first | omega | (simp_all; done))).symm | exact congrArg AV.b (decide_eq_true (show Z3 s.c z x by unfold Z3; refine ⟨?_, ?_, fun _ => ?_⟩ <;> first | assumption | omega)).symm | exact congrArg AV.b (show (x.w == 0) = decide (Z3 s.c z x) by rw [Bool.eq_iff_iff, decide_eq_true_iff, beq_iff_eq]; unfold Z3; exact ⟨fun h => ⟨by assumption, by omega, fun _ => h⟩, fun h => h.2.2 (by omega)⟩), trivial⟩)
       ·(try simp only [dE] at hb)
        refine ro_skip rfl rfl ?_
        refine ro_skip rfl rfl ?_
        refine ro_skip rfl rfl ?_
        refine ro_skip rfl rfl ?_
        refine ro_skip rfl rfl ?_
        refine ro_skip rfl rfl ?_
        refine ro_skip rfl rfl ?_
        refine ro_skip rfl rfl ?_
        refine ro rfl rfl (OpOk.step (ok_pickb (t := false) (d := false) rfl rfl rfl)) ?_
        refine ro rfl rfl (OpOk.step (ok_moveb (c := false) (.inr rfl) rfl)) ?_
        refine ro_nil ?_
        exact hJ15 _ _ (TEnt.toH rfl ⟨rfl, rfl, rfl, rfl, by have hsl := hrz.2.1; first | exact congrArg AV.b (decide_eq_false (show ¬ Z3 s.c z x by unfold Z3; rintro ⟨h1, h2, h3⟩; first | omega | (simp_all; done))).symm | exact congrArg AV.b (decide_eq_true (show Z3 s.c z x by unfold Z3; refine ⟨?_, ?_, fun _ => ?_⟩ <;> first | assumption | omega)).symm | exact congrArg AV.b (show (x.w == 0) = decide (Z3 s.c z x) by rw [Bool.eq_iff_iff, decide_eq_true_iff, beq_iff_eq]; unfold Z3; exact ⟨fun h => ⟨by assumption, by omega, fun _ => h⟩, fun h => h.2.2 (by omega)⟩), trivial⟩)
      ·(try simp only [dE] at hb)
       refine ro_skip rfl rfl ?_
       refine ro_skip rfl rfl ?_
       refine ro_skip rfl rfl ?_
       refine ro_skip rfl rfl ?_
       refine ro rfl rfl (OpOk.step (ok_pickb (t := false) (d := false) rfl rfl rfl)) ?_
       refine ro rfl rfl (OpOk.step (ok_moveb (c := false) (.inl rfl) rfl)) ?_
       refine ro_skip rfl rfl ?_
       refine ro_skip rfl rfl ?_
       refine ro_skip rfl rfl ?_
       refine ro_skip rfl rfl ?_
       refine ro_skip rfl rfl ?_
       refine ro_skip rfl rfl ?_
       refine ro_skip rfl rfl ?_
       refine ro_skip rfl rfl ?_
       refine ro rfl rfl (OpOk.step (ok_pickb (t := false) (d := false) rfl rfl rfl)) ?_
       refine ro rfl rfl (OpOk.step (ok_moveb (c := false) (.inr rfl) rfl)) ?_
       refine ro_nil ?_
       exact hJ15 _ _ (TEnt.toH rfl ⟨rfl, rfl, rfl, rfl, by have hsl := hrz.2.1; first | exact congrArg AV.b (decide_eq_false (show ¬ Z3 s.c z x by unfold Z3; rintro ⟨h1, h2, h3⟩; first | omega | (simp_all; done))).symm | exact congrArg AV.b (decide_eq_true (show Z3 s.c z x by unfold Z3; refine ⟨?_, ?_, fun _ => ?_⟩ <;> first | assumption | omega)).symm | exact congrArg AV.b (show (x.w == 0) = decide (Z3 s.c z x) by rw [Bool.eq_iff_iff, decide_eq_true_iff, beq_iff_eq]; unfold Z3; exact ⟨fun h => ⟨by assumption, by omega, fun _ => h⟩, fun h => h.2.2 (by omega)⟩), trivial⟩)
     ·(try simp only [dE] at hb)
      refine ro_skip rfl rfl ?_
      refine ro_skip rfl rfl ?_
      refine ro_skip rfl rfl ?_
      refine ro rfl rfl (OpOk.step (ok_pickb (t := false) (d := false) rfl rfl rfl)) ?_
      refine ro rfl rfl (OpOk.step (ok_moveb (c := false) (.inl rfl) rfl)) ?_
      refine ro_skip rfl rfl ?_
      refine ro_skip rfl rfl ?_
      refine ro_skip rfl rfl ?_
      refine ro_skip rfl rfl ?_
      refine ro rfl rfl (OpOk.step (ok_pickb (t := false) (d := false) rfl rfl rfl)) ?_
      refine ro rfl rfl (OpOk.step (ok_moveb (c := false) (.inl rfl) rfl)) ?_
      refine ro_skip rfl rfl ?_
      refine ro_skip rfl rfl ?_
      refine ro_skip rfl rfl ?_
      refine ro_skip rfl rfl ?_
      refine ro_skip rfl rfl ?_
      refine ro_skip rfl rfl ?_
      refine ro_skip rfl rfl ?_
      refine ro_skip rfl rfl ?_
      refine ro rfl rfl (OpOk.step (ok_pickb (t := false) (d := false) rfl rfl rfl)) ?_
      refine ro rfl rfl (OpOk.step (ok_moveb (c := false) (.inr rfl) rfl)) ?_
      refine ro_nil ?_
      exact hJ15 _ _ (TEnt.toH rfl ⟨rfl, rfl, rfl, rfl, by have hsl := hrz.2.1; first | exact congrArg AV.b (decide_eq_false (show ¬ Z3 s.c z x by unfold Z3; rintro ⟨h1, h2, h3⟩; first | omega | (simp_all; done))).symm | exact congrArg AV.b (decide_eq_true (show Z3 s.c z x by unfold Z3; refine ⟨?_, ?_, fun _ => ?_⟩ <;> first | assumption | omega)).symm | exact congrArg AV.b (show (x.w == 0) = decide (Z3 s.c z x) by rw [Bool.eq_iff_iff, decide_eq_true_iff, beq_iff_eq]; unfold Z3; exact ⟨fun h => ⟨by assumption, by omega, fun _ => h⟩, fun h => h.2.2 (by omega)⟩), trivial⟩)
    refine T.seq fun K16 hK16 => ?_
    refine T.draw mixed (SH [] (HeldL ([none, some (RcB x)]))) ?_ -- region 12
    refine any_take 0 rfl (by first | rfl | decide +kernel) rfl (by first | (simp [HeldL]; done) | (simp only [HeldL, List.map_cons, List.map_nil, List.cons_append, List.nil_append, List.set_cons_zero, List.set_cons_succ]; (repeat' first | trivial | rfl | constructor))) (fun H' hH => OpOk.step (ok_fieldAddr rfl ti_api_Rec rfl rfl ti_int (by decide) rfl)) ?_
    refine any_take 1 rfl (by first | rfl | decide +kernel) rfl (by first | (simp [HeldL]; done) | (simp only [HeldL, List.map_cons, List.map_nil, List.cons_append, List.nil_append, List.set_cons_zero, List.set_cons_succ]; (repeat' first | trivial | rfl | constructor))) (fun H' hH => OpOk.step (ok_load rfl ti_int (locA_held hH rfl) rfl)) ?_
    refine any_take 2 rfl (by first | rfl | decide +kernel) rfl (by first | (simp [HeldL]; done) | (simp only [HeldL, List.map_cons, List.map_nil, List.cons_append, List.nil_append, List.set_cons_zero, List.set_cons_succ]; (repeat' first | trivial | rfl | constructor))) (fun H' hH => OpOk.step (ok_fieldAddr rfl ti_api_Zone rfl rfl ti_bool (by decide) rfl)) ?_
    refine any_one 3 rfl (by first | rfl | decide +kernel) rfl rfl (OpOk.step (ok_store rfl ti_bool (by decide) rfl rfl rfl rfl rfl (by first | exact Nat.le_of_ble_eq_true rfl | simp) (by first | exact .inl ⟨rfl, rfl⟩ | exact .inr rfl))) (.inr (by first | (simp [HeldL]; done) | (simp only [HeldL, List.map_cons, List.map_nil, List.cons_append, List.nil_append, List.set_cons_zero, List.set_cons_succ]; (repeat' first | trivial | rfl | constructor)))) ?_
    refine any_take 4 rfl (by first | rfl | decide +kernel) rfl (by first | (simp [HeldL]; done) | (simp only [HeldL, List.map_cons, List.map_nil, List.cons_append, List.nil_append, List.set_cons_zero, List.set_cons_succ]; (repeat' first | trivial | rfl | constructor))) (fun H' hH => OpOk.step (ok_fieldAddr rfl ti_api_Zone rfl rfl ti_int (by decide) rfl)) ?_
    refine any_one 5 rfl (by first | rfl | decide +kernel) rfl rfl (OpOk.step (ok_store rfl ti_int (by decide) rfl rfl rfl rfl rfl (by first | exact Nat.le_of_ble_eq_true rfl | simp) (by first | exact .inl ⟨rfl, rfl⟩ | exact .inr rfl))) (.inr (by first | (simp [HeldL]; done) | (simp only [HeldL, List.map_cons, List.map_nil, List.cons_append, List.nil_append, List.set_cons_zero, List.set_cons_succ]; (repeat' first | trivial | rfl | constructor)))) ?_
    refine any_done rfl ?_
    refine keepK hK16 [4, 6, 10] (by dsimp) (by dsimp) ?_
    refine T.seq fun K17 hK17 => ?_
    refine T.region ?_ -- region 13
    refine ro rfl rfl (OpOk.step (ok_load rfl ti_api_Zone rfl rfl)) ?_
    refine ro rfl rfl (OpOk.step (ok_move (.inl rfl))) ?_
    refine ro rfl rfl (OpOk.step (ok_store rfl ti_api_Zone (by decide) rfl rfl rfl rfl rfl (by first | exact Nat.le_of_ble_eq_true rfl | simp) (by first | exact .inl ⟨rfl, rfl⟩ | exact .inr rfl))) ?_
    refine ro rfl rfl (OpOk.step (ok_move (.inr rfl))) ?_
    refine ro_nil ?_
    refine keepK hK17 [4, 5] (by dsimp) (by dsimp) ?_
    refine T.ret (hQ _ _ _ rfl ?_).1 -- ret 4
    exact by (rw [rz_3 (by assumption), ok_3 (by assumption)]; exact zret rfl rfl)
   ·(try simp only [dE] at hc)
    refine T.seq fun K18 hK18 => ?_
    refine T.region ?_ -- region 14
    refine ro rfl rfl (OpOk.step (ok_binOp rfl ti_int rfl)) ?_
    refine ro rfl rfl (OpOk.step (ok_move (.inr rfl))) ?_
    refine ro_nil ?_
    refine keepK hK18 [2, 3, 4, 6, 7, 27, 119] (by dsimp) (by dsimp) ?_
    refine T.cond rfl (fun hc => ?_) (fun hc => ?_) -- cond 4
    ·(try simp only [dE] at hc)
     refine T.seq fun K19 hK19 => ?_
     refine T.join hK19 [(2, .ref 0 0 0), (3, .ref 1 0 0), (4, .ref 2 0 0), (6, .ref 3 0 0), (11, .b (decide (Z4 s.c z x)))] [some (StB s), some (RcB x), some Z6, some (ZnB z)] (fun hJ20 => ?_) ?_
     ·
      refine T.region ?_ -- region 15
      refine ro rfl rfl (OpOk.step (ok_fieldAddr rfl ti_api_Zone rfl rfl ti_int (by decide) rfl)) ?_
      refine ro rfl rfl (OpOk.step (ok_load rfl ti_int rfl rfl)) ?_
      refine ro rfl rfl (OpOk.step (ok_binOp rfl ti_int rfl)) ?_
      refine ro_case rfl rfl (OpOk.step (ok_moveb (.inl rfl) rfl)) (fun hb => ?_) (fun hb => ?_)
      ·(try simp only [dE] at hb)
       refine ro rfl rfl (OpOk.step (ok_fieldAddr rfl ti_api_Zone rfl rfl ti_bool (by decide) rfl)) ?_
       refine ro rfl rfl (OpOk.step (ok_load rfl ti_bool rfl rfl)) ?_
       refine ro rfl rfl (OpOk.step (ok_unOp rfl rfl)) ?_
       refine ro rfl rfl (OpOk.step (ok_pick rfl rfl)) ?_
       refine ro_case rfl rfl (OpOk.step (ok_moveb (.inl rfl) rfl)) (fun hb => ?_) (fun hb => ?_)
       ·(try simp only [dE] at hb)
        refine ro rfl rfl (OpOk.step (ok_fieldAddr rfl ti_api_Zone rfl rfl ti_int (by decide) rfl)) ?_
        refine ro rfl rfl (OpOk.step (ok_load rfl ti_int rfl rfl)) ?_
        refine ro rfl rfl (OpOk.step (ok_fieldAddr rfl ti_api_Rec rfl rfl ti_int (by decide) rfl)) ?_
        refine ro rfl rfl (OpOk.step (ok_load rfl ti_int rfl rfl)) ?_
        refine ro rfl rfl (OpOk.step (ok_binOp rfl ti_int rfl)) ?_
        refine ro rfl rfl (OpOk.step (ok_pick rfl rfl)) ?_
        refine ro_case rfl rfl (OpOk.step (ok_moveb (.inl rfl) rfl)) (fun hb => ?_) (fun hb => ?_)
        ·(try simp only [dE] at hb)
         refine ro rfl rfl (OpOk.step (ok_fieldAddr rfl ti_api_Rec rfl rfl ti_int (by decide) rfl)) ?_
         refine ro rfl rfl (OpOk.step (ok_load rfl ti_int rfl rfl)) ?_
         refine ro rfl rfl (OpOk.step (ok_binOp rfl ti_int rfl)) ?_
         refine ro rfl rfl (OpOk.step (ok_pick rfl rfl)) ?_
         refine ro_case rfl rfl (OpOk.step (ok_moveb (.inl rfl) rfl)) (fun hb => ?_) (fun hb => ?_)
         ·(try simp only [dE] at hb)
          refine ro rfl rfl (OpOk.step (ok_fieldAddr rfl ti_api_Rec rfl rfl ti_int (by decide) rfl)) ?_
          refine ro rfl rfl (OpOk.step (ok_load rfl ti_int rfl rfl)) ?_
          refine ro rfl rfl (OpOk.step (ok_move (.inl rfl))) ?_
          refine ro rfl rfl (OpOk.step (ok_binOp rfl ti_int rfl)) ?_
          refine ro rfl rfl (OpOk.step (ok_pick rfl rfl)) ?_
          refine ro_case rfl rfl (OpOk.step (ok_moveb (.inl rfl) rfl)) (fun hb => ?_) (fun hb => ?_)
          ·(try simp only [dE] at hb)
           refine ro rfl rfl (OpOk.step (ok_fieldAddr rfl ti_api_Rec rfl rfl ti_Luint8 (by decide) rfl)) ?_
           refine ro rfl rfl (OpOk.step (ok_load rfl ti_Luint8 rfl rfl)) ?_
           refine ro rfl rfl (OpOk.step (ok_len' rfl rfl ti_Luint8 rfl (by first | exact ints_length _ _ | exact rowsA_length _ _ | exact Cms_len _ | exact mapLen _ | rfl))) ?_
           refine ro rfl rfl (OpOk.step (ok_fieldAddr rfl ti_api_State rfl rfl ti_api_Conf (by decide) rfl)) ?_
           refine ro rfl rfl (OpOk.step (ok_fieldAddr rfl ti_api_Conf rfl rfl ti_int (by decide) rfl)) ?_
           refine ro rfl rfl (OpOk.step (ok_load rfl ti_int rfl rfl)) ?_
           refine ro rfl rfl (OpOk.step (ok_fieldAddr rfl ti_api_State rfl rfl ti_api_Conf (by decide) rfl)) ?_
           refine ro rfl rfl (OpOk.step (ok_fieldAddr rfl ti_api_Conf rfl rfl ti_int (by decide) rfl)) ?_
           refine ro rfl rfl (OpOk.step (ok_load rfl ti_int rfl rfl)) ?_
           refine ro rfl rfl (OpOk.step (ok_mul64 rfl ti_int rfl rfl (by omega) (by omega))) ?_
           refine ro rfl rfl (OpOk.step (ok_binOp rfl ti_int rfl)) ?_
           refine ro rfl rfl (OpOk.step (ok_pick rfl rfl)) ?_
           refine ro rfl rfl (OpOk.step (ok_move (.inr rfl))) ?_
           refine ro_nil ?_
           exact hJ20 _ _ (TEnt.toH rfl ⟨rfl, rfl, rfl, rfl, by have hsl := hrz.2.1; first | exact congrArg AV.b (decide_eq_false (show ¬ Z4 s.c z x by unfold Z4; rintro ⟨h1, h2, h3, h4, h5⟩; first | omega | (simp_all; done))).symm | exact congrArg AV.b (show ((x.body.length : Int) == s.c.unit * s.c.blk) = decide (Z4 s.c z x) by rw [Bool.eq_iff_iff, decide_eq_true_iff, beq_iff_eq]; unfold Z4; exact ⟨fun h => ⟨by omega, by assumption, by assumption, by omega, h⟩, fun h => h.2.2.2.2⟩), trivial⟩)
          ·(try simp only [dE] at hb)
           refine ro_skip rfl rfl ?_
           refine ro_skip rfl rfl ?_
           refine ro_skip rfl rfl ?_
           refine ro_skip rfl rfl ?_
           refine ro_skip rfl rfl ?_
           refine ro_skip rfl rfl ?_
           refine ro_skip rfl rfl ?_
           refine ro_skip rfl rfl ?_
           refine ro_skip rfl rfl ?_
           refine ro_skip rfl rfl ?_
           refine ro_skip rfl rfl ?_
           refine ro rfl rfl (OpOk.step (ok_pickb (t := false) (d := false) rfl rfl rfl)) ?_
           refine ro rfl rfl (OpOk.step (ok_moveb (c := false) (.inr rfl) rfl)) ?_
           refine ro_nil ?_
           exact hJ20 _ _ (TEnt.toH rfl ⟨rfl, rfl, rfl, rfl, by have hsl := hrz.2.1; first | exact congrArg AV.b (decide_eq_false (show ¬ Z4 s.c z x by unfold Z4; rintro ⟨h1, h2, h3, h4, h5⟩; first | omega | (simp_all; done))).symm | exact congrArg AV.b (show ((x.body.length : Int) == s.c.unit * s.c.blk) = decide (Z4 s.c z x) by rw [Bool.eq_iff_iff, decide_eq_true_iff, beq_iff_eq]; unfold Z4; exact ⟨fun h => ⟨by omega, by assumption, by assumption, by omega, h⟩, fun h => h.2.2.2.2⟩), trivial⟩)
         ·(try simp only [dE] at hb)
          refine ro_skip rfl rfl ?_
          refine ro_skip rfl rfl ?_
          refine ro_skip rfl rfl ?_
          refine ro_skip rfl rfl ?_
          refine ro rfl rfl (OpOk.step (ok_pickb (t := false) (d := false) rfl rfl rfl)) ?_
          refine ro rfl rfl (OpOk.step (ok_moveb (c := false) (.inl rfl) rfl)) ?_
          refine ro_skip rfl rfl ?_
          refine ro_skip rfl rfl ?_
          refine ro_skip rfl rfl ?_
          refine ro_skip rfl rfl ?_
          refine ro_skip rfl rfl ?_
          refine ro_skip rfl rfl ?_
          refine ro_skip rfl rfl ?_
          refine ro_skip rfl rfl ?_
          refine ro_skip rfl rfl ?_
          refine ro_skip rfl rfl ?_
          refine ro_skip rfl rfl ?_
          refine ro rfl rfl (OpOk.step (ok_pickb (t := false) (d := false) rfl rfl rfl)) ?_
          refine ro rfl rfl (OpOk.step (ok_moveb (c := false) (.inr rfl) rfl)) ?_
          refine ro_nil ?_
          exact hJ20 _ _ (TEnt.toH rfl ⟨rfl, rfl, rfl, rfl, by have hsl := hrz.2.1; first | exact congrArg AV.b (decide_eq_false (show ¬ Z4 s.c z x by unfold Z4; rintro ⟨h1, h2, h3, h4, h5⟩; first | omega | (simp_all; done))).symm | exact congrArg AV.b (show ((x.body.length : Int) == s.c.unit * s.c.blk) = decide (Z4 s.c z x) by rw [Bool.eq_iff_iff, decide_eq_true_iff, beq_iff_eq]; unfold Z4; exact ⟨fun h => ⟨by omega, by assumption, by assumption, by omega, h⟩, fun h => h.2.2.2.2⟩), trivial⟩)
        ·(try simp only [dE] at hb)
         refine ro_skip rfl rfl ?_
         refine ro_skip rfl rfl ?_
         refine ro_skip rfl rfl ?_
         refine ro rfl rfl (OpOk.step (ok_pickb (t := false) (d := false) rfl rfl rfl)) ?_
         refine ro rfl rfl (OpOk.step (ok_moveb (c := false) (.inl rfl) rfl)) ?_
         refine ro_skip rfl rfl ?_
         refine ro_skip rfl rfl ?_
         refine ro_skip rfl rfl ?_
         refine ro_skip rfl rfl ?_
         refine ro rfl rfl (OpOk.step (ok_pickb (t := false) (d := false) rfl rfl rfl)) ?_
         refine ro rfl rfl (OpOk.step (ok_moveb (c := false) (.inl rfl) rfl)) ?_
         refine ro_skip rfl rfl ?_
         refine ro_skip rfl rfl ?_
         refine ro_skip rfl rfl ?_
         refine ro_skip rfl rfl ?_
         refine ro_skip rfl rfl ?_
         refine ro_skip rfl rfl ?_
         refine ro_skip rfl rfl ?_
         refine ro_skip rfl rfl ?_
         refine ro_skip rfl rfl ?_
         refine ro_skip rfl rfl ?_
         refine ro_skip rfl rfl ?_
         refine ro rfl rfl (OpOk.step (ok_pickb (t := false) (d := false) rfl rfl rfl)) ?_
         refine ro rfl rfl (OpOk.step (ok_moveb (c := false) (.inr rfl) rfl)) ?_
         refine ro_nil ?_
         exact hJ20 _ _ (TEnt.toH rfl ⟨rfl, rfl, rfl, rfl, by have hsl := hrz.2.1; first | exact congrArg AV.b (decide_eq_false (show ¬ Z4 s.c z x by unfold Z4; rintro ⟨h1, h2, h3, h4, h5⟩; first | omega | (simp_all; done))).symm | exact congrArg AV.b (show ((x.body.length : Int) == s.c.unit * s.c.blk) = decide (Z4 s.c z x) by rw [Bool.eq_iff_iff, decide_eq_true_iff, beq_iff_eq]; unfold Z4; exact ⟨fun h => ⟨by omega, by assumption, by assumption, by omega, h⟩, fun h => h.2.2.2.2⟩), trivial⟩)
       ·(try simp only [dE] at hb)
        refine ro_skip rfl rfl ?_
        refine ro_skip rfl rfl ?_
        refine ro_skip rfl rfl ?_
        refine ro_skip rfl rfl ?_
        refine ro_skip rfl rfl ?_
        refine ro rfl rfl (OpOk.step (ok_pickb (t := false) (d := false) rfl rfl rfl)) ?_
        refine ro rfl rfl (OpOk.step (ok_moveb (c := false) (.inl rfl) rfl)) ?_
        refine ro_skip rfl rfl ?_
        refine ro_skip rfl rfl ?_
        refine ro_skip rfl rfl ?_
        refine ro rfl rfl (OpOk.step (ok_pickb (t := false) (d := false) rfl rfl rfl)) ?_
        refine ro rfl rfl (OpOk.step (ok_moveb (c := false) (.inl rfl) rfl)) ?_
        refine ro_skip rfl rfl ?_
        refine ro_skip rfl rfl ?_
        refine ro_skip rfl rfl ?_
        refine ro_skip rfl rfl ?_
        refine ro rfl rfl (OpOk.step (ok_pickb (t := false) (d := false) rfl rfl rfl)) ?_
        refine ro rfl rfl (OpOk.step (ok_moveb (c := false) (.inl rfl) rfl)) ?_
        refine ro_skip rfl rfl ?_
        refine ro_skip rfl rfl ?_
        refine ro_skip rfl rfl ?_
        refine ro_skip rfl rfl ?_
        refine ro_skip rfl rfl ?_
        refine ro_skip rfl rfl ?_
        refine ro_skip rfl rfl ?_
        refine ro_skip rfl rfl ?_
        refine ro_skip rfl rfl ?_
        refine ro_skip rfl rfl ?_
        refine ro_skip rfl rfl ?_
        refine ro rfl rfl (OpOk.step (ok_pickb (t := false) (d := false) rfl rfl rfl)) ?_
        refine ro rfl rfl (OpOk.step (ok_moveb (c := false) (.inr rfl) rfl)) ?_
        refine ro_nil ?_
        exact hJ20 _ _ (TEnt.toH rfl ⟨rfl, rfl, rfl, rfl, by have hsl := hrz.2.1; first | exact congrArg AV.b (decide_eq_false (show ¬ Z4 s.c z x by unfold Z4; rintro ⟨h1, h2, h3, h4, h5⟩; first | omega | (simp_all; done))).symm | exact congrArg AV.b (show ((x.body.length : Int) == s.c.unit * s.c.blk) = decide (Z4 s.c z x) by rw [Bool.eq_iff_iff, decide_eq_true_iff, beq_iff_eq]; unfold Z4; exact ⟨fun h => ⟨by omega, by assumption, by assumption, by omega, h⟩, fun h => h.2.2.2.2⟩), trivial⟩)
      ·(try simp only [dE] at hb)
       refine ro_skip rfl rfl ?_
       refine ro_skip rfl rfl ?_
       refine ro_skip rfl rfl ?_
       refine ro rfl rfl (OpOk.step (ok_pickb (t := false) (d := false) rfl rfl rfl)) ?_
       refine ro rfl rfl (OpOk.step (ok_moveb (c := false) (.inl rfl) rfl)) ?_
       refine ro_skip rfl rfl ?_
       refine ro_skip rfl rfl ?_
       refine ro_skip rfl rfl ?_
       refine ro_skip rfl rfl ?_
       refine ro_skip rfl rfl ?_
       refine ro rfl rfl (OpOk.step (ok_pickb (t := false) (d := false) rfl rfl rfl)) ?_
       refine ro rfl rfl (OpOk.step (ok_moveb (c := false) (.inl rfl) rfl)) ?_
       refine ro_skip rfl rfl ?_
       refine ro_skip rfl rfl ?_
       refine ro_skip rfl rfl ?_
       refine ro rfl rfl (OpOk.step (ok_pickb (t := false) (d := false) rfl rfl rfl)) ?_
       refine ro rfl rfl (OpOk.step (ok_moveb (c := false) (.inl rfl) rfl)) ?_
       refine ro_skip rfl rfl ?_
       refine ro_skip rfl rfl ?_
       refine ro_skip rfl rfl ?_
       refine ro_skip rfl rfl ?_
       refine ro rfl rfl (OpOk.step (ok_pickb (t := false) (d := false) rfl rfl rfl)) ?_
       refine ro rfl rfl (OpOk.step (ok_moveb (c := false) (.inl rfl) rfl)) ?_
       refine ro_skip rfl rfl ?_
       refine ro_skip rfl rfl ?_
       refine ro_skip rfl rfl ?_
       refine ro_skip rfl rfl ?_
       refine ro_skip rfl rfl ?_
       refine ro_skip rfl rfl ?_
       refine ro_skip rfl rfl ?_
       refine ro_skip rfl rfl ?_
       refine ro_skip rfl rfl ?_
       refine ro_skip rfl rfl ?_
       refine ro_skip rfl rfl ?_
       refine ro rfl rfl (OpOk.step (ok_pickb (t := false) (d := false) rfl rfl rfl)) ?_
       refine ro rfl rfl (OpOk.step (ok_moveb (c := false) (.inr rfl) rfl)) ?_
       refine ro_nil ?_
       exact hJ20 _ _ (TEnt.toH rfl ⟨rfl, rfl, rfl, rfl, by have hsl := hrz.2.1; first | exact congrArg AV.b (decide_eq_false (show ¬ Z4 s.c z x by unfold Z4; rintro ⟨h1, h2, h3, h4, h5⟩; first | omega | (simp_all; done))).symm | exact congrArg AV.b (show ((x.body.length : Int) == s.c.unit * s.c.blk) = decide (Z4 s.c z x) by rw [Bool.eq_iff_iff, decide_eq_true_iff, beq_iff_eq]; unfold Z4; exact ⟨fun h => ⟨by omega, by assumption, by assumption, by omega, h⟩, fun h => h.2.2.2.2⟩), trivial⟩)
     refine T.seq fun K21 hK21 => ?_
     refine T.draw mixed (SH [] (HeldL ([none, some (RcB x), none, some (ZnB z)]))) ?_ -- region 16
     refine any_take 1 rfl (by first | rfl | decide +kernel) rfl (by first | (simp [HeldL]; done) | (simp only [HeldL, List.map_cons, List.map_nil, List.cons_append, List.nil_append, List.set_cons_zero, List.set_cons_succ]; (repeat' first | trivial | rfl | constructor))) (fun H' hH => OpOk.step (ok_fieldAddr rfl ti_api_Zone rfl rfl ti_Lapi_Par (by decide) rfl)) ?_
     refine any_take 2 rfl (by first | rfl | decide +kernel) rfl (by first | (simp [HeldL]; done) | (simp only [HeldL, List.map_cons, List.map_nil, List.cons_append, List.nil_append, List.set_cons_zero, List.set_cons_succ]; (repeat' first | trivial | rfl | constructor))) (fun H' hH => OpOk.step (ok_load rfl ti_Lapi_Par (locA_held hH rfl) rfl)) ?_
     refine any_take 4 rfl (by first | rfl | decide +kernel) rfl (by first | (simp [HeldL]; done) | (simp only [HeldL, List.map_cons, List.map_nil, List.cons_append, List.nil_append, List.set_cons_zero, List.set_cons_succ]; (repeat' first | trivial | rfl | constructor))) (fun H' hH => OpOk.step (ok_fieldAddr rfl ti_api_Rec rfl rfl ti_int (by decide) rfl)) ?_
     refine any_take 5 rfl (by first | rfl | decide +kernel) rfl (by first | (simp [HeldL]; done) | (simp only [HeldL, List.map_cons, List.map_nil, List.cons_append, List.nil_append, List.set_cons_zero, List.set_cons_succ]; (repeat' first | trivial | rfl | constructor))) (fun H' hH => OpOk.step (ok_load rfl ti_int (locA_held hH rfl) rfl)) ?_
     refine any_take 6 rfl (by first | rfl | decide +kernel) rfl (by first | (simp [HeldL]; done) | (simp only [HeldL, List.map_cons, List.map_nil, List.cons_append, List.nil_append, List.set_cons_zero, List.set_cons_succ]; (repeat' first | trivial | rfl | constructor))) (fun H' hH => OpOk.step (ok_fieldAddr rfl ti_api_Rec rfl rfl ti_Luint8 (by decide) rfl)) ?_
     refine any_take 7 rfl (by first | rfl | decide +kernel) rfl (by first | (simp [HeldL]; done) | (simp only [HeldL, List.map_cons, List.map_nil, List.cons_append, List.nil_append, List.set_cons_zero, List.set_cons_succ]; (repeat' first | trivial | rfl | constructor))) (fun H' hH => OpOk.step (ok_load rfl ti_Luint8 (locA_held hH rfl) rfl)) ?_
     refine any_take 8 rfl (by first | rfl | decide +kernel) rfl (by first | (simp [HeldL]; done) | (simp only [HeldL, List.map_cons, List.map_nil, List.cons_append, List.nil_append, List.set_cons_zero, List.set_cons_succ]; (repeat' first | trivial | rfl | constructor))) (fun H' hH => OpOk.step (ok_build rfl ti_api_Par rfl)) ?_
     refine any_many [0, 9] (by first | rfl | decide +kernel) (by decide) (fun k hk => ?_)
     simp only [List.mem_cons, List.not_mem_nil, or_false] at hk
     rcases hk with rfl | rfl
     ·
      refine step_one rfl rfl rfl (OpOk.step (ok_buildSlice (n := 0) (ps := #[]) rfl ti_Lapi_Par rfl ti_api_Par (by decide) rfl rfl (by decide) rfl rfl rfl)) (.inr (by first | (simp [HeldL]; done) | (simp only [HeldL, List.map_cons, List.map_nil, List.cons_append, List.nil_append, List.set_cons_zero, List.set_cons_succ]; (repeat' first | trivial | rfl | constructor)))) ?_
      refine any_many [3, 9] (by first | rfl | decide +kernel) (by decide) (fun k hk => ?_)
      simp only [List.mem_cons, List.not_mem_nil, or_false] at hk
      rcases hk with rfl | rfl
      ·
       refine step_one rfl rfl rfl (OpOk.step (by exact ok_append_map (fun p => .agg (PrC p)) (xs := []) (ys := z.pars) rfl ti_Lapi_Par rfl ti_api_Par (by decide) (by decide) rfl ti_Lapi_Par (by simp) rfl rfl rfl rfl rfl rfl rfl rfl rfl (by show (0 + z.pars.length) * 32 ≤ _; omega))) (.inr (by first | (simp [HeldL]; done) | (simp only [HeldL, List.map_cons, List.map_nil, List.cons_append, List.nil_append, List.set_cons_zero, List.set_cons_succ]; (repeat' first | trivial | rfl | constructor)))) ?_
       refine any_one 9 rfl (by first | rfl | decide +kernel) rfl rfl (OpOk.step (ok_buildSlice (n := 1) (ps := #[(0, .tmp 168)]) rfl ti_Lapi_Par rfl ti_api_Par (by decide) rfl rfl (by decide) rfl rfl rfl)) (.inr (by first | (simp [HeldL]; done) | (simp only [HeldL, List.map_cons, List.map_nil, List.cons_append, List.nil_append, List.set_cons_zero, List.set_cons_succ]; (repeat' first | trivial | rfl | constructor)))) ?_
       refine any_one 10 rfl (by first | rfl | decide +kernel) rfl rfl (OpOk.step (by exact ok_append_map (fun p => .agg (PrC p)) (xs := [] ++ z.pars) (ys := [(⟨x.w, x.body⟩ : Pr)]) rfl ti_Lapi_Par rfl ti_api_Par (by decide) (by decide) rfl ti_Lapi_Par (by simp) rfl rfl rfl rfl rfl rfl rfl rfl rfl (by show (z.pars.length + 1) * 32 ≤ _; omega))) (.inr (by first | (simp [HeldL]; done) | (simp only [HeldL, List.map_cons, List.map_nil, List.cons_append, List.nil_append, List.set_cons_zero, List.set_cons_succ]; (repeat' first | trivial | rfl | constructor)))) ?_
       refine any_take 11 rfl (by first | rfl | decide +kernel) rfl (by first | (simp [HeldL]; done) | (simp only [HeldL, List.map_cons, List.map_nil, List.cons_append, List.nil_append, List.set_cons_zero, List.set_cons_succ]; (repeat' first | trivial | rfl | constructor))) (fun H' hH => OpOk.step (ok_move (.inr rfl))) ?_
       refine any_done rfl ?_
       refine keepK hK21 [4, 6, 11, 12] (by dsimp) (by dsimp) ?_
       refine T.seq fun K22 hK22 => ?_
       refine T.seq fun K23 hK23 => ?_
       refine T.region ?_ -- region 17
       refine ro rfl rfl (OpOk.step (ok_move (.inl rfl))) ?_
       refine ro rfl rfl (OpOk.step (ok_len' rfl rfl ti_Lapi_Par rfl (by first | exact ints_length _ _ | exact rowsA_length _ _ | exact Cms_len _ | exact mapLen _ | rfl))) ?_
       refine ro rfl rfl (OpOk.step (ok_binOp rfl ti_int rfl)) ?_
       refine ro_nil ?_
       refine keepK hK23 [4, 6, 11, 12, 173] (by dsimp) (by dsimp) ?_
       refine T.cond rfl (fun hc => ?_) (fun hc => ?_) -- cond 5
       ·(try simp only [dE] at hc)
        refine T.region ?_ -- region 18
        refine ro rfl rfl (OpOk.step (ok_move (.inl rfl))) ?_
        refine ro rfl rfl (OpOk.step (by exact ok_slice (r := .sl 7 1 ((z.pars ++ [(⟨x.w, x.body⟩ : Pr)]).length - 1)) rfl ti_Lapi_Par (.inl ⟨_, _, rfl, ti_api_Par, rfl⟩) rfl rfl rfl (by simp [sliceA, hget]; omega))) ?_
        refine ro rfl rfl (OpOk.step (ok_move (.inr rfl))) ?_
        refine ro_nil ?_
        refine keepK hK22 [4, 6, 11, 12] (by dsimp) (by dsimp) ?_
        refine T.seq fun K24 hK24 => ?_
        refine T.region ?_ -- region 19
        refine ro rfl rfl (OpOk.step (ok_move (.inl rfl))) ?_
        refine ro rfl rfl (OpOk.step (ok_fieldAddr rfl ti_api_Zone rfl rfl ti_Lapi_Par (by decide) rfl)) ?_
        refine ro rfl rfl (OpOk.step (ok_store rfl ti_Lapi_Par (by decide) rfl rfl rfl rfl rfl (by first | exact Nat.le_of_ble_eq_true rfl | simp) (by first | exact .inl ⟨rfl, rfl⟩ | exact .inr rfl))) ?_
        refine ro_nil ?_
        refine keepK hK24 [4, 6, 11] (by dsimp) (by dsimp) ?_
        refine T.seq fun K25 hK25 => ?_
        refine T.region ?_ -- region 20
        refine ro rfl rfl (OpOk.step (ok_load rfl ti_api_Zone rfl rfl)) ?_
        refine ro rfl rfl (OpOk.step (ok_move (.inl rfl))) ?_
        refine ro rfl rfl (OpOk.step (ok_store rfl ti_api_Zone (by decide) rfl rfl rfl rfl rfl (by first | exact Nat.le_of_ble_eq_true rfl | simp) (by first | exact .inl ⟨rfl, rfl⟩ | exact .inr rfl))) ?_
        refine ro rfl rfl (OpOk.step (ok_move (.inr rfl))) ?_
        refine ro_nil ?_
        refine keepK hK25 [4, 5] (by dsimp) (by dsimp) ?_
        refine T.ret (hQ _ _ _ rfl ?_).1 -- ret 5
        exact by (rw [rz_4 (by assumption), ok_4 (by assumption)]; exact zret_sl (p := 7) (off := 1) (len := (z.pars ++ [(⟨x.w, x.body⟩ : Pr)]).length - 1) (l := (z.pars ++ [(⟨x.w, x.body⟩ : Pr)])) rfl rfl rfl (by simp only [List.length_append, List.length_singleton] at *; omega) (last2_3 (by simp only [List.length_append, List.length_singleton] at *; omega)))
       ·(try simp only [dE] at hc)
        refine T.skip ?_
        refine keepK hK22 [4, 6, 11, 12] (by dsimp) (by dsimp) ?_
        refine T.seq fun K26 hK26 => ?_
        refine T.region ?_ -- region 19
        refine ro rfl rfl (OpOk.step (ok_move (.inl rfl))) ?_
        refine ro rfl rfl (OpOk.step (ok_fieldAddr rfl ti_api_Zone rfl rfl ti_Lapi_Par (by decide) rfl)) ?_
        refine ro rfl rfl (OpOk.step (ok_store rfl ti_Lapi_Par (by decide) rfl rfl rfl rfl rfl (by first | exact Nat.le_of_ble_eq_true rfl | simp) (by first | exact .inl ⟨rfl, rfl⟩ | exact .inr rfl))) ?_
        refine ro_nil ?_
        refine keepK hK26 [4, 6, 11] (by dsimp) (by dsimp) ?_
        refine T.seq fun K27 hK27 => ?_
        refine T.region ?_ -- region 20
        refine ro rfl rfl (OpOk.step (ok_load rfl ti_api_Zone rfl rfl)) ?_
        refine ro rfl rfl (OpOk.step (ok_move (.inl rfl))) ?_
        refine ro rfl rfl (OpOk.step (ok_store rfl ti_api_Zone (by decide) rfl rfl rfl rfl rfl (by first | exact Nat.le_of_ble_eq_true rfl | simp) (by first | exact .inl ⟨rfl, rfl⟩ | exact .inr rfl))) ?_
        refine ro rfl rfl (OpOk.step (ok_move (.inr rfl))) ?_
        refine ro_nil ?_
        refine keepK hK27 [4, 5] (by dsimp) (by dsimp) ?_
        refine T.ret (hQ _ _ _ rfl ?_).1 -- ret 6
        exact by (rw [rz_4 (by assumption), ok_4 (by assumption)]; exact zret_sl (p := 7) (off := 0) (len := (z.pars ++ [(⟨x.w, x.body⟩ : Pr)]).length) (l := (z.pars ++ [(⟨x.w, x.body⟩ : Pr)])) rfl rfl rfl (by omega) (last2_le (by simp only [List.length_append, List.length_singleton] at *; omega)))
      ·
       refine step_one rfl rfl rfl (OpOk.step (ok_buildSlice (n := 1) (ps := #[(0, .tmp 168)]) rfl ti_Lapi_Par rfl ti_api_Par (by decide) rfl rfl (by decide) rfl rfl rfl)) (.inr (by first | (simp [HeldL]; done) | (simp only [HeldL, List.map_cons, List.map_nil, List.cons_append, List.nil_append, List.set_cons_zero, List.set_cons_succ]; (repeat' first | trivial | rfl | constructor)))) ?_
       refine any_one 3 rfl (by first | rfl | decide +kernel) rfl rfl (OpOk.step (by exact ok_append_map (fun p => .agg (PrC p)) (xs := []) (ys := z.pars) rfl ti_Lapi_Par rfl ti_api_Par (by decide) (by decide) rfl ti_Lapi_Par (by simp) rfl rfl rfl rfl rfl rfl rfl rfl rfl (by show (0 + z.pars.length) * 32 ≤ _; omega))) (.inr (by first | (simp [HeldL]; done) | (simp only [HeldL, List.map_cons, List.map_nil, List.cons_append, List.nil_append, List.set_cons_zero, List.set_cons_succ]; (repeat' first | trivial | rfl | constructor)))) ?_
       refine any_one 10 rfl (by first | rfl | decide +kernel) rfl rfl (OpOk.step (by exact ok_append_map (fun p => .agg (PrC p)) (xs := [] ++ z.pars) (ys := [(⟨x.w, x.body⟩ : Pr)]) rfl ti_Lapi_Par rfl ti_api_Par (by decide) (by decide) rfl ti_Lapi_Par (by simp) rfl rfl rfl rfl rfl rfl rfl rfl rfl (by show (z.pars.length + 1) * 32 ≤ _; omega))) (.inr (by first | (simp [HeldL]; done) | (simp only [HeldL, List.map_cons, List.map_nil, List.cons_append, List.nil_append, List.set_cons_zero, List.set_cons_succ]; (repeat' first | trivial | rfl | constructor)))) ?_
       refine any_take 11 rfl (by first | rfl | decide +kernel) rfl (by first | (simp [HeldL]; done) | (simp only [HeldL, List.map_cons, List.map_nil, List.cons_append, List.nil_append, List.set_cons_zero, List.set_cons_succ]; (repeat' first | trivial | rfl | constructor))) (fun H' hH => OpOk.step (ok_move (.inr rfl))) ?_
       refine any_done rfl ?_
       refine keepK hK21 [4, 6, 11, 12] (by dsimp) (by dsimp) ?_
       refine T.seq fun K28 hK28 => ?_
       refine T.seq fun K29 hK29 => ?_
       refine T.region ?_ -- region 17
       refine ro rfl rfl (OpOk.step (ok_move (.inl rfl))) ?_
       refine ro rfl rfl (OpOk.step (ok_len' rfl rfl ti_Lapi_Par rfl (by first | exact ints_length _ _ | exact rowsA_length _ _ | exact Cms_len _ | exact mapLen _ | rfl))) ?_
       refine ro rfl rfl (OpOk.step (ok_binOp rfl ti_int rfl)) ?_
       refine ro_nil ?_
       refine keepK hK29 [4, 6, 11, 12, 173] (by dsimp) (by dsimp) ?_
       refine T.cond rfl (fun hc => ?_) (fun hc => ?_) -- cond 6
       ·(try simp only [dE] at hc)
        refine T.region ?_ -- region 18
        refine ro rfl rfl (OpOk.step (ok_move (.inl rfl))) ?_
        refine ro rfl rfl (OpOk.step (by exact ok_slice (r := .sl 7 1 ((z.pars ++ [(⟨x.w, x.body⟩ : Pr)]).length - 1)) rfl ti_Lapi_Par (.inl ⟨_, _, rfl, ti_api_Par, rfl⟩) rfl rfl rfl (by simp [sliceA, hget]; omega))) ?_
        refine ro rfl rfl (OpOk.step (ok_move (.inr rfl))) ?_
        refine ro_nil ?_
        refine keepK hK28 [4, 6, 11, 12] (by dsimp) (by dsimp) ?_
        refine T.seq fun K30 hK30 => ?_
        refine T.region ?_ -- region 19
        refine ro rfl rfl (OpOk.step (ok_move (.inl rfl))) ?_
        refine ro rfl rfl (OpOk.step (ok_fieldAddr rfl ti_api_Zone rfl rfl ti_Lapi_Par (by decide) rfl)) ?_
        refine ro rfl rfl (OpOk.step (ok_store rfl ti_Lapi_Par (by decide) rfl rfl rfl rfl rfl (by first | exact Nat.le_of_ble_eq_true rfl | simp) (by first | exact .inl ⟨rfl, rfl⟩ | exact .inr rfl))) ?_
        refine ro_nil ?_
        refine keepK hK30 [4, 6, 11] (by dsimp) (by dsimp) ?_
        refine T.seq fun K31 hK31 => ?_
        refine T.region ?_ -- region 20
        refine ro rfl rfl (OpOk.step (ok_load rfl ti_api_Zone rfl rfl)) ?_
        refine ro rfl rfl (OpOk.step (ok_move (.inl rfl))) ?_
        refine ro rfl rfl (OpOk.step (ok_store rfl ti_api_Zone (by decide) rfl rfl rfl rfl rfl (by first | exact Nat.le_of_ble_eq_true rfl | simp) (by first | exact .inl ⟨rfl, rfl⟩ | exact .inr rfl))) ?_
        refine ro rfl rfl (OpOk.step (ok_move (.inr rfl))) ?_
        refine ro_nil ?_
        refine keepK hK31 [4, 5] (by dsimp) (by dsimp) ?_
        refine T.ret (hQ _ _ _ rfl ?_).1 -- ret 7
        exact by (rw [rz_4 (by assumption), ok_4 (by assumption)]; exact zret_sl (p := 7) (off := 1) (len := (z.pars ++ [(⟨x.w, x.body⟩ : Pr)]).length - 1) (l := (z.pars ++ [(⟨x.w, x.body⟩ : Pr)])) rfl rfl rfl (by simp only [List.length_append, List.length_singleton] at *; omega) (last2_3 (by simp only [List.length_append, List.length_singleton] at *; omega)))
       ·(try simp only [dE] at hc)
        refine T.skip ?_
        refine keepK hK28 [4, 6, 11, 12] (by dsimp) (by dsimp) ?_
        refine T.seq fun K32 hK32 => ?_
        refine T.region ?_ -- region 19
        refine ro rfl rfl (OpOk.step (ok_move (.inl rfl))) ?_
        refine ro rfl rfl (OpOk.step (ok_fieldAddr rfl ti_api_Zone rfl rfl ti_Lapi_Par (by decide) rfl)) ?_
        refine ro rfl rfl (OpOk.step (ok_store rfl ti_Lapi_Par (by decide) rfl rfl rfl rfl rfl (by first | exact Nat.le_of_ble_eq_true rfl | simp) (by first | exact .inl ⟨rfl, rfl⟩ | exact .inr rfl))) ?_
        refine ro_nil ?_
        refine keepK hK32 [4, 6, 11] (by dsimp) (by dsimp) ?_
        refine T.seq fun K33 hK33 => ?_
        refine T.region ?_ -- region 20
        refine ro rfl rfl (OpOk.step (ok_load rfl ti_api_Zone rfl rfl)) ?_
        refine ro rfl rfl (OpOk.step (ok_move (.inl rfl))) ?_
        refine ro rfl rfl (OpOk.step (ok_store rfl ti_api_Zone (by decide) rfl rfl rfl rfl rfl (by first | exact Nat.le_of_ble_eq_true rfl | simp) (by first | exact .inl ⟨rfl, rfl⟩ | exact .inr rfl))) ?_
        refine ro rfl rfl (OpOk.step (ok_move (.inr rfl))) ?_
        refine ro_nil ?_
        refine keepK hK33 [4, 5] (by dsimp) (by dsimp) ?_
        refine T.ret (hQ _ _ _ rfl ?_).1 -- ret 8
        exact by (rw [rz_4 (by assumption), ok_4 (by assumption)]; exact zret_sl (p := 7) (off := 0) (len := (z.pars ++ [(⟨x.w, x.body⟩ : Pr)]).length) (l := (z.pars ++ [(⟨x.w, x.body⟩ : Pr)])) rfl rfl rfl (by omega) (last2_le (by simp only [List.length_append, List.length_singleton] at *; omega)))
     ·
      refine step_one rfl rfl rfl (OpOk.step (ok_buildSlice (n := 1) (ps := #[(0, .tmp 168)]) rfl ti_Lapi_Par rfl ti_api_Par (by decide) rfl rfl (by decide) rfl rfl rfl)) (.inr (by first | (simp [HeldL]; done) | (simp only [HeldL, List.map_cons, List.map_nil, List.cons_append, List.nil_append, List.set_cons_zero, List.set_cons_succ]; (repeat' first | trivial | rfl | constructor)))) ?_
      refine any_one 0 rfl (by first | rfl | decide +kernel) rfl rfl (OpOk.step (ok_buildSlice (n := 0) (ps := #[]) rfl ti_Lapi_Par rfl ti_api_Par (by decide) rfl rfl (by decide) rfl rfl rfl)) (.inr (by first | (simp [HeldL]; done) | (simp only [HeldL, List.map_cons, List.map_nil, List.cons_append, List.nil_append, List.set_cons_zero, List.set_cons_succ]; (repeat' first | trivial | rfl | constructor)))) ?_
      refine any_one 3 rfl (by first | rfl | decide +kernel) rfl rfl (OpOk.step (by exact ok_append_map (fun p => .agg (PrC p)) (xs := []) (ys := z.pars) rfl ti_Lapi_Par rfl ti_api_Par (by decide) (by decide) rfl ti_Lapi_Par (by simp) rfl rfl rfl rfl rfl rfl rfl rfl rfl (by show (0 + z.pars.length) * 32 ≤ _; omega))) (.inr (by first | (simp [HeldL]; done) | (simp only [HeldL, List.map_cons, List.map_nil, List.cons_append, List.nil_append, List.set_cons_zero, List.set_cons_succ]; (repeat' first | trivial | rfl | constructor)))) ?_
      refine any_one 10 rfl (by first | rfl | decide +kernel) rfl rfl (OpOk.step (by exact ok_append_map (fun p => .agg (PrC p)) (xs := [] ++ z.pars) (ys := [(⟨x.w, x.body⟩ : Pr)]) rfl ti_Lapi_Par rfl ti_api_Par (by decide) (by decide) rfl ti_Lapi_Par (by simp) rfl rfl rfl rfl rfl rfl rfl rfl rfl (by show (z.pars.length + 1) * 32 ≤ _; omega))) (.inr (by first | (simp [HeldL]; done) | (simp only [HeldL, List.map_cons, List.map_nil, List.cons_append, List.nil_append, List.set_cons_zero, List.set_cons_succ]; (repeat' first | trivial | rfl | constructor)))) ?_
      refine any_take 11 rfl (by first | rfl | decide +kernel) rfl (by first | (simp [HeldL]; done) | (simp only [HeldL, List.map_cons, List.map_nil, List.cons_append, List.nil_append, List.set_cons_zero, List.set_cons_succ]; (repeat' first | trivial | rfl | constructor))) (fun H' hH => OpOk.step (ok_move (.inr rfl))) ?_
      refine any_done rfl ?_
      refine keepK hK21 [4, 6, 11, 12] (by dsimp) (by dsimp) ?_
      refine T.seq fun K34 hK34 => ?_
      refine T.seq fun K35 hK35 => ?_
      refine T.region ?_ -- region 17
      refine ro rfl rfl (OpOk.step (ok_move (.inl rfl))) ?_
      refine ro rfl rfl (OpOk.step (ok_len' rfl rfl ti_Lapi_Par rfl (by first | exact ints_length _ _ | exact rowsA_length _ _ | exact Cms_len _ | exact mapLen _ | rfl))) ?_
      refine ro rfl rfl (OpOk.step (ok_binOp rfl ti_int rfl)) ?_
      refine ro_nil ?_
      refine keepK hK35 [4, 6, 11, 12, 173] (by dsimp) (by dsimp) ?_
      refine T.cond rfl (fun hc => ?_) (fun hc => ?_) -- cond 7
      ·(try simp only [dE] at hc)
       refine T.region ?_ -- region 18
       refine ro rfl rfl (OpOk.step (ok_move (.inl rfl))) ?_
       refine ro rfl rfl (OpOk.step (by exact ok_slice (r := .sl 7 1 ((z.pars ++ [(⟨x.w, x.body⟩ : Pr)]).length - 1)) rfl ti_Lapi_Par (.inl ⟨_, _, rfl, ti_api_Par, rfl⟩) rfl rfl rfl (by simp [sliceA, hget]; omega))) ?_
       refine ro rfl rfl (OpOk.step (ok_move (.inr rfl))) ?_
       refine ro_nil ?_
       refine keepK hK34 [4, 6, 11, 12] (by dsimp) (by dsimp) ?_
       refine T.seq fun K36 hK36 => ?_
       refine T.region ?_ -- region 19
       refine ro rfl rfl (OpOk.step (ok_move (.inl rfl))) ?_
       refine ro rfl rfl (OpOk.step (ok_fieldAddr rfl ti_api_Zone rfl rfl ti_Lapi_Par (by decide) rfl)) ?_
       refine ro rfl rfl (OpOk.step (ok_store rfl ti_Lapi_Par (by decide) rfl rfl rfl rfl rfl (by first | exact Nat.le_of_ble_eq_true rfl | simp) (by first | exact .inl ⟨rfl, rfl⟩ | exact .inr rfl))) ?_
       refine ro_nil ?_
       refine keepK hK36 [4, 6, 11] (by dsimp) (by dsimp) ?_
       refine T.seq fun K37 hK37 => ?_
       refine T.region ?_ -- region 20
       refine ro rfl rfl (OpOk.step (ok_load rfl ti_api_Zone rfl rfl)) ?_
       refine ro rfl rfl (OpOk.step (ok_move (.inl rfl))) ?_
       refine ro rfl rfl (OpOk.step (ok_store rfl ti_api_Zone (by decide) rfl rfl rfl rfl rfl (by first | exact Nat.le_of_ble_eq_true rfl | simp) (by first | exact .inl ⟨rfl, rfl⟩ | exact .inr rfl))) ?_
       refine ro rfl rfl (OpOk.step (ok_move (.inr rfl))) ?_
       refine ro_nil ?_
       refine keepK hK37 [4, 5] (by dsimp) (by dsimp) ?_
       refine T.ret (hQ _ _ _ rfl ?_).1 -- ret 9
       exact by (rw [rz_4 (by assumption), ok_4 (by assumption)]; exact zret_sl (p := 7) (off := 1) (len := (z.pars ++ [(⟨x.w, x.body⟩ : Pr)]).length - 1) (l := (z.pars ++ [(⟨x.w, x.body⟩ : Pr)])) rfl rfl rfl (by simp only [List.length_append, List.length_singleton] at *; omega) (last2_3 (by simp only [List.length_append, List.length_singleton] at *; omega)))
      ·(try simp only [dE] at hc)
       refine T.skip ?_
       refine keepK hK34 [4, 6, 11, 12] (by dsimp) (by dsimp) ?_
       refine T.seq fun K38 hK38 => ?_
       refine T.region ?_ -- region 19
       refine ro rfl rfl (OpOk.step (ok_move (.inl rfl))) ?_
       refine ro rfl rfl (OpOk.step (ok_fieldAddr rfl ti_api_Zone rfl rfl ti_Lapi_Par (by decide) rfl)) ?_
       refine ro rfl rfl (OpOk.step (ok_store rfl ti_Lapi_Par (by decide) rfl rfl rfl rfl rfl (by first | exact Nat.le_of_ble_eq_true rfl | simp) (by first | exact .inl ⟨rfl, rfl⟩ | exact .inr rfl))) ?_
       refine ro_nil ?_
       refine keepK hK38 [4, 6, 11] (by dsimp) (by dsimp) ?_
       refine T.seq fun K39 hK39 => ?_
       refine T.region ?_ -- region 20
       refine ro rfl rfl (OpOk.step (ok_load rfl ti_api_Zone rfl rfl)) ?_
       refine ro rfl rfl (OpOk.step (ok_move (.inl rfl))) ?_
       refine ro rfl rfl (OpOk.step (ok_store rfl ti_api_Zone (by decide) rfl rfl rfl rfl rfl (by first | exact Nat.le_of_ble_eq_true rfl | simp) (by first | exact .inl ⟨rfl, rfl⟩ | exact .inr rfl))) ?_
       refine ro rfl rfl (OpOk.step (ok_move (.inr rfl))) ?_
       refine ro_nil ?_
       refine keepK hK39 [4, 5] (by dsimp) (by dsimp) ?_
       refine T.ret (hQ _ _ _ rfl ?_).1 -- ret 10
       exact by (rw [rz_4 (by assumption), ok_4 (by assumption)]; exact zret_sl (p := 7) (off := 0) (len := (z.pars ++ [(⟨x.w, x.body⟩ : Pr)]).length) (l := (z.pars ++ [(⟨x.w, x.body⟩ : Pr)])) rfl rfl rfl (by omega) (last2_le (by simp only [List.length_append, List.length_singleton] at *; omega)))
    ·(try simp only [dE] at hc)
     refine T.seq fun K40 hK40 => ?_
     refine T.region ?_ -- region 21
     refine ro rfl rfl (OpOk.step (ok_binOp rfl ti_int rfl)) ?_
     refine ro rfl rfl (OpOk.step (ok_move (.inr rfl))) ?_
     refine ro_nil ?_
     refine keepK hK40 [2, 4, 6, 180] (by dsimp) (by dsimp) ?_
     refine T.cond rfl (fun hc => ?_) (fun hc => ?_) -- cond 8
     ·(try simp only [dE] at hc)
      refine T.seq fun K41 hK41 => ?_
      refine T.region ?_ -- region 22
      refine ro rfl rfl (OpOk.step (ok_fieldAddr rfl ti_api_Zone rfl rfl ti_bool (by decide) rfl)) ?_
      refine ro rfl rfl (OpOk.step (ok_store rfl ti_bool (by decide) rfl rfl rfl rfl rfl (by first | exact Nat.le_of_ble_eq_true rfl | simp) (by first | exact .inl ⟨rfl, rfl⟩ | exact .inr rfl))) ?_
      refine ro_nil ?_
      refine keepK hK41 [2, 4, 6] (by dsimp) (by dsimp) ?_
      refine T.seq fun K42 hK42 => ?_
      refine T.draw mixed (SH [] (HeldL ([some (StB s), some (RcB x), none, some (ZnB { z with whole := true })]))) ?_ -- region 23
      refine any_take 0 rfl (by first | rfl | decide +kernel) rfl (by first | (simp [HeldL]; done) | (simp only [HeldL, List.map_cons, List.map_nil, List.cons_append, List.nil_append, List.set_cons_zero, List.set_cons_succ]; (repeat' first | trivial | rfl | constructor))) (fun H' hH => OpOk.step (ok_load rfl ti_api_Zone (locA_held hH rfl) rfl)) ?_
      refine any_take 1 rfl (by first | rfl | decide +kernel) rfl (by first | (simp [HeldL]; done) | (simp only [HeldL, List.map_cons, List.map_nil, List.cons_append, List.nil_append, List.set_cons_zero, List.set_cons_succ]; (repeat' first | trivial | rfl | constructor))) (fun H' hH => OpOk.step (ok_fieldAddr rfl ti_api_Zone rfl rfl ti_int (by decide) rfl)) ?_
      refine any_take 2 rfl (by first | rfl | decide +kernel) rfl (by first | (simp [HeldL]; done) | (simp only [HeldL, List.map_cons, List.map_nil, List.cons_append, List.nil_append, List.set_cons_zero, List.set_cons_succ]; (repeat' first | trivial | rfl | constructor))) (fun H' hH => OpOk.step (ok_load rfl ti_int (locA_held hH rfl) rfl)) ?_
      refine any_take 3 rfl (by first | rfl | decide +kernel) rfl (by first | (simp [HeldL]; done) | (simp only [HeldL, List.map_cons, List.map_nil, List.cons_append, List.nil_append, List.set_cons_zero, List.set_cons_succ]; (repeat' first | trivial | rfl | constructor))) (fun H' hH => OpOk.step (ok_binOp rfl ti_int rfl)) ?_
      refine any_take_case 4 rfl (by first | rfl | decide +kernel) rfl (by first | (simp [HeldL]; done) | (simp only [HeldL, List.map_cons, List.map_nil, List.cons_append, List.nil_append, List.set_cons_zero, List.set_cons_succ]; (repeat' first | trivial | rfl | constructor))) (fun H' hH => OpOk.step (ok_moveb (.inl rfl) rfl)) (fun hb => ?_) (fun hb => ?_)
      ·(try simp only [dE] at hb)
       refine any_take 5 rfl (by first | rfl | decide +kernel) rfl (by first | (simp [HeldL]; done) | (simp only [HeldL, List.map_cons, List.map_nil, List.cons_append, List.nil_append, List.set_cons_zero, List.set_cons_succ]; (repeat' first | trivial | rfl | constructor))) (fun H' hH => OpOk.step (ok_load rfl ti_api_State (locA_held hH rfl) rfl)) ?_
       refine any_one 6 rfl (by first | rfl | decide +kernel) rfl rfl (ok_call rfl rfl rfl ((rreb_ok s (by omega)).plain (by simp [renL, AV.ren, StC_take, StC_ren]) rfl)) (.inr (by first | (simp [HeldL]; done) | (simp only [HeldL, List.map_cons, List.map_nil, List.cons_append, List.nil_append, List.set_cons_zero, List.set_cons_succ]; (repeat' first | trivial | rfl | constructor)))) ?_
       refine any_take 7 rfl (by first | rfl | decide +kernel) rfl (by first | (simp [HeldL]; done) | (simp only [HeldL, List.map_cons, List.map_nil, List.cons_append, List.nil_append, List.set_cons_zero, List.set_cons_succ]; (repeat' first | trivial | rfl | constructor))) (fun H' hH => OpOk.step (ok_pick rfl rfl)) ?_
       refine any_one 8 rfl (by first | rfl | decide +kernel) rfl rfl (OpOk.step (ok_store rfl ti_api_Zone (by decide) rfl rfl rfl rfl rfl (by first | exact Nat.le_of_ble_eq_true rfl | simp) (by first | exact .inl ⟨rfl, rfl⟩ | exact .inr rfl))) (.inr (by first | (simp [HeldL]; done) | (simp only [HeldL, List.map_cons, List.map_nil, List.cons_append, List.nil_append, List.set_cons_zero, List.set_cons_succ]; (repeat' first | trivial | rfl | constructor)))) ?_
       refine any_take 9 rfl (by first | rfl | decide +kernel) rfl (by first | (simp [HeldL]; done) | (simp only [HeldL, List.map_cons, List.map_nil, List.cons_append, List.nil_append, List.set_cons_zero, List.set_cons_succ]; (repeat' first | trivial | rfl | constructor))) (fun H' hH => OpOk.step (ok_move (.inr rfl))) ?_
       refine any_done rfl ?_
       refine keepK hK42 [4, 5] (by dsimp) (by dsimp) ?_
       refine T.ret (hQ _ _ _ rfl ?_).1 -- ret 11
       exact by (rw [rz_5 (by assumption), ok_5 (by assumption), show decide (Z5 (decide (2 ∈ s.st)) z) = decide (2 ∈ s.st) by rw [decide_eq_decide]; unfold Z5; exact ⟨fun h => by simpa using h.2, fun h => ⟨by omega, by simpa using h⟩⟩]; exact zret rfl rfl)
      ·(try simp only [dE] at hb)
       refine any_skip 5 rfl (by first | rfl | decide +kernel) rfl (by first | (simp [HeldL]; done) | (simp only [HeldL, List.map_cons, List.map_nil, List.cons_append, List.nil_append, List.set_cons_zero, List.set_cons_succ]; (repeat' first | trivial | rfl | constructor))) ?_
       refine any_one_skip 6 rfl (by first | rfl | decide +kernel) rfl rfl (.inr (by first | (simp [HeldL]; done) | (simp only [HeldL, List.map_cons, List.map_nil, List.cons_append, List.nil_append, List.set_cons_zero, List.set_cons_succ]; (repeat' first | trivial | rfl | constructor)))) ?_
       refine any_take 7 rfl (by first | rfl | decide +kernel) rfl (by first | (simp [HeldL]; done) | (simp only [HeldL, List.map_cons, List.map_nil, List.cons_append, List.nil_append, List.set_cons_zero, List.set_cons_succ]; (repeat' first | trivial | rfl | constructor))) (fun H' hH => OpOk.step (ok_pickb (t := false) (d := false) rfl rfl rfl)) ?_
       refine any_one 8 rfl (by first | rfl | decide +kernel) rfl rfl (OpOk.step (ok_store rfl ti_api_Zone (by decide) rfl rfl rfl rfl rfl (by first | exact Nat.le_of_ble_eq_true rfl | simp) (by first | exact .inl ⟨rfl, rfl⟩ | exact .inr rfl))) (.inr (by first | (simp [HeldL]; done) | (simp only [HeldL, List.map_cons, List.map_nil, List.cons_append, List.nil_append, List.set_cons_zero, List.set_cons_succ]; (repeat' first | trivial | rfl | constructor)))) ?_
       refine any_take 9 rfl (by first | rfl | decide +kernel) rfl (by first | (simp [HeldL]; done) | (simp only [HeldL, List.map_cons, List.map_nil, List.cons_append, List.nil_append, List.set_cons_zero, List.set_cons_succ]; (repeat' first | trivial | rfl | constructor))) (fun H' hH => OpOk.step (ok_moveb (c := false) (.inr rfl) rfl)) ?_
       refine any_done rfl ?_
       refine keepK hK42 [4, 5] (by dsimp) (by dsimp) ?_
       refine T.ret (hQ _ _ _ rfl ?_).1 -- ret 12
       exact by (rw [rz_5 (by assumption), ok_5 (by assumption), decide_eq_false (fun h => by have := hrz.2.1; have := h.1; omega)]; exact zret rfl rfl)
     ·(try simp only [dE] at hc)
      refine T.skip ?_
      refine keepK hK4 [4, 6] (by dsimp) (by dsimp) ?_
      refine T.seq fun K43 hK43 => ?_
      refine T.region ?_ -- region 24
      refine ro rfl rfl (OpOk.step (ok_load rfl ti_api_Zone rfl rfl)) ?_
      refine ro rfl rfl (OpOk.step (ok_store rfl ti_api_Zone (by decide) rfl rfl rfl rfl rfl (by first | exact Nat.le_of_ble_eq_true rfl | simp) (by first | exact .inl ⟨rfl, rfl⟩ | exact .inr rfl))) ?_
      refine ro rfl rfl (OpOk.step (ok_moveb (c := false) (.inr rfl) rfl)) ?_
      refine ro_nil ?_
      refine keepK hK43 [4, 5] (by dsimp) (by dsimp) ?_
      refine T.ret (hQ _ _ _ rfl ?_).1 -- ret 13
      exact by (rw [rz_no (by assumption) (by assumption) (by assumption) (by assumption) (by assumption), stepZ_no (by assumption) (by assumption) (by assumption) (by assumption) (by assumption)]; exact zret rfl rfl)
end Go.Proofs.Ytlegolcbjjjofaa.AmF
