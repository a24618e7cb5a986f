/- Walks over the abstract machine: states of the log: a zone, by a record. -/
import Derived.Test.YtlegolcbjjjofaaAfState7
namespace Go.Proofs.Ytlegolcbjjjofaa.AmF
open Go Go.AM
set_option maxRecDepth 100000
set_option maxHeartbeats 4000000
set_option linter.unusedSimpArgs false
set_option linter.unusedVariables false
attribute [local simp] tkeep tget tput ev cav argsTM pickA normT putA splice AV.cells ints_length rowsA_length Prs_len Zns_len
def Z1 (c : Cf) (zs : List Zn) (z : Zn) (x : Rc) : Prop := z.slot = -1 ∧ z.full = false ∧ z.gen = x.gen ∧ x.slot ∈ freeZ c zs
def Z2 (z : Zn) (x : Rc) : Prop := x.gen = z.gen + 1 ∧ x.gen ≤ 1099511627776
def Z3 (c : Cf) (z : Zn) (x : Rc) : Prop := z.full = false ∧ (0 ≤ x.w ∧ x.w ≤ sizeC c) ∧ (z.slot = -1 → x.w = 0)
def Z4 (c : Cf) (z : Zn) (x : Rc) : Prop := z.slot ≠ -1 ∧ z.full = false ∧ z.gen = x.gen ∧ (1 ≤ x.w ∧ x.w ≤ sizeC c) ∧ (x.body.length : Int) = c.unit * c.blk
def Z5 (rb : Bool) (z : Zn) : Prop := z.slot ≠ -1 ∧ rb = true
instance (c : Cf) (zs : List Zn) (z : Zn) (x : Rc) : Decidable (Z1 c zs z x) := by unfold Z1; infer_instance
instance (z : Zn) (x : Rc) : Decidable (Z2 z x) := by unfold Z2; infer_instance
instance (c : Cf) (z : Zn) (x : Rc) : Decidable (Z3 c z x) := by unfold Z3; infer_instance
instance (c : Cf) (z : Zn) (x : Rc) : Decidable (Z4 c z x) := by unfold Z4; infer_instance
instance (rb : Bool) (z : Zn) : Decidable (Z5 rb z) := by unfold Z5; infer_instance
/-- The last two. -/
def last2 (l : List Pr) : List Pr := l.drop (l.length - 2)
/-- A zone, by a record. -/
def stepZ (c : Cf) (zs : List Zn) (rb : Bool) (z : Zn) (x : Rc) : Option Zn :=
  if x.kind = 1 then (if Z1 c zs z x then some { z with slot := x.slot, whole := rb } else none)
  else if x.kind = 2 then (if Z2 z x then some ⟨x.gen, -1, false, 0, false, []⟩ else none)
  else if x.kind = 3 then (if Z3 c z x then some { z with full := true, w := x.w } else none)
  else if x.kind = 4 then (if Z4 c z x then some { z with pars := last2 (z.pars ++ [⟨x.w, x.body⟩]) } else none)
  else if x.kind = 5 then (if Z5 rb z then some { z with whole := true } else none)
  else none
section
variable {c : Cf} {zs : List Zn} {rb : Bool} {z : Zn} {x : Rc}
theorem stepZ_1 (h : x.kind = 1) : stepZ c zs rb z x = if Z1 c zs z x then some { z with slot := x.slot, whole := rb } else none := if_pos h
theorem stepZ_2 (h : x.kind = 2) : stepZ c zs rb z x = if Z2 z x then some ⟨x.gen, -1, false, 0, false, []⟩ else none := by unfold stepZ; rw [if_neg (by omega), if_pos h]
theorem stepZ_3 (h : x.kind = 3) : stepZ c zs rb z x = if Z3 c z x then some { z with full := true, w := x.w } else none := by unfold stepZ; rw [if_neg (by omega), if_neg (by omega), if_pos h]
theorem stepZ_4 (h : x.kind = 4) : stepZ c zs rb z x = if Z4 c z x then some { z with pars := last2 (z.pars ++ [⟨x.w, x.body⟩]) } else none := by unfold stepZ; rw [if_neg (by omega), if_neg (by omega), if_neg (by omega), if_pos h]
theorem stepZ_5 (h : x.kind = 5) : stepZ c zs rb z x = if Z5 rb z then some { z with whole := true } else none := by unfold stepZ; rw [if_neg (by omega), if_neg (by omega), if_neg (by omega), if_neg (by omega), if_pos h]
theorem stepZ_no (h : ¬ x.kind = 1) (h2 : ¬ x.kind = 2) (h3 : ¬ x.kind = 3) (h4 : ¬ x.kind = 4) (h5 : ¬ x.kind = 5) : stepZ c zs rb z x = none := by unfold stepZ; rw [if_neg h, if_neg h2, if_neg h3, if_neg h4, if_neg h5]
end
/-- The zones' row, of which one is told in another way. -/
def ZR (zs : List Zn) (j : Nat) (c : List AV) : Blk := ⟨6, true, (Zns zs).set j (.agg c)⟩
theorem ZR_get {zs : List Zn} {j : Nat} {c : List AV} (hj : j < zs.length) : (ZR zs j c).els[j]? = some (.agg c) := by
  show ((Zns zs).set j (.agg c))[j]? = _
  rw [List.getElem?_set, if_pos rfl, if_pos (by simpa using hj)]
theorem ZR_loc {H : Heap} {zs : List Zn} {j f : Nat} {x : AV} {c : List AV} (hj : j < zs.length) (hb : hget H 1 = some (ZR zs j (x :: c))) : locA H (.ref 1 j f) = some (x :: c, f) := by
  simp [locA, hb, ZR_get hj, AV.cells]
theorem ZR_set {zs : List Zn} {j : Nat} {c c' : List AV} : some (⟨6, true, (ZR zs j c).els.set j (.agg c')⟩ : Blk) = some (ZR zs j c') := by
  simp [ZR, List.set_set]
theorem Ent_last2 {H : Heap} {p : Nat} {l : List Pr} (hb : hget H p = some ⟨2, false, Prs l⟩) : Ent H (.sl p (l.length - 2) (l.length - (l.length - 2))) (.fz 2 (Prs (last2 l))) := by
  have h := Ent.sl (H := H) (id := p) (off := l.length - 2) (len := l.length - (l.length - 2)) (b := ⟨2, false, Prs l⟩) hb rfl (by simp)
  rw [show Prs (last2 l) = ((Prs l).drop (l.length - 2)).take (l.length - (l.length - 2)) by
    unfold last2 Prs
    rw [List.map_drop, List.take_of_length_le (by simp)]]
  exact h
theorem freeZ_len (c : Cf) (zs : List Zn) : (freeZ c zs).length ≤ 140737488355328 := by
  have h1 := slots_bd c
  have h2 : freeZ c zs = freeK zs (slotsC c).toNat := rfl
  rw [h2]
  have := freeK_len zs (slotsC c).toNat
  omega
theorem ch_end {tm tm' : TM} {H : Heap} {st : List Int} {zs : List Zn} {j p : Nat} {z' : Zn} {P : AV} {l : List Pr} (hj : j < zs.length) (h0 : hget H 0 = some ⟨1, true, ints .i64 st⟩) (h1 : hget H 1 = some (ZR zs j (ZnS z' P))) (hp : hget H p = some ⟨2, true, Prs l⟩) (hp2 : 2 ≤ p) (hP : Ent (H.set p (some ⟨2, false, Prs l⟩)) P (.fz 2 (Prs z'.pars))) (hT : AllGet (normT [0, 1, 2] tm) tm') : TEnt 3 tm H tm' [some ⟨1, true, ints .i64 st⟩, some ⟨6, true, Zns (zs.set j z')⟩, none] := by
  have hpl := hget_lt hp
  have h1l := hget_lt h1
  refine (TEnt.freeze p hp).trans ?_
  have h1' : hget (H.set p (some ⟨2, false, Prs l⟩)) 1 = some (ZR zs j (ZnS z' P)) := by rw [hget_set, if_neg (by omega)]; exact h1
  have h0' : hget (H.set p (some ⟨2, false, Prs l⟩)) 0 = some ⟨1, true, ints .i64 st⟩ := by rw [hget_set, if_neg (by omega)]; exact h0
  have hE : EntL (H.set p (some ⟨2, false, Prs l⟩)) (ZR zs j (ZnS z' P)).els (Zns (zs.set j z')) := by
    have h2 : EntL (H.set p (some ⟨2, false, Prs l⟩)) (ZR zs j (ZnS z' P)).els ((ZR zs j (ZnS z' P)).els.set j (.agg (ZnC z'))) := EntL.set j (ZR_get hj) (Ent.agg (EntL.cons (Ent.refl _) (EntL.cons (Ent.refl _) (EntL.cons (Ent.refl _) (EntL.cons (Ent.refl _) (EntL.cons (Ent.refl _) (EntL.cons hP EntL.nil)))))))
    rw [show (ZR zs j (ZnS z' P)).els.set j (.agg (ZnC z')) = Zns (zs.set j z') by show ((Zns zs).set j _).set j _ = _; rw [List.set_set, Zns_set]] at h2
    exact h2
  refine (TEnt.blk 1 (l' := Zns (zs.set j z')) h1' (by simp [ZR]) hE).trans ((TEnt.forget 2).trans (TEnt.fin [0, 1, 2] (by decide) src3 ?_ hT))
  simp only [normH, List.map_cons, List.map_nil]
  refine heap3 ?_ ?_ ?_
  · rw [hget_set, if_neg (by omega), hget_set, if_neg (by omega), h0']; exact ib_ren _ _
  · rw [hget_set, if_neg (by omega), hget_set, if_pos ⟨rfl, by simpa using h1l⟩]; exact znb_ren _ _
  · by_cases h3 : 2 < H.length
    · rw [hget_set, if_pos ⟨rfl, by simpa using h3⟩]; rfl
    · rw [hget_set, if_neg (by simp; omega), hget_set, if_neg (by omega), hget_set, if_neg (by omega)]
      cases h4 : hget H 2 with
      | none => rfl
      | some b => exact absurd (hget_lt h4) h3
theorem schange_ok (s : St) (x : Rc) (j : Nat) (z : Zn) (hz : s.zs[j]? = some z) (hck : chkC s.c = 0) (hzg : 0 ≤ z.gen ∧ z.gen ≤ 1099511627776) (hn : s.st.length ≤ 1000000000) (hm : s.zs.length ≤ 1000000000) (hp : z.pars.length ≤ 1000000) (hb : x.body.length ≤ 140737488355328) : CSpec Try.prog 63 [⟨1, true, ints .i64 s.st⟩, ZR s.zs j (ZnS z (.sl 2 0 z.pars.length)), ⟨2, true, Prs z.pars⟩] [.agg (StS s (.sl 0 0 s.st.length) (.sl 1 0 s.zs.length)), .ref 1 j 0, .agg (RcC x)] [some ⟨1, true, ints .i64 s.st⟩, some ⟨6, true, Zns (s.zs.set j ((stepZ s.c s.zs (decide (2 ∈ s.st)) z x).getD z))⟩, none] (.b (stepZ s.c s.zs (decide (2 ∈ s.st)) z x).isSome) := by
 have hj : j < s.zs.length := (List.getElem?_eq_some_iff.1 hz).1
 have hsz := (size_bd s.c).2.2.2.2
 have hfl : (freeZ s.c s.zs).length ≤ 140737488355328 := freeZ_len _ _
 refine CSpec.body Try.func63 rfl rfl rfl rfl rfl fun Q hQ => ?_
 refine T.seq fun K1 hK1 => ?_
 refine T.region ?_ -- region 0
 refine ro rfl rfl (OpOk.step (ok_box (n := 15) rfl rfl (by decide))) ?_
 refine ro rfl rfl (OpOk.step (ok_box (n := 10) rfl rfl (by decide))) ?_
 refine ro rfl rfl (OpOk.step (ok_moveb (c := false) (.inr rfl) rfl)) ?_
 refine ro_nil ?_
 refine keepK hK1 [1, 3, 5] (by dsimp) (by dsimp) ?_
 refine T.seq fun K2 hK2 => ?_
 refine T.region ?_ -- region 1
 refine ro rfl rfl (OpOk.step (ok_fieldAddr rfl ti_api_State rfl rfl ti_Lint (by decide) rfl)) ?_
 refine ro rfl rfl (OpOk.step (ok_load rfl ti_Lint rfl rfl)) ?_
 refine ro rfl rfl (ok_call rfl rfl rfl ((contains_ok s.st 2 (by omega)).lendV (EntL.cons (Ent.lent 0 1 (ints .i64 s.st) rfl (by simp)) (EntL.refl _)) (by simp [renL, AV.ren, renL_ints]))) ?_
 refine ro rfl rfl (OpOk.step (ok_move (.inr rfl))) ?_
 refine ro_nil ?_
 refine keepK hK2 [1, 3, 5, 7] (by dsimp) (by dsimp) ?_
 refine T.seq fun K3 hK3 => ?_
 refine T.region ?_ -- region 2
 refine ro rfl rfl (OpOk.step (ok_fieldAddr rfl ti_api_State rfl rfl ti_api_Conf (by decide) rfl)) ?_
 refine ro rfl rfl (OpOk.step (ok_load rfl ti_api_Conf rfl rfl)) ?_
 refine ro rfl rfl (ok_call rfl rfl rfl ((size_ok s.c).plain (by show renL _ [.agg (CC s.c)] = _; simp [renL, AV.ren, CC_ren]) rfl)) ?_
 refine ro rfl rfl (OpOk.step (ok_move (.inr rfl))) ?_
 refine ro_nil ?_
 refine keepK hK3 [1, 3, 5, 7, 8] (by dsimp) (by dsimp) ?_
 refine T.seq fun K4 hK4 => ?_
 refine T.seq fun K5 hK5 => ?_
 refine T.region ?_ -- region 3
 refine ro rfl rfl (OpOk.step (ok_fieldAddr rfl ti_api_Rec rfl rfl ti_int (by decide) rfl)) ?_
 refine ro rfl rfl (OpOk.step (ok_load rfl ti_int rfl rfl)) ?_
 refine ro_nil ?_
 refine keepK hK5 [1, 3, 5, 7, 8, 16] (by dsimp) (by dsimp) ?_
 refine T.block ?_
 refine T.seq fun K6 hK6 => ?_
 refine T.block ?_
 refine T.block ?_
 refine T.seq fun K7 hK7 => ?_
 refine T.block ?_
 refine T.seq fun K8 hK8 => ?_
 refine T.block ?_
 refine T.seq fun K9 hK9 => ?_
 refine T.block ?_
 refine T.seq fun K10 hK10 => ?_
 refine T.block ?_
 refine T.seq fun K11 hK11 => ?_
 refine T.block ?_
 refine T.seq fun K12 hK12 => ?_
 refine T.seq fun K13 hK13 => ?_
 refine T.seq fun K14 hK14 => ?_
 refine T.region ?_ -- region 4
 refine ro rfl rfl (OpOk.step (ok_binOp rfl ti_int rfl)) ?_
 refine ro rfl rfl (OpOk.step (ok_move (.inr rfl))) ?_
 refine ro_nil ?_
 refine keepK hK14 [1, 3, 5, 7, 8, 16, 17] (by dsimp) (by dsimp) ?_
 refine T.cond rfl (fun hc => ?_) (fun hc => ?_) -- cond 1
 ·(try simp only [dE] at hc)
  refine T.exit ?_
  refine keepK hK11 [1, 3, 5, 7] (by dsimp) (by dsimp) ?_
  refine T.seq fun K15 hK15 => ?_
  refine T.seq fun K16 hK16 => ?_
  refine T.seq fun K17 hK17 => ?_
  refine T.drawH mixed [] ?_ -- region 10
  refine any_take 0 rfl (by first | rfl | decide +kernel) rfl (HeldL.refl _) (fun H' hH => OpOk.step (ok_move (.inl rfl))) ?_
  refine any_take 1 rfl (by first | rfl | decide +kernel) rfl (HeldL.refl _) (fun H' hH => OpOk.step (ok_nilCheck rfl rfl)) ?_
  refine any_take 2 rfl (by first | rfl | decide +kernel) rfl (HeldL.refl _) (fun H' hH => OpOk.step (ok_fieldAddr rfl ti_api_Zone rfl rfl ti_int (by decide) rfl)) ?_
  refine any_take 3 rfl (by first | rfl | decide +kernel) rfl (HeldL.refl _) (fun H' hH => OpOk.step (by exact ok_load rfl ti_int (cl := ZnS z (.sl 2 0 z.pars.length)) (f := 1) (locA_held hH (ZR_loc hj rfl)) rfl)) ?_
  refine any_take 4 rfl (by first | rfl | decide +kernel) rfl (HeldL.refl _) (fun H' hH => OpOk.step (ok_binOp rfl ti_int rfl)) ?_
  refine any_take_case 5 rfl (by first | rfl | decide +kernel) rfl (HeldL.refl _) (fun H' hH => OpOk.step (ok_moveb (.inl rfl) rfl)) (fun hb => ?_) (fun hb => ?_)
  ·(try simp only [dE] at hb)
   refine any_skip 6 rfl (by first | rfl | decide +kernel) rfl (HeldL.refl _) ?_
   refine any_skip 7 rfl (by first | rfl | decide +kernel) rfl (HeldL.refl _) ?_
   refine any_skip 8 rfl (by first | rfl | decide +kernel) rfl (HeldL.refl _) ?_
   refine any_skip 9 rfl (by first | rfl | decide +kernel) rfl (HeldL.refl _) ?_
   refine any_take 10 rfl (by first | rfl | decide +kernel) rfl (HeldL.refl _) (fun H' hH => OpOk.step (ok_pickb (t := true) (d := true) rfl rfl rfl)) ?_
   refine any_take 11 rfl (by first | rfl | decide +kernel) rfl (HeldL.refl _) (fun H' hH => OpOk.step (ok_moveb (c := true) (.inl rfl) rfl)) ?_
   refine any_skip 12 rfl (by first | rfl | decide +kernel) rfl (HeldL.refl _) ?_
   refine any_skip 13 rfl (by first | rfl | decide +kernel) rfl (HeldL.refl _) ?_
   refine any_skip 14 rfl (by first | rfl | decide +kernel) rfl (HeldL.refl _) ?_
   refine any_skip 15 rfl (by first | rfl | decide +kernel) rfl (HeldL.refl _) ?_
   refine any_skip 16 rfl (by first | rfl | decide +kernel) rfl (HeldL.refl _) ?_
   refine any_skip 17 rfl (by first | rfl | decide +kernel) rfl (HeldL.refl _) ?_
   refine any_skip 18 rfl (by first | rfl | decide +kernel) rfl (HeldL.refl _) ?_
   refine any_take 19 rfl (by first | rfl | decide +kernel) rfl (HeldL.refl _) (fun H' hH => OpOk.step (ok_pickb (t := true) (d := true) rfl rfl rfl)) ?_
   refine any_take 20 rfl (by first | rfl | decide +kernel) rfl (HeldL.refl _) (fun H' hH => OpOk.step (ok_moveb (c := true) (.inl rfl) rfl)) ?_
   refine any_skip 21 rfl (by first | rfl | decide +kernel) rfl (HeldL.refl _) ?_
   refine any_skip 23 rfl (by first | rfl | decide +kernel) rfl (HeldL.refl _) ?_
   refine any_skip 24 rfl (by first | rfl | decide +kernel) rfl (HeldL.refl _) ?_
   refine any_one_skip 22 rfl (by first | rfl | decide +kernel) rfl rfl (.inr (HeldL.refl _)) ?_
   refine any_one_skip 25 rfl (by first | rfl | decide +kernel) rfl rfl (.inr (by first | exact HeldL.refl _ | exact HeldL.append _ _ | simp [HeldL])) ?_
   refine any_skip 26 rfl (by first | rfl | decide +kernel) rfl (by first | exact HeldL.refl _ | exact HeldL.append _ _ | simp [HeldL]) ?_
   refine any_take 27 rfl (by first | rfl | decide +kernel) rfl (by first | exact HeldL.refl _ | exact HeldL.append _ _ | simp [HeldL]) (fun H' hH => OpOk.step (ok_pickb (t := true) (d := true) rfl rfl rfl)) ?_
   refine any_done rfl ?_
   refine keepK hK17 [1, 5, 7, 56] (by dsimp) (by dsimp) ?_
   refine T.cond_true rfl ?_
   refine T.seq fun K18 hK18 => ?_
   refine T.region ?_ -- region 11
   refine ro rfl rfl (OpOk.step (ok_moveb (c := false) (.inr rfl) rfl)) ?_
   refine ro_nil ?_
   refine keepK hK18 [6] (by dsimp) (by dsimp) ?_
   refine T.ret (hQ _ _ _ rfl ?_).1 -- ret 1
   exact by (rw [stepZ_1 (by assumption), if_neg (by unfold Z1; intro h; obtain ⟨h1, h2, h3, h4⟩ := h; first | omega | (simp_all; done))]; exact ch_end (z' := z) (p := 2) (l := z.pars) hj rfl rfl rfl (by decide) (Ent.sl0 (b := ⟨2, false, Prs z.pars⟩) rfl rfl (by simp)) ⟨rfl, trivial⟩)
  ·(try simp only [dE] at hb)
   refine any_take 6 rfl (by first | rfl | decide +kernel) rfl (HeldL.refl _) (fun H' hH => OpOk.step (ok_move (.inl rfl))) ?_
   refine any_take 7 rfl (by first | rfl | decide +kernel) rfl (HeldL.refl _) (fun H' hH => OpOk.step (ok_nilCheck rfl rfl)) ?_
   refine any_take 8 rfl (by first | rfl | decide +kernel) rfl (HeldL.refl _) (fun H' hH => OpOk.step (ok_fieldAddr rfl ti_api_Zone rfl rfl ti_bool (by decide) rfl)) ?_
   refine any_take 9 rfl (by first | rfl | decide +kernel) rfl (HeldL.refl _) (fun H' hH => OpOk.step (by exact ok_load rfl ti_bool (cl := ZnS z (.sl 2 0 z.pars.length)) (f := 2) (locA_held hH (ZR_loc hj rfl)) rfl)) ?_
   refine any_take 10 rfl (by first | rfl | decide +kernel) rfl (HeldL.refl _) (fun H' hH => OpOk.step (ok_pick rfl rfl)) ?_
   refine any_take_case 11 rfl (by first | rfl | decide +kernel) rfl (HeldL.refl _) (fun H' hH => OpOk.step (ok_moveb (.inl rfl) rfl)) (fun hb => ?_) (fun hb => ?_)
   ·(try simp only [dE] at hb)
    refine any_skip 12 rfl (by first | rfl | decide +kernel) rfl (HeldL.refl _) ?_
    refine any_skip 13 rfl (by first | rfl | decide +kernel) rfl (HeldL.refl _) ?_
    refine any_skip 14 rfl (by first | rfl | decide +kernel) rfl (HeldL.refl _) ?_
    refine any_skip 15 rfl (by first | rfl | decide +kernel) rfl (HeldL.refl _) ?_
    refine any_skip 16 rfl (by first | rfl | decide +kernel) rfl (HeldL.refl _) ?_
    refine any_skip 17 rfl (by first | rfl | decide +kernel) rfl (HeldL.refl _) ?_
    refine any_skip 18 rfl (by first | rfl | decide +kernel) rfl (HeldL.refl _) ?_
    refine any_take 19 rfl (by first | rfl | decide +kernel) rfl (HeldL.refl _) (fun H' hH => OpOk.step (ok_pickb (t := true) (d := true) rfl rfl rfl)) ?_
    refine any_take 20 rfl (by first | rfl | decide +kernel) rfl (HeldL.refl _) (fun H' hH => OpOk.step (ok_moveb (c := true) (.inl rfl) rfl)) ?_
    refine any_skip 21 rfl (by first | rfl | decide +kernel) rfl (HeldL.refl _) ?_
    refine any_skip 23 rfl (by first | rfl | decide +kernel) rfl (HeldL.refl _) ?_
    refine any_skip 24 rfl (by first | rfl | decide +kernel) rfl (HeldL.refl _) ?_
    refine any_one_skip 22 rfl (by first | rfl | decide +kernel) rfl rfl (.inr (HeldL.refl _)) ?_
    refine any_one_skip 25 rfl (by first | rfl | decide +kernel) rfl rfl (.inr (by first | exact HeldL.refl _ | exact HeldL.append _ _ | simp [HeldL])) ?_
    refine any_skip 26 rfl (by first | rfl | decide +kernel) rfl (by first | exact HeldL.refl _ | exact HeldL.append _ _ | simp [HeldL]) ?_
    refine any_take 27 rfl (by first | rfl | decide +kernel) rfl (by first | exact HeldL.refl _ | exact HeldL.append _ _ | simp [HeldL]) (fun H' hH => OpOk.step (ok_pickb (t := true) (d := true) rfl rfl rfl)) ?_
    refine any_done rfl ?_
    refine keepK hK17 [1, 5, 7, 56] (by dsimp) (by dsimp) ?_
    refine T.cond_true rfl ?_
    refine T.seq fun K19 hK19 => ?_
    refine T.region ?_ -- region 11
    refine ro rfl rfl (OpOk.step (ok_moveb (c := false) (.inr rfl) rfl)) ?_
    refine ro_nil ?_
    refine keepK hK19 [6] (by dsimp) (by dsimp) ?_
    refine T.ret (hQ _ _ _ rfl ?_).1 -- ret 2
    exact by (rw [stepZ_1 (by assumption), if_neg (by unfold Z1; intro h; obtain ⟨h1, h2, h3, h4⟩ := h; first | omega | (simp_all; done))]; exact ch_end (z' := z) (p := 2) (l := z.pars) hj rfl rfl rfl (by decide) (Ent.sl0 (b := ⟨2, false, Prs z.pars⟩) rfl rfl (by simp)) ⟨rfl, trivial⟩)
   ·(try simp only [dE] at hb)
    refine any_take 12 rfl (by first | rfl | decide +kernel) rfl (HeldL.refl _) (fun H' hH => OpOk.step (ok_move (.inl rfl))) ?_
    refine any_take 13 rfl (by first | rfl | decide +kernel) rfl (HeldL.refl _) (fun H' hH => OpOk.step (ok_nilCheck rfl rfl)) ?_
    refine any_take 14 rfl (by first | rfl | decide +kernel) rfl (HeldL.refl _) (fun H' hH => OpOk.step (ok_fieldAddr rfl ti_api_Zone rfl rfl ti_int (by decide) rfl)) ?_
    refine any_take 15 rfl (by first | rfl | decide +kernel) rfl (HeldL.refl _) (fun H' hH => OpOk.step (by exact ok_load rfl ti_int (cl := ZnS z (.sl 2 0 z.pars.length)) (f := 0) (locA_held hH (ZR_loc hj rfl)) rfl)) ?_
    refine any_take 16 rfl (by first | rfl | decide +kernel) rfl (HeldL.refl _) (fun H' hH => OpOk.step (ok_fieldAddr rfl ti_api_Rec rfl rfl ti_int (by decide) rfl)) ?_
    refine any_take 17 rfl (by first | rfl | decide +kernel) rfl (HeldL.refl _) (fun H' hH => OpOk.step (ok_load rfl ti_int (locA_held hH rfl) rfl)) ?_
    refine any_take 18 rfl (by first | rfl | decide +kernel) rfl (HeldL.refl _) (fun H' hH => OpOk.step (ok_binOp rfl ti_int rfl)) ?_
    refine any_take 19 rfl (by first | rfl | decide +kernel) rfl (HeldL.refl _) (fun H' hH => OpOk.step (ok_pick rfl rfl)) ?_
    refine any_take_case 20 rfl (by first | rfl | decide +kernel) rfl (HeldL.refl _) (fun H' hH => OpOk.step (ok_moveb (.inl rfl) rfl)) (fun hb => ?_) (fun hb => ?_)
    ·(try simp only [dE] at hb)
     refine any_skip 21 rfl (by first | rfl | decide +kernel) rfl (HeldL.refl _) ?_
     refine any_skip 23 rfl (by first | rfl | decide +kernel) rfl (HeldL.refl _) ?_
     refine any_skip 24 rfl (by first | rfl | decide +kernel) rfl (HeldL.refl _) ?_
     refine any_one_skip 22 rfl (by first | rfl | decide +kernel) rfl rfl (.inr (HeldL.refl _)) ?_
     refine any_one_skip 25 rfl (by first | rfl | decide +kernel) rfl rfl (.inr (by first | exact HeldL.refl _ | exact HeldL.append _ _ | simp [HeldL])) ?_
     refine any_skip 26 rfl (by first | rfl | decide +kernel) rfl (by first | exact HeldL.refl _ | exact HeldL.append _ _ | simp [HeldL]) ?_
     refine any_take 27 rfl (by first | rfl | decide +kernel) rfl (by first | exact HeldL.refl _ | exact HeldL.append _ _ | simp [HeldL]) (fun H' hH => OpOk.step (ok_pickb (t := true) (d := true) rfl rfl rfl)) ?_
     refine any_done rfl ?_
     refine keepK hK17 [1, 5, 7, 56] (by dsimp) (by dsimp) ?_
     refine T.cond_true rfl ?_
     refine T.seq fun K20 hK20 => ?_
     refine T.region ?_ -- region 11
     refine ro rfl rfl (OpOk.step (ok_moveb (c := false) (.inr rfl) rfl)) ?_
     refine ro_nil ?_
     refine keepK hK20 [6] (by dsimp) (by dsimp) ?_
     refine T.ret (hQ _ _ _ rfl ?_).1 -- ret 3
     exact by (rw [stepZ_1 (by assumption), if_neg (by unfold Z1; intro h; obtain ⟨h1, h2, h3, h4⟩ := h; first | omega | (simp_all; done))]; exact ch_end (z' := z) (p := 2) (l := z.pars) hj rfl rfl rfl (by decide) (Ent.sl0 (b := ⟨2, false, Prs z.pars⟩) rfl rfl (by simp)) ⟨rfl, trivial⟩)
    ·(try simp only [dE] at hb)
     refine any_take 21 rfl (by first | rfl | decide +kernel) rfl (HeldL.refl _) (fun H' hH => OpOk.step (ok_load rfl ti_api_State (locA_held hH rfl) rfl)) ?_
     refine any_take 23 rfl (by first | rfl | decide +kernel) rfl (HeldL.refl _) (fun H' hH => OpOk.step (ok_fieldAddr rfl ti_api_Rec rfl rfl ti_int (by decide) rfl)) ?_
     refine any_take 24 rfl (by first | rfl | decide +kernel) rfl (HeldL.refl _) (fun H' hH => OpOk.step (ok_load rfl ti_int (locA_held hH rfl) rfl)) ?_
     refine any_one 22 rfl (by first | rfl | decide +kernel) rfl rfl (ok_call rfl rfl rfl ((free_new s (by omega)).lendR (R := [⟨1, true, ints .i64 (freeZ s.c s.zs)⟩]) (R' := [⟨1, true, ints .i64 (freeZ s.c s.zs)⟩]) (x' := .sl 5 0 (freeZ s.c s.zs).length) (EntL.cons (Ent.stz s hz rfl rfl rfl) EntL.nil) (by simp [renL, AV.ren, StC_ren]) (by simp [Blk.ren, renL_ints]) rfl rfl (by simp [nofzL_ints]))) (.inr (by first | (simp [HeldL]; done) | (simp only [HeldL, List.map_cons, List.map_nil, List.cons_append, List.nil_append, List.set_cons_zero, List.set_cons_succ]; (repeat' first | trivial | rfl | constructor)))) ?_
     refine any_one 25 rfl (by first | rfl | decide +kernel) rfl rfl (ok_call rfl rfl rfl ((contains_ok (freeZ s.c s.zs) x.slot hfl).lendV (EntL.cons (Ent.lent 5 1 (ints .i64 (freeZ s.c s.zs)) rfl (by simp)) (EntL.refl _)) (by simp [renL, AV.ren, renL_ints]))) (.inr (by first | (simp [HeldL]; done) | (simp only [HeldL, List.map_cons, List.map_nil, List.cons_append, List.nil_append, List.set_cons_zero, List.set_cons_succ]; (repeat' first | trivial | rfl | constructor)))) ?_
     refine any_take 26 rfl (by first | rfl | decide +kernel) rfl (by first | exact HeldL.refl _ | exact HeldL.append _ _ | simp [HeldL]) (fun H' hH => OpOk.step (ok_unOp rfl rfl)) ?_
     refine any_take 27 rfl (by first | rfl | decide +kernel) rfl (by first | exact HeldL.refl _ | exact HeldL.append _ _ | simp [HeldL]) (fun H' hH => OpOk.step (ok_pick rfl rfl)) ?_
     refine any_done rfl ?_
     refine keepK hK17 [1, 5, 7, 56] (by dsimp) (by dsimp) ?_
     refine T.cond rfl (fun hc => ?_) (fun hc => ?_) -- cond 2
     ·(try simp only [dE] at hc)
      refine T.seq fun K21 hK21 => ?_
      refine T.region ?_ -- region 11
      refine ro rfl rfl (OpOk.step (ok_moveb (c := false) (.inr rfl) rfl)) ?_
      refine ro_nil ?_
      refine keepK hK21 [6] (by dsimp) (by dsimp) ?_
      refine T.ret (hQ _ _ _ rfl ?_).1 -- ret 4
      exact by (rw [stepZ_1 (by assumption), if_neg (by unfold Z1; intro h; obtain ⟨h1, h2, h3, h4⟩ := h; first | omega | (simp_all; done))]; exact ch_end (z' := z) (p := 2) (l := z.pars) hj rfl rfl rfl (by decide) (Ent.sl0 (b := ⟨2, false, Prs z.pars⟩) rfl rfl (by simp)) ⟨rfl, trivial⟩)
     ·(try simp only [dE] at hc)
      refine T.skip ?_
      refine keepK hK16 [1, 5, 7] (by dsimp) (by dsimp) ?_
      refine T.region ?_ -- region 12
      refine ro rfl rfl (OpOk.step (ok_move (.inl rfl))) ?_
      refine ro rfl rfl (OpOk.step (ok_move (.inl rfl))) ?_
      refine ro rfl rfl (OpOk.step (ok_fieldAddr rfl ti_api_Rec rfl rfl ti_int (by decide) rfl)) ?_
      refine ro rfl rfl (OpOk.step (ok_load rfl ti_int rfl rfl)) ?_
      refine ro rfl rfl (OpOk.step (ok_move (.inl rfl))) ?_
      refine ro rfl rfl (OpOk.step (ok_nilCheck rfl rfl)) ?_
      refine ro rfl rfl (OpOk.step (ok_fieldAddr rfl ti_api_Zone rfl rfl ti_int (by decide) rfl)) ?_
      refine ro rfl rfl (OpOk.step ((ok_store rfl ti_int (by decide) (id := 1) (j := j) (f := 1) rfl rfl rfl (ZR_get hj) rfl (by show 1 + 1 ≤ 6; decide) (.inr rfl)).eq (x' := .any) (H'' := [some ⟨1, true, ints .i64 s.st⟩, some (ZR s.zs j (ZnS { z with slot := x.slot } (.sl 2 0 z.pars.length))), some ⟨2, true, Prs z.pars⟩, some (SB s (.sl 0 0 s.st.length) (.sl 1 0 s.zs.length)), some (RcB x), some ⟨1, true, ints .i64 (freeZ s.c s.zs)⟩]) rfl (by show [_, some (⟨6, true, (ZR s.zs j (ZnS z (.sl 2 0 z.pars.length))).els.set j (.agg (ZnS { z with slot := x.slot } (.sl 2 0 z.pars.length)))⟩ : Blk), _, _, _, _] = _; rw [ZR_set] <;> rfl))) ?_
      refine ro rfl rfl (OpOk.step (ok_nilCheck rfl rfl)) ?_
      refine ro rfl rfl (OpOk.step (ok_fieldAddr rfl ti_api_Zone rfl rfl ti_bool (by decide) rfl)) ?_
      refine ro rfl rfl (OpOk.step ((ok_store rfl ti_bool (by decide) (id := 1) (j := j) (f := 4) rfl rfl rfl (ZR_get hj) rfl (by show 4 + 1 ≤ 6; decide) (.inr rfl)).eq (x' := .any) (H'' := [some ⟨1, true, ints .i64 s.st⟩, some (ZR s.zs j (ZnS { z with slot := x.slot, whole := decide (2 ∈ s.st) } (.sl 2 0 z.pars.length))), some ⟨2, true, Prs z.pars⟩, some (SB s (.sl 0 0 s.st.length) (.sl 1 0 s.zs.length)), some (RcB x), some ⟨1, true, ints .i64 (freeZ s.c s.zs)⟩]) rfl (by show [_, some (⟨6, true, (ZR s.zs j (ZnS { z with slot := x.slot } (.sl 2 0 z.pars.length))).els.set j (.agg (ZnS { z with slot := x.slot, whole := decide (2 ∈ s.st) } (.sl 2 0 z.pars.length)))⟩ : Blk), _, _, _, _] = _; rw [ZR_set] <;> rfl))) ?_
      refine ro_nil ?_
      refine keepK hK15 [] (by dsimp) (by dsimp) ?_
      refine T.exit ?_
      refine keepK hK4 [] (by dsimp) (by dsimp) ?_
      refine T.seq fun K22 hK22 => ?_
      refine T.region ?_ -- region 27
      refine ro rfl rfl (OpOk.step (ok_moveb (c := true) (.inr rfl) rfl)) ?_
      refine ro_nil ?_
      refine keepK hK22 [6] (by dsimp) (by dsimp) ?_
      refine T.ret (hQ _ _ _ rfl ?_).1 -- ret 5
      exact by (rw [stepZ_1 (by assumption), if_pos (by unfold Z1; refine ⟨?_, ?_, ?_, ?_⟩ <;> first | assumption | omega | (simp_all; done))]; exact ch_end (z' := { z with slot := x.slot, whole := decide (2 ∈ s.st) }) (p := 2) (l := z.pars) hj rfl rfl rfl (by decide) (Ent.sl0 (b := ⟨2, false, Prs z.pars⟩) rfl rfl (by simp)) ⟨rfl, trivial⟩)
 ·(try simp only [dE] at hc)
  refine T.skip ?_
  refine keepK hK13 [1, 3, 5, 7, 8, 16] (by dsimp) (by dsimp) ?_
  refine T.seq fun K23 hK23 => ?_
  refine T.seq fun K24 hK24 => ?_
  refine T.region ?_ -- region 5
  refine ro rfl rfl (OpOk.step (ok_binOp rfl ti_int rfl)) ?_
  refine ro rfl rfl (OpOk.step (ok_move (.inr rfl))) ?_
  refine ro_nil ?_
  refine keepK hK24 [1, 3, 5, 7, 8, 16, 19] (by dsimp) (by dsimp) ?_
  refine T.cond rfl (fun hc => ?_) (fun hc => ?_) -- cond 3
  ·(try simp only [dE] at hc)
   refine T.exit ?_
   refine keepK hK10 [1, 5] (by dsimp) (by dsimp) ?_
   refine T.seq fun K25 hK25 => ?_
   refine T.seq fun K26 hK26 => ?_
   refine T.seq fun K27 hK27 => ?_
   refine T.drawH mixed [] ?_ -- region 13
   refine any_take 0 rfl (by first | rfl | decide +kernel) rfl (HeldL.refl _) (fun H' hH => OpOk.step (ok_fieldAddr rfl ti_api_Rec rfl rfl ti_int (by decide) rfl)) ?_
   refine any_take 1 rfl (by first | rfl | decide +kernel) rfl (HeldL.refl _) (fun H' hH => OpOk.step (ok_load rfl ti_int (locA_held hH rfl) rfl)) ?_
   refine any_take 2 rfl (by first | rfl | decide +kernel) rfl (HeldL.refl _) (fun H' hH => OpOk.step (ok_move (.inl rfl))) ?_
   refine any_take 3 rfl (by first | rfl | decide +kernel) rfl (HeldL.refl _) (fun H' hH => OpOk.step (ok_nilCheck rfl rfl)) ?_
   refine any_take 4 rfl (by first | rfl | decide +kernel) rfl (HeldL.refl _) (fun H' hH => OpOk.step (ok_fieldAddr rfl ti_api_Zone rfl rfl ti_int (by decide) rfl)) ?_
   refine any_take 5 rfl (by first | rfl | decide +kernel) rfl (HeldL.refl _) (fun H' hH => OpOk.step (by exact ok_load rfl ti_int (cl := ZnS z (.sl 2 0 z.pars.length)) (f := 0) (locA_held hH (ZR_loc hj rfl)) rfl)) ?_
   refine any_take 6 rfl (by first | rfl | decide +kernel) rfl (HeldL.refl _) (fun H' hH => OpOk.step (ok_add64 rfl ti_int rfl rfl (by omega) (by omega))) ?_
   refine any_take 7 rfl (by first | rfl | decide +kernel) rfl (HeldL.refl _) (fun H' hH => OpOk.step (ok_binOp rfl ti_int rfl)) ?_
   refine any_take_case 8 rfl (by first | rfl | decide +kernel) rfl (HeldL.refl _) (fun H' hH => OpOk.step (ok_moveb (.inl rfl) rfl)) (fun hb => ?_) (fun hb => ?_)
   ·(try simp only [dE] at hb)
    refine any_skip 9 rfl (by first | rfl | decide +kernel) rfl (HeldL.refl _) ?_
    refine any_skip 10 rfl (by first | rfl | decide +kernel) rfl (HeldL.refl _) ?_
    refine any_skip 11 rfl (by first | rfl | decide +kernel) rfl (HeldL.refl _) ?_
    refine any_take 12 rfl (by first | rfl | decide +kernel) rfl (HeldL.refl _) (fun H' hH => OpOk.step (ok_pickb (t := true) (d := true) rfl rfl rfl)) ?_
    refine any_done rfl ?_
    refine keepK hK27 [1, 5, 78] (by dsimp) (by dsimp) ?_
    refine T.cond_true rfl ?_
    refine T.seq fun K28 hK28 => ?_
    refine T.region ?_ -- region 14
    refine ro rfl rfl (OpOk.step (ok_moveb (c := false) (.inr rfl) rfl)) ?_
    refine ro_nil ?_
    refine keepK hK28 [6] (by dsimp) (by dsimp) ?_
    refine T.ret (hQ _ _ _ rfl ?_).1 -- ret 6
    exact by (rw [stepZ_2 (by assumption), if_neg (by unfold Z2; intro h; obtain ⟨h1, h2⟩ := h; first | omega | (simp_all; done))]; exact ch_end (z' := z) (p := 2) (l := z.pars) hj rfl rfl rfl (by decide) (Ent.sl0 (b := ⟨2, false, Prs z.pars⟩) rfl rfl (by simp)) ⟨rfl, trivial⟩)
   ·(try simp only [dE] at hb)
    refine any_take 9 rfl (by first | rfl | decide +kernel) rfl (HeldL.refl _) (fun H' hH => OpOk.step (ok_fieldAddr rfl ti_api_Rec rfl rfl ti_int (by decide) rfl)) ?_
    refine any_take 10 rfl (by first | rfl | decide +kernel) rfl (HeldL.refl _) (fun H' hH => OpOk.step (ok_load rfl ti_int (locA_held hH rfl) rfl)) ?_
    refine any_take 11 rfl (by first | rfl | decide +kernel) rfl (HeldL.refl _) (fun H' hH => OpOk.step (ok_binOp rfl ti_int rfl)) ?_
    refine any_take 12 rfl (by first | rfl | decide +kernel) rfl (HeldL.refl _) (fun H' hH => OpOk.step (ok_pick rfl rfl)) ?_
    refine any_done rfl ?_
    refine keepK hK27 [1, 5, 78] (by dsimp) (by dsimp) ?_
    refine T.cond rfl (fun hc => ?_) (fun hc => ?_) -- cond 4
    ·(try simp only [dE] at hc)
     refine T.seq fun K29 hK29 => ?_
     refine T.region ?_ -- region 14
     refine ro rfl rfl (OpOk.step (ok_moveb (c := false) (.inr rfl) rfl)) ?_
     refine ro_nil ?_
     refine keepK hK29 [6] (by dsimp) (by dsimp) ?_
     refine T.ret (hQ _ _ _ rfl ?_).1 -- ret 7
     exact by (rw [stepZ_2 (by assumption), if_neg (by unfold Z2; intro h; obtain ⟨h1, h2⟩ := h; first | omega | (simp_all; done))]; exact ch_end (z' := z) (p := 2) (l := z.pars) hj rfl rfl rfl (by decide) (Ent.sl0 (b := ⟨2, false, Prs z.pars⟩) rfl rfl (by simp)) ⟨rfl, trivial⟩)
    ·(try simp only [dE] at hc)
     refine T.skip ?_
     refine keepK hK26 [1, 5] (by dsimp) (by dsimp) ?_
     refine T.region ?_ -- region 15
     refine ro rfl rfl (OpOk.step (ok_move (.inl rfl))) ?_
     refine ro rfl rfl (OpOk.step (ok_fieldAddr rfl ti_api_Rec rfl rfl ti_int (by decide) rfl)) ?_
     refine ro rfl rfl (OpOk.step (ok_load rfl ti_int rfl rfl)) ?_
     refine ro rfl rfl (OpOk.step (ok_build rfl ti_api_Zone rfl)) ?_
     refine ro rfl rfl (OpOk.step (ok_nilCheck rfl rfl)) ?_
     refine ro rfl rfl (OpOk.step ((ok_store rfl ti_api_Zone (by decide) (id := 1) (j := j) (f := 0) rfl rfl rfl (ZR_get hj) rfl (by show 0 + 6 ≤ 6; decide) (.inl ⟨rfl, rfl⟩)).eq (x' := .any) (H'' := [some ⟨1, true, ints .i64 s.st⟩, some (ZR s.zs j (ZnS ⟨x.gen, -1, false, 0, false, []⟩ (.v (.slice none 0 0)))), some ⟨2, true, Prs z.pars⟩, some (SB s (.sl 0 0 s.st.length) (.sl 1 0 s.zs.length)), some (RcB x)]) rfl (by show [_, some (⟨6, true, (ZR s.zs j (ZnS z (.sl 2 0 z.pars.length))).els.set j (.agg (ZnS ⟨x.gen, -1, false, 0, false, []⟩ (.v (.slice none 0 0))))⟩ : Blk), _, _, _] = _; rw [ZR_set] <;> rfl))) ?_
     refine ro_nil ?_
     refine keepK hK25 [] (by dsimp) (by dsimp) ?_
     refine T.exit ?_
     refine keepK hK4 [] (by dsimp) (by dsimp) ?_
     refine T.seq fun K30 hK30 => ?_
     refine T.region ?_ -- region 27
     refine ro rfl rfl (OpOk.step (ok_moveb (c := true) (.inr rfl) rfl)) ?_
     refine ro_nil ?_
     refine keepK hK30 [6] (by dsimp) (by dsimp) ?_
     refine T.ret (hQ _ _ _ rfl ?_).1 -- ret 8
     exact by (rw [stepZ_2 (by assumption), if_pos (by unfold Z2; refine ⟨?_, ?_⟩ <;> first | assumption | omega | (simp_all; done))]; exact ch_end (z' := ⟨x.gen, -1, false, 0, false, []⟩) (p := 2) (l := z.pars) hj rfl rfl rfl (by decide) (Ent.nil 2) ⟨rfl, trivial⟩)
  ·(try simp only [dE] at hc)
   refine T.skip ?_
   refine keepK hK23 [1, 3, 5, 7, 8, 16] (by dsimp) (by dsimp) ?_
   refine T.seq fun K31 hK31 => ?_
   refine T.seq fun K32 hK32 => ?_
   refine T.region ?_ -- region 6
   refine ro rfl rfl (OpOk.step (ok_binOp rfl ti_int rfl)) ?_
   refine ro rfl rfl (OpOk.step (ok_move (.inr rfl))) ?_
   refine ro_nil ?_
   refine keepK hK32 [1, 3, 5, 7, 8, 16, 21] (by dsimp) (by dsimp) ?_
   refine T.cond rfl (fun hc => ?_) (fun hc => ?_) -- cond 5
   ·(try simp only [dE] at hc)
    refine T.exit ?_
    refine keepK hK9 [1, 5, 8] (by dsimp) (by dsimp) ?_
    refine T.seq fun K33 hK33 => ?_
    refine T.seq fun K34 hK34 => ?_
    refine T.seq fun K35 hK35 => ?_
    refine T.region ?_ -- region 16
    refine ro rfl rfl (OpOk.step (ok_move (.inl rfl))) ?_
    refine ro rfl rfl (OpOk.step (ok_nilCheck rfl rfl)) ?_
    refine ro rfl rfl (OpOk.step (ok_fieldAddr rfl ti_api_Zone rfl rfl ti_bool (by decide) rfl)) ?_
    refine ro rfl rfl (OpOk.step (by exact ok_load rfl ti_bool (cl := ZnS z (.sl 2 0 z.pars.length)) (f := 2) (ZR_loc hj rfl) rfl)) ?_
    refine ro_case rfl rfl (OpOk.step (ok_moveb (.inl rfl) rfl)) (fun hb => ?_) (fun hb => ?_)
    ·(try simp only [dE] at hb)
     refine ro_skip rfl rfl ?_
     refine ro_skip rfl rfl ?_
     refine ro_skip rfl rfl ?_
     refine ro_skip rfl rfl ?_
     refine ro_skip rfl rfl ?_
     refine ro rfl rfl (OpOk.step (ok_pickb (t := true) (d := true) rfl rfl rfl)) ?_
     refine ro rfl rfl (OpOk.step (ok_moveb (c := true) (.inl rfl) rfl)) ?_
     refine ro_skip rfl rfl ?_
     refine ro_skip rfl rfl ?_
     refine ro_skip rfl rfl ?_
     refine ro_skip rfl rfl ?_
     refine ro_skip rfl rfl ?_
     refine ro_skip rfl rfl ?_
     refine ro_skip rfl rfl ?_
     refine ro_skip rfl rfl ?_
     refine ro_skip rfl rfl ?_
     refine ro_skip rfl rfl ?_
     refine ro rfl rfl (OpOk.step (ok_pickb (t := true) (d := true) rfl rfl rfl)) ?_
     refine ro_nil ?_
     refine keepK hK35 [1, 5, 106] (by dsimp) (by dsimp) ?_
     refine T.cond_true rfl ?_
     refine T.seq fun K36 hK36 => ?_
     refine T.region ?_ -- region 17
     refine ro rfl rfl (OpOk.step (ok_moveb (c := false) (.inr rfl) rfl)) ?_
     refine ro_nil ?_
     refine keepK hK36 [6] (by dsimp) (by dsimp) ?_
     refine T.ret (hQ _ _ _ rfl ?_).1 -- ret 9
     exact by (rw [stepZ_3 (by assumption), if_neg (by unfold Z3; intro h; obtain ⟨h1, h2, h3⟩ := h; first | omega | (simp_all; done))]; exact ch_end (z' := z) (p := 2) (l := z.pars) hj rfl rfl rfl (by decide) (Ent.sl0 (b := ⟨2, false, Prs z.pars⟩) rfl rfl (by simp)) ⟨rfl, trivial⟩)
    ·(try simp only [dE] at hb)
     refine ro rfl rfl (OpOk.step (ok_fieldAddr rfl ti_api_Rec rfl rfl ti_int (by decide) rfl)) ?_
     refine ro rfl rfl (OpOk.step (ok_load rfl ti_int rfl rfl)) ?_
     refine ro rfl rfl (OpOk.step (ok_move (.inl rfl))) ?_
     refine ro rfl rfl (ok_call rfl rfl rfl ((sin_ok x.w 0 (sizeC s.c)).plain rfl rfl)) ?_
     refine ro rfl rfl (OpOk.step (ok_unOp rfl rfl)) ?_
     refine ro rfl rfl (OpOk.step (ok_pick rfl rfl)) ?_
     refine ro_case rfl rfl (OpOk.step (ok_moveb (.inl rfl) rfl)) (fun hb => ?_) (fun hb => ?_)
     ·(try simp only [dE] at hb)
      refine ro_skip rfl rfl ?_
      refine ro_skip rfl rfl ?_
      refine ro_skip rfl rfl ?_
      refine ro_skip rfl rfl ?_
      refine ro_skip rfl rfl ?_
      refine ro_skip rfl rfl ?_
      refine ro_skip rfl rfl ?_
      refine ro_skip rfl rfl ?_
      refine ro_skip rfl rfl ?_
      refine ro_skip rfl rfl ?_
      refine ro rfl rfl (OpOk.step (ok_pickb (t := true) (d := true) rfl rfl rfl)) ?_
      refine ro_nil ?_
      refine keepK hK35 [1, 5, 106] (by dsimp) (by dsimp) ?_
      refine T.cond_true rfl ?_
      refine T.seq fun K37 hK37 => ?_
      refine T.region ?_ -- region 17
      refine ro rfl rfl (OpOk.step (ok_moveb (c := false) (.inr rfl) rfl)) ?_
      refine ro_nil ?_
      refine keepK hK37 [6] (by dsimp) (by dsimp) ?_
      refine T.ret (hQ _ _ _ rfl ?_).1 -- ret 10
      exact by (rw [stepZ_3 (by assumption), if_neg (by unfold Z3; intro h; obtain ⟨h1, h2, h3⟩ := h; first | omega | (simp_all; done))]; exact ch_end (z' := z) (p := 2) (l := z.pars) hj rfl rfl rfl (by decide) (Ent.sl0 (b := ⟨2, false, Prs z.pars⟩) rfl rfl (by simp)) ⟨rfl, trivial⟩)
     ·(try simp only [dE] at hb)
      refine ro rfl rfl (OpOk.step (ok_move (.inl rfl))) ?_
      refine ro rfl rfl (OpOk.step (ok_nilCheck rfl rfl)) ?_
      refine ro rfl rfl (OpOk.step (ok_fieldAddr rfl ti_api_Zone rfl rfl ti_int (by decide) rfl)) ?_
      refine ro rfl rfl (OpOk.step (by exact ok_load rfl ti_int (cl := ZnS z (.sl 2 0 z.pars.length)) (f := 1) (ZR_loc hj rfl) rfl)) ?_
      refine ro rfl rfl (OpOk.step (ok_binOp rfl ti_int rfl)) ?_
      refine ro_case rfl rfl (OpOk.step (ok_moveb (.inl rfl) rfl)) (fun hb => ?_) (fun hb => ?_)
      ·(try simp only [dE] at hb)
       refine ro rfl rfl (OpOk.step (ok_fieldAddr rfl ti_api_Rec rfl rfl ti_int (by decide) rfl)) ?_
       refine ro rfl rfl (OpOk.step (ok_load rfl ti_int rfl rfl)) ?_
       refine ro rfl rfl (OpOk.step (ok_binOp rfl ti_int rfl)) ?_
       refine ro rfl rfl (OpOk.step (ok_pick rfl rfl)) ?_
       refine ro rfl rfl (OpOk.step (ok_pick rfl rfl)) ?_
       refine ro_nil ?_
       refine keepK hK35 [1, 5, 106] (by dsimp) (by dsimp) ?_
       refine T.cond rfl (fun hc => ?_) (fun hc => ?_) -- cond 6
       ·(try simp only [dE] at hc)
        refine T.seq fun K38 hK38 => ?_
        refine T.region ?_ -- region 17
        refine ro rfl rfl (OpOk.step (ok_moveb (c := false) (.inr rfl) rfl)) ?_
        refine ro_nil ?_
        refine keepK hK38 [6] (by dsimp) (by dsimp) ?_
        refine T.ret (hQ _ _ _ rfl ?_).1 -- ret 11
        exact by (rw [stepZ_3 (by assumption), if_neg (by unfold Z3; intro h; obtain ⟨h1, h2, h3⟩ := h; first | omega | (simp_all; done))]; exact ch_end (z' := z) (p := 2) (l := z.pars) hj rfl rfl rfl (by decide) (Ent.sl0 (b := ⟨2, false, Prs z.pars⟩) rfl rfl (by simp)) ⟨rfl, trivial⟩)
       ·(try simp only [dE] at hc)
        refine T.skip ?_
        refine keepK hK34 [1, 5] (by dsimp) (by dsimp) ?_
        refine T.draw mixed (SH [] (HeldL ([none, none, none, none, some (RcB x)]))) ?_ -- region 18
        refine any_take 0 rfl (by first | rfl | decide +kernel) rfl (by first | (simp [HeldL]; done) | (simp only [HeldL, List.map_cons, List.map_nil, List.cons_append, List.nil_append, List.set_cons_zero, List.set_cons_succ]; (repeat' first | trivial | rfl | constructor))) (fun H' hH => OpOk.step (ok_move (.inl rfl))) ?_
        refine any_take 1 rfl (by first | rfl | decide +kernel) rfl (by first | (simp [HeldL]; done) | (simp only [HeldL, List.map_cons, List.map_nil, List.cons_append, List.nil_append, List.set_cons_zero, List.set_cons_succ]; (repeat' first | trivial | rfl | constructor))) (fun H' hH => OpOk.step (ok_move (.inl rfl))) ?_
        refine any_take 2 rfl (by first | rfl | decide +kernel) rfl (by first | (simp [HeldL]; done) | (simp only [HeldL, List.map_cons, List.map_nil, List.cons_append, List.nil_append, List.set_cons_zero, List.set_cons_succ]; (repeat' first | trivial | rfl | constructor))) (fun H' hH => OpOk.step (ok_fieldAddr rfl ti_api_Rec rfl rfl ti_int (by decide) rfl)) ?_
        refine any_take 3 rfl (by first | rfl | decide +kernel) rfl (by first | (simp [HeldL]; done) | (simp only [HeldL, List.map_cons, List.map_nil, List.cons_append, List.nil_append, List.set_cons_zero, List.set_cons_succ]; (repeat' first | trivial | rfl | constructor))) (fun H' hH => OpOk.step (ok_load rfl ti_int (locA_held hH rfl) rfl)) ?_
        refine any_take 4 rfl (by first | rfl | decide +kernel) rfl (by first | (simp [HeldL]; done) | (simp only [HeldL, List.map_cons, List.map_nil, List.cons_append, List.nil_append, List.set_cons_zero, List.set_cons_succ]; (repeat' first | trivial | rfl | constructor))) (fun H' hH => OpOk.step (ok_nilCheck rfl rfl)) ?_
        refine any_take 5 rfl (by first | rfl | decide +kernel) rfl (by first | (simp [HeldL]; done) | (simp only [HeldL, List.map_cons, List.map_nil, List.cons_append, List.nil_append, List.set_cons_zero, List.set_cons_succ]; (repeat' first | trivial | rfl | constructor))) (fun H' hH => OpOk.step (ok_fieldAddr rfl ti_api_Zone rfl rfl ti_bool (by decide) rfl)) ?_
        refine any_one 6 rfl (by first | rfl | decide +kernel) rfl rfl (OpOk.step ((ok_store rfl ti_bool (by decide) (id := 1) (j := j) (f := 2) rfl rfl rfl (ZR_get hj) rfl (by show 2 + 1 ≤ 6; decide) (.inr rfl)).eq (x' := .any) (H'' := [some ⟨1, true, ints .i64 s.st⟩, some (ZR s.zs j (ZnS { z with full := true } (.sl 2 0 z.pars.length))), some ⟨2, true, Prs z.pars⟩, some (SB s (.sl 0 0 s.st.length) (.sl 1 0 s.zs.length)), some (RcB x)]) rfl (by show [_, some (⟨6, true, (ZR s.zs j (ZnS z (.sl 2 0 z.pars.length))).els.set j (.agg (ZnS { z with full := true } (.sl 2 0 z.pars.length)))⟩ : Blk), _, _, _] = _; rw [ZR_set] <;> rfl))) (.inr (by first | (simp [HeldL]; done) | (simp only [HeldL, List.map_cons, List.map_nil, List.cons_append, List.nil_append, List.set_cons_zero, List.set_cons_succ]; (repeat' first | trivial | rfl | constructor)))) ?_
        refine any_take 7 rfl (by first | rfl | decide +kernel) rfl (by first | (simp [HeldL]; done) | (simp only [HeldL, List.map_cons, List.map_nil, List.cons_append, List.nil_append, List.set_cons_zero, List.set_cons_succ]; (repeat' first | trivial | rfl | constructor))) (fun H' hH => OpOk.step (ok_nilCheck rfl rfl)) ?_
        refine any_take 8 rfl (by first | rfl | decide +kernel) rfl (by first | (simp [HeldL]; done) | (simp only [HeldL, List.map_cons, List.map_nil, List.cons_append, List.nil_append, List.set_cons_zero, List.set_cons_succ]; (repeat' first | trivial | rfl | constructor))) (fun H' hH => OpOk.step (ok_fieldAddr rfl ti_api_Zone rfl rfl ti_int (by decide) rfl)) ?_
        refine any_one 9 rfl (by first | rfl | decide +kernel) rfl rfl (OpOk.step ((ok_store rfl ti_int (by decide) (id := 1) (j := j) (f := 3) rfl rfl rfl (ZR_get hj) rfl (by show 3 + 1 ≤ 6; decide) (.inr rfl)).eq (x' := .any) (H'' := [some ⟨1, true, ints .i64 s.st⟩, some (ZR s.zs j (ZnS { z with full := true, w := x.w } (.sl 2 0 z.pars.length))), some ⟨2, true, Prs z.pars⟩, some (SB s (.sl 0 0 s.st.length) (.sl 1 0 s.zs.length)), some (RcB x)]) rfl (by show [_, some (⟨6, true, (ZR s.zs j (ZnS { z with full := true } (.sl 2 0 z.pars.length))).els.set j (.agg (ZnS { z with full := true, w := x.w } (.sl 2 0 z.pars.length)))⟩ : Blk), _, _, _] = _; rw [ZR_set] <;> rfl))) (.inr (by first | (simp [HeldL]; done) | (simp only [HeldL, List.map_cons, List.map_nil, List.cons_append, List.nil_append, List.set_cons_zero, List.set_cons_succ]; (repeat' first | trivial | rfl | constructor)))) ?_
        refine any_done rfl ?_
        refine keepK hK33 [] (by dsimp) (by dsimp) ?_
        refine T.exit ?_
        refine keepK hK4 [] (by dsimp) (by dsimp) ?_
        refine T.seq fun K39 hK39 => ?_
        refine T.region ?_ -- region 27
        refine ro rfl rfl (OpOk.step (ok_moveb (c := true) (.inr rfl) rfl)) ?_
        refine ro_nil ?_
        refine keepK hK39 [6] (by dsimp) (by dsimp) ?_
        refine T.ret (hQ _ _ _ rfl ?_).1 -- ret 12
        exact by (rw [stepZ_3 (by assumption), if_pos (by unfold Z3; refine ⟨?_, ?_, fun _ => ?_⟩ <;> first | assumption | omega | (simp_all; done))]; exact ch_end (z' := { z with full := true, w := x.w }) (p := 2) (l := z.pars) hj rfl rfl rfl (by decide) (Ent.sl0 (b := ⟨2, false, Prs z.pars⟩) rfl rfl (by simp)) ⟨rfl, trivial⟩)
      ·(try simp only [dE] at hb)
       refine ro_skip rfl rfl ?_
       refine ro_skip rfl rfl ?_
       refine ro_skip rfl rfl ?_
       refine ro rfl rfl (OpOk.step (ok_pickb (t := false) (d := false) rfl rfl rfl)) ?_
       refine ro rfl rfl (OpOk.step (ok_pickb (t := false) (d := false) rfl rfl rfl)) ?_
       refine ro_nil ?_
       refine keepK hK35 [1, 5, 106] (by dsimp) (by dsimp) ?_
       refine T.cond_false rfl ?_
       refine T.skip ?_
       refine keepK hK34 [1, 5] (by dsimp) (by dsimp) ?_
       refine T.draw mixed (SH [] (HeldL ([none, none, none, none, some (RcB x)]))) ?_ -- region 18
       refine any_take 0 rfl (by first | rfl | decide +kernel) rfl (by first | (simp [HeldL]; done) | (simp only [HeldL, List.map_cons, List.map_nil, List.cons_append, List.nil_append, List.set_cons_zero, List.set_cons_succ]; (repeat' first | trivial | rfl | constructor))) (fun H' hH => OpOk.step (ok_move (.inl rfl))) ?_
       refine any_take 1 rfl (by first | rfl | decide +kernel) rfl (by first | (simp [HeldL]; done) | (simp only [HeldL, List.map_cons, List.map_nil, List.cons_append, List.nil_append, List.set_cons_zero, List.set_cons_succ]; (repeat' first | trivial | rfl | constructor))) (fun H' hH => OpOk.step (ok_move (.inl rfl))) ?_
       refine any_take 2 rfl (by first | rfl | decide +kernel) rfl (by first | (simp [HeldL]; done) | (simp only [HeldL, List.map_cons, List.map_nil, List.cons_append, List.nil_append, List.set_cons_zero, List.set_cons_succ]; (repeat' first | trivial | rfl | constructor))) (fun H' hH => OpOk.step (ok_fieldAddr rfl ti_api_Rec rfl rfl ti_int (by decide) rfl)) ?_
       refine any_take 3 rfl (by first | rfl | decide +kernel) rfl (by first | (simp [HeldL]; done) | (simp only [HeldL, List.map_cons, List.map_nil, List.cons_append, List.nil_append, List.set_cons_zero, List.set_cons_succ]; (repeat' first | trivial | rfl | constructor))) (fun H' hH => OpOk.step (ok_load rfl ti_int (locA_held hH rfl) rfl)) ?_
       refine any_take 4 rfl (by first | rfl | decide +kernel) rfl (by first | (simp [HeldL]; done) | (simp only [HeldL, List.map_cons, List.map_nil, List.cons_append, List.nil_append, List.set_cons_zero, List.set_cons_succ]; (repeat' first | trivial | rfl | constructor))) (fun H' hH => OpOk.step (ok_nilCheck rfl rfl)) ?_
       refine any_take 5 rfl (by first | rfl | decide +kernel) rfl (by first | (simp [HeldL]; done) | (simp only [HeldL, List.map_cons, List.map_nil, List.cons_append, List.nil_append, List.set_cons_zero, List.set_cons_succ]; (repeat' first | trivial | rfl | constructor))) (fun H' hH => OpOk.step (ok_fieldAddr rfl ti_api_Zone rfl rfl ti_bool (by decide) rfl)) ?_
       refine any_one 6 rfl (by first | rfl | decide +kernel) rfl rfl (OpOk.step ((ok_store rfl ti_bool (by decide) (id := 1) (j := j) (f := 2) rfl rfl rfl (ZR_get hj) rfl (by show 2 + 1 ≤ 6; decide) (.inr rfl)).eq (x' := .any) (H'' := [some ⟨1, true, ints .i64 s.st⟩, some (ZR s.zs j (ZnS { z with full := true } (.sl 2 0 z.pars.length))), some ⟨2, true, Prs z.pars⟩, some (SB s (.sl 0 0 s.st.length) (.sl 1 0 s.zs.length)), some (RcB x)]) rfl (by show [_, some (⟨6, true, (ZR s.zs j (ZnS z (.sl 2 0 z.pars.length))).els.set j (.agg (ZnS { z with full := true } (.sl 2 0 z.pars.length)))⟩ : Blk), _, _, _] = _; rw [ZR_set] <;> rfl))) (.inr (by first | (simp [HeldL]; done) | (simp only [HeldL, List.map_cons, List.map_nil, List.cons_append, List.nil_append, List.set_cons_zero, List.set_cons_succ]; (repeat' first | trivial | rfl | constructor)))) ?_
       refine any_take 7 rfl (by first | rfl | decide +kernel) rfl (by first | (simp [HeldL]; done) | (simp only [HeldL, List.map_cons, List.map_nil, List.cons_append, List.nil_append, List.set_cons_zero, List.set_cons_succ]; (repeat' first | trivial | rfl | constructor))) (fun H' hH => OpOk.step (ok_nilCheck rfl rfl)) ?_
       refine any_take 8 rfl (by first | rfl | decide +kernel) rfl (by first | (simp [HeldL]; done) | (simp only [HeldL, List.map_cons, List.map_nil, List.cons_append, List.nil_append, List.set_cons_zero, List.set_cons_succ]; (repeat' first | trivial | rfl | constructor))) (fun H' hH => OpOk.step (ok_fieldAddr rfl ti_api_Zone rfl rfl ti_int (by decide) rfl)) ?_
       refine any_one 9 rfl (by first | rfl | decide +kernel) rfl rfl (OpOk.step ((ok_store rfl ti_int (by decide) (id := 1) (j := j) (f := 3) rfl rfl rfl (ZR_get hj) rfl (by show 3 + 1 ≤ 6; decide) (.inr rfl)).eq (x' := .any) (H'' := [some ⟨1, true, ints .i64 s.st⟩, some (ZR s.zs j (ZnS { z with full := true, w := x.w } (.sl 2 0 z.pars.length))), some ⟨2, true, Prs z.pars⟩, some (SB s (.sl 0 0 s.st.length) (.sl 1 0 s.zs.length)), some (RcB x)]) rfl (by show [_, some (⟨6, true, (ZR s.zs j (ZnS { z with full := true } (.sl 2 0 z.pars.length))).els.set j (.agg (ZnS { z with full := true, w := x.w } (.sl 2 0 z.pars.length)))⟩ : Blk), _, _, _] = _; rw [ZR_set] <;> rfl))) (.inr (by first | (simp [HeldL]; done) | (simp only [HeldL, List.map_cons, List.map_nil, List.cons_append, List.nil_append, List.set_cons_zero, List.set_cons_succ]; (repeat' first | trivial | rfl | constructor)))) ?_
       refine any_done rfl ?_
       refine keepK hK33 [] (by dsimp) (by dsimp) ?_
       refine T.exit ?_
       refine keepK hK4 [] (by dsimp) (by dsimp) ?_
       refine T.seq fun K40 hK40 => ?_
       refine T.region ?_ -- region 27
       refine ro rfl rfl (OpOk.step (ok_moveb (c := true) (.inr rfl) rfl)) ?_
       refine ro_nil ?_
       refine keepK hK40 [6] (by dsimp) (by dsimp) ?_
       refine T.ret (hQ _ _ _ rfl ?_).1 -- ret 13
       exact by (rw [stepZ_3 (by assumption), if_pos (by unfold Z3; refine ⟨?_, ?_, fun _ => ?_⟩ <;> first | assumption | omega | (simp_all; done))]; exact ch_end (z' := { z with full := true, w := x.w }) (p := 2) (l := z.pars) hj rfl rfl rfl (by decide) (Ent.sl0 (b := ⟨2, false, Prs z.pars⟩) rfl rfl (by simp)) ⟨rfl, trivial⟩)
   ·(try simp only [dE] at hc)
    refine T.skip ?_
    refine keepK hK31 [1, 3, 5, 7, 8, 16] (by dsimp) (by dsimp) ?_
    refine T.seq fun K41 hK41 => ?_
    refine T.seq fun K42 hK42 => ?_
    refine T.region ?_ -- region 7
    refine ro rfl rfl (OpOk.step (ok_binOp rfl ti_int rfl)) ?_
    refine ro rfl rfl (OpOk.step (ok_move (.inr rfl))) ?_
    refine ro_nil ?_
    refine keepK hK42 [1, 3, 5, 7, 8, 16, 23] (by dsimp) (by dsimp) ?_
    refine T.cond rfl (fun hc => ?_) (fun hc => ?_) -- cond 7
    ·(try simp only [dE] at hc)
     refine T.exit ?_
     refine keepK hK8 [1, 3, 5, 8] (by dsimp) (by dsimp) ?_
     refine T.seq fun K43 hK43 => ?_
     refine T.seq fun K44 hK44 => ?_
     refine T.seq fun K45 hK45 => ?_
     refine T.drawH mixed [] ?_ -- region 19
     refine any_take 0 rfl (by first | rfl | decide +kernel) rfl (HeldL.refl _) (fun H' hH => OpOk.step (ok_move (.inl rfl))) ?_
     refine any_take 1 rfl (by first | rfl | decide +kernel) rfl (HeldL.refl _) (fun H' hH => OpOk.step (ok_nilCheck rfl rfl)) ?_
     refine any_take 2 rfl (by first | rfl | decide +kernel) rfl (HeldL.refl _) (fun H' hH => OpOk.step (ok_fieldAddr rfl ti_api_Zone rfl rfl ti_int (by decide) rfl)) ?_
     refine any_take 3 rfl (by first | rfl | decide +kernel) rfl (HeldL.refl _) (fun H' hH => OpOk.step (by exact ok_load rfl ti_int (cl := ZnS z (.sl 2 0 z.pars.length)) (f := 1) (locA_held hH (ZR_loc hj rfl)) rfl)) ?_
     refine any_take 4 rfl (by first | rfl | decide +kernel) rfl (HeldL.refl _) (fun H' hH => OpOk.step (ok_binOp rfl ti_int rfl)) ?_
     refine any_take_case 5 rfl (by first | rfl | decide +kernel) rfl (HeldL.refl _) (fun H' hH => OpOk.step (ok_moveb (.inl rfl) rfl)) (fun hb => ?_) (fun hb => ?_)
     ·(try simp only [dE] at hb)
      refine any_skip 6 rfl (by first | rfl | decide +kernel) rfl (HeldL.refl _) ?_
      refine any_skip 7 rfl (by first | rfl | decide +kernel) rfl (HeldL.refl _) ?_
      refine any_skip 8 rfl (by first | rfl | decide +kernel) rfl (HeldL.refl _) ?_
      refine any_skip 9 rfl (by first | rfl | decide +kernel) rfl (HeldL.refl _) ?_
      refine any_take 10 rfl (by first | rfl | decide +kernel) rfl (HeldL.refl _) (fun H' hH => OpOk.step (ok_pickb (t := true) (d := true) rfl rfl rfl)) ?_
      refine any_take 11 rfl (by first | rfl | decide +kernel) rfl (HeldL.refl _) (fun H' hH => OpOk.step (ok_moveb (c := true) (.inl rfl) rfl)) ?_
      refine any_skip 12 rfl (by first | rfl | decide +kernel) rfl (HeldL.refl _) ?_
      refine any_skip 13 rfl (by first | rfl | decide +kernel) rfl (HeldL.refl _) ?_
      refine any_skip 14 rfl (by first | rfl | decide +kernel) rfl (HeldL.refl _) ?_
      refine any_skip 15 rfl (by first | rfl | decide +kernel) rfl (HeldL.refl _) ?_
      refine any_skip 16 rfl (by first | rfl | decide +kernel) rfl (HeldL.refl _) ?_
      refine any_skip 17 rfl (by first | rfl | decide +kernel) rfl (HeldL.refl _) ?_
      refine any_skip 18 rfl (by first | rfl | decide +kernel) rfl (HeldL.refl _) ?_
      refine any_take 19 rfl (by first | rfl | decide +kernel) rfl (HeldL.refl _) (fun H' hH => OpOk.step (ok_pickb (t := true) (d := true) rfl rfl rfl)) ?_
      refine any_take 20 rfl (by first | rfl | decide +kernel) rfl (HeldL.refl _) (fun H' hH => OpOk.step (ok_moveb (c := true) (.inl rfl) rfl)) ?_
      refine any_skip 21 rfl (by first | rfl | decide +kernel) rfl (HeldL.refl _) ?_
      refine any_skip 22 rfl (by first | rfl | decide +kernel) rfl (HeldL.refl _) ?_
      refine any_skip 23 rfl (by first | rfl | decide +kernel) rfl (HeldL.refl _) ?_
      refine any_one_skip 24 rfl (by first | rfl | decide +kernel) rfl rfl (.inr (HeldL.refl _)) ?_
      refine any_skip 25 rfl (by first | rfl | decide +kernel) rfl (by first | exact HeldL.refl _ | exact HeldL.append _ _ | simp [HeldL]) ?_
      refine any_take 26 rfl (by first | rfl | decide +kernel) rfl (by first | exact HeldL.refl _ | exact HeldL.append _ _ | simp [HeldL]) (fun H' hH => OpOk.step (ok_pickb (t := true) (d := true) rfl rfl rfl)) ?_
      refine any_take 27 rfl (by first | rfl | decide +kernel) rfl (by first | exact HeldL.refl _ | exact HeldL.append _ _ | simp [HeldL]) (fun H' hH => OpOk.step (ok_moveb (c := true) (.inl rfl) rfl)) ?_
      refine any_skip 28 rfl (by first | rfl | decide +kernel) rfl (by first | exact HeldL.refl _ | exact HeldL.append _ _ | simp [HeldL]) ?_
      refine any_skip 29 rfl (by first | rfl | decide +kernel) rfl (by first | exact HeldL.refl _ | exact HeldL.append _ _ | simp [HeldL]) ?_
      refine any_skip 30 rfl (by first | rfl | decide +kernel) rfl (by first | exact HeldL.refl _ | exact HeldL.append _ _ | simp [HeldL]) ?_
      refine any_skip 31 rfl (by first | rfl | decide +kernel) rfl (by first | exact HeldL.refl _ | exact HeldL.append _ _ | simp [HeldL]) ?_
      refine any_one_skip 32 rfl (by first | rfl | decide +kernel) rfl rfl (.inr (by first | exact HeldL.refl _ | exact HeldL.append _ _ | simp [HeldL])) ?_
      refine any_skip 33 rfl (by first | rfl | decide +kernel) rfl (by first | exact HeldL.refl _ | exact HeldL.append _ _ | simp [HeldL]) ?_
      refine any_take 34 rfl (by first | rfl | decide +kernel) rfl (by first | exact HeldL.refl _ | exact HeldL.append _ _ | simp [HeldL]) (fun H' hH => OpOk.step (ok_pickb (t := true) (d := true) rfl rfl rfl)) ?_
      refine any_done rfl ?_
      refine keepK hK45 [1, 5, 149] (by dsimp) (by dsimp) ?_
      refine T.cond_true rfl ?_
      refine T.seq fun K46 hK46 => ?_
      refine T.region ?_ -- region 20
      refine ro rfl rfl (OpOk.step (ok_moveb (c := false) (.inr rfl) rfl)) ?_
      refine ro_nil ?_
      refine keepK hK46 [6] (by dsimp) (by dsimp) ?_
      refine T.ret (hQ _ _ _ rfl ?_).1 -- ret 14
      exact by (rw [stepZ_4 (by assumption), if_neg (by unfold Z4; intro h; obtain ⟨h1, h2, h3, h4, h5⟩ := h; first | omega | (simp_all; done))]; exact ch_end (z' := z) (p := 2) (l := z.pars) hj rfl rfl rfl (by decide) (Ent.sl0 (b := ⟨2, false, Prs z.pars⟩) rfl rfl (by simp)) ⟨rfl, trivial⟩)
     ·(try simp only [dE] at hb)
      refine any_take 6 rfl (by first | rfl | decide +kernel) rfl (HeldL.refl _) (fun H' hH => OpOk.step (ok_move (.inl rfl))) ?_
      refine any_take 7 rfl (by first | rfl | decide +kernel) rfl (HeldL.refl _) (fun H' hH => OpOk.step (ok_nilCheck rfl rfl)) ?_
      refine any_take 8 rfl (by first | rfl | decide +kernel) rfl (HeldL.refl _) (fun H' hH => OpOk.step (ok_fieldAddr rfl ti_api_Zone rfl rfl ti_bool (by decide) rfl)) ?_
      refine any_take 9 rfl (by first | rfl | decide +kernel) rfl (HeldL.refl _) (fun H' hH => OpOk.step (by exact ok_load rfl ti_bool (cl := ZnS z (.sl 2 0 z.pars.length)) (f := 2) (locA_held hH (ZR_loc hj rfl)) rfl)) ?_
      refine any_take 10 rfl (by first | rfl | decide +kernel) rfl (HeldL.refl _) (fun H' hH => OpOk.step (ok_pick rfl rfl)) ?_
      refine any_take_case 11 rfl (by first | rfl | decide +kernel) rfl (HeldL.refl _) (fun H' hH => OpOk.step (ok_moveb (.inl rfl) rfl)) (fun hb => ?_) (fun hb => ?_)
      ·(try simp only [dE] at hb)
       refine any_skip 12 rfl (by first | rfl | decide +kernel) rfl (HeldL.refl _) ?_
       refine any_skip 13 rfl (by first | rfl | decide +kernel) rfl (HeldL.refl _) ?_
       refine any_skip 14 rfl (by first | rfl | decide +kernel) rfl (HeldL.refl _) ?_
       refine any_skip 15 rfl (by first | rfl | decide +kernel) rfl (HeldL.refl _) ?_
       refine any_skip 16 rfl (by first | rfl | decide +kernel) rfl (HeldL.refl _) ?_
       refine any_skip 17 rfl (by first | rfl | decide +kernel) rfl (HeldL.refl _) ?_
       refine any_skip 18 rfl (by first | rfl | decide +kernel) rfl (HeldL.refl _) ?_
       refine any_take 19 rfl (by first | rfl | decide +kernel) rfl (HeldL.refl _) (fun H' hH => OpOk.step (ok_pickb (t := true) (d := true) rfl rfl rfl)) ?_
       refine any_take 20 rfl (by first | rfl | decide +kernel) rfl (HeldL.refl _) (fun H' hH => OpOk.step (ok_moveb (c := true) (.inl rfl) rfl)) ?_
       refine any_skip 21 rfl (by first | rfl | decide +kernel) rfl (HeldL.refl _) ?_
       refine any_skip 22 rfl (by first | rfl | decide +kernel) rfl (HeldL.refl _) ?_
       refine any_skip 23 rfl (by first | rfl | decide +kernel) rfl (HeldL.refl _) ?_
       refine any_one_skip 24 rfl (by first | rfl | decide +kernel) rfl rfl (.inr (HeldL.refl _)) ?_
       refine any_skip 25 rfl (by first | rfl | decide +kernel) rfl (by first | exact HeldL.refl _ | exact HeldL.append _ _ | simp [HeldL]) ?_
       refine any_take 26 rfl (by first | rfl | decide +kernel) rfl (by first | exact HeldL.refl _ | exact HeldL.append _ _ | simp [HeldL]) (fun H' hH => OpOk.step (ok_pickb (t := true) (d := true) rfl rfl rfl)) ?_
       refine any_take 27 rfl (by first | rfl | decide +kernel) rfl (by first | exact HeldL.refl _ | exact HeldL.append _ _ | simp [HeldL]) (fun H' hH => OpOk.step (ok_moveb (c := true) (.inl rfl) rfl)) ?_
       refine any_skip 28 rfl (by first | rfl | decide +kernel) rfl (by first | exact HeldL.refl _ | exact HeldL.append _ _ | simp [HeldL]) ?_
       refine any_skip 29 rfl (by first | rfl | decide +kernel) rfl (by first | exact HeldL.refl _ | exact HeldL.append _ _ | simp [HeldL]) ?_
       refine any_skip 30 rfl (by first | rfl | decide +kernel) rfl (by first | exact HeldL.refl _ | exact HeldL.append _ _ | simp [HeldL]) ?_
       refine any_skip 31 rfl (by first | rfl | decide +kernel) rfl (by first | exact HeldL.refl _ | exact HeldL.append _ _ | simp [HeldL]) ?_
       refine any_one_skip 32 rfl (by first | rfl | decide +kernel) rfl rfl (.inr (by first | exact HeldL.refl _ | exact HeldL.append _ _ | simp [HeldL])) ?_
       refine any_skip 33 rfl (by first | rfl | decide +kernel) rfl (by first | exact HeldL.refl _ | exact HeldL.append _ _ | simp [HeldL]) ?_
       refine any_take 34 rfl (by first | rfl | decide +kernel) rfl (by first | exact HeldL.refl _ | exact HeldL.append _ _ | simp [HeldL]) (fun H' hH => OpOk.step (ok_pickb (t := true) (d := true) rfl rfl rfl)) ?_
       refine any_done rfl ?_
       refine keepK hK45 [1, 5, 149] (by dsimp) (by dsimp) ?_
       refine T.cond_true rfl ?_
       refine T.seq fun K47 hK47 => ?_
       refine T.region ?_ -- region 20
       refine ro rfl rfl (OpOk.step (ok_moveb (c := false) (.inr rfl) rfl)) ?_
       refine ro_nil ?_
       refine keepK hK47 [6] (by dsimp) (by dsimp) ?_
       refine T.ret (hQ _ _ _ rfl ?_).1 -- ret 15
       exact by (rw [stepZ_4 (by assumption), if_neg (by unfold Z4; intro h; obtain ⟨h1, h2, h3, h4, h5⟩ := h; first | omega | (simp_all; done))]; exact ch_end (z' := z) (p := 2) (l := z.pars) hj rfl rfl rfl (by decide) (Ent.sl0 (b := ⟨2, false, Prs z.pars⟩) rfl rfl (by simp)) ⟨rfl, trivial⟩)
      ·(try simp only [dE] at hb)
       refine any_take 12 rfl (by first | rfl | decide +kernel) rfl (HeldL.refl _) (fun H' hH => OpOk.step (ok_move (.inl rfl))) ?_
       refine any_take 13 rfl (by first | rfl | decide +kernel) rfl (HeldL.refl _) (fun H' hH => OpOk.step (ok_nilCheck rfl rfl)) ?_
       refine any_take 14 rfl (by first | rfl | decide +kernel) rfl (HeldL.refl _) (fun H' hH => OpOk.step (ok_fieldAddr rfl ti_api_Zone rfl rfl ti_int (by decide) rfl)) ?_
       refine any_take 15 rfl (by first | rfl | decide +kernel) rfl (HeldL.refl _) (fun H' hH => OpOk.step (by exact ok_load rfl ti_int (cl := ZnS z (.sl 2 0 z.pars.length)) (f := 0) (locA_held hH (ZR_loc hj rfl)) rfl)) ?_
       refine any_take 16 rfl (by first | rfl | decide +kernel) rfl (HeldL.refl _) (fun H' hH => OpOk.step (ok_fieldAddr rfl ti_api_Rec rfl rfl ti_int (by decide) rfl)) ?_
       refine any_take 17 rfl (by first | rfl | decide +kernel) rfl (HeldL.refl _) (fun H' hH => OpOk.step (ok_load rfl ti_int (locA_held hH rfl) rfl)) ?_
       refine any_take 18 rfl (by first | rfl | decide +kernel) rfl (HeldL.refl _) (fun H' hH => OpOk.step (ok_binOp rfl ti_int rfl)) ?_
       refine any_take 19 rfl (by first | rfl | decide +kernel) rfl (HeldL.refl _) (fun H' hH => OpOk.step (ok_pick rfl rfl)) ?_
       refine any_take_case 20 rfl (by first | rfl | decide +kernel) rfl (HeldL.refl _) (fun H' hH => OpOk.step (ok_moveb (.inl rfl) rfl)) (fun hb => ?_) (fun hb => ?_)
       ·(try simp only [dE] at hb)
        refine any_skip 21 rfl (by first | rfl | decide +kernel) rfl (HeldL.refl _) ?_
        refine any_skip 22 rfl (by first | rfl | decide +kernel) rfl (HeldL.refl _) ?_
        refine any_skip 23 rfl (by first | rfl | decide +kernel) rfl (HeldL.refl _) ?_
        refine any_one_skip 24 rfl (by first | rfl | decide +kernel) rfl rfl (.inr (HeldL.refl _)) ?_
        refine any_skip 25 rfl (by first | rfl | decide +kernel) rfl (by first | exact HeldL.refl _ | exact HeldL.append _ _ | simp [HeldL]) ?_
        refine any_take 26 rfl (by first | rfl | decide +kernel) rfl (by first | exact HeldL.refl _ | exact HeldL.append _ _ | simp [HeldL]) (fun H' hH => OpOk.step (ok_pickb (t := true) (d := true) rfl rfl rfl)) ?_
        refine any_take 27 rfl (by first | rfl | decide +kernel) rfl (by first | exact HeldL.refl _ | exact HeldL.append _ _ | simp [HeldL]) (fun H' hH => OpOk.step (ok_moveb (c := true) (.inl rfl) rfl)) ?_
        refine any_skip 28 rfl (by first | rfl | decide +kernel) rfl (by first | exact HeldL.refl _ | exact HeldL.append _ _ | simp [HeldL]) ?_
        refine any_skip 29 rfl (by first | rfl | decide +kernel) rfl (by first | exact HeldL.refl _ | exact HeldL.append _ _ | simp [HeldL]) ?_
        refine any_skip 30 rfl (by first | rfl | decide +kernel) rfl (by first | exact HeldL.refl _ | exact HeldL.append _ _ | simp [HeldL]) ?_
        refine any_skip 31 rfl (by first | rfl | decide +kernel) rfl (by first | exact HeldL.refl _ | exact HeldL.append _ _ | simp [HeldL]) ?_
        refine any_one_skip 32 rfl (by first | rfl | decide +kernel) rfl rfl (.inr (by first | exact HeldL.refl _ | exact HeldL.append _ _ | simp [HeldL])) ?_
        refine any_skip 33 rfl (by first | rfl | decide +kernel) rfl (by first | exact HeldL.refl _ | exact HeldL.append _ _ | simp [HeldL]) ?_
        refine any_take 34 rfl (by first | rfl | decide +kernel) rfl (by first | exact HeldL.refl _ | exact HeldL.append _ _ | simp [HeldL]) (fun H' hH => OpOk.step (ok_pickb (t := true) (d := true) rfl rfl rfl)) ?_
        refine any_done rfl ?_
        refine keepK hK45 [1, 5, 149] (by dsimp) (by dsimp) ?_
        refine T.cond_true rfl ?_
        refine T.seq fun K48 hK48 => ?_
        refine T.region ?_ -- region 20
        refine ro rfl rfl (OpOk.step (ok_moveb (c := false) (.inr rfl) rfl)) ?_
        refine ro_nil ?_
        refine keepK hK48 [6] (by dsimp) (by dsimp) ?_
        refine T.ret (hQ _ _ _ rfl ?_).1 -- ret 16
        exact by (rw [stepZ_4 (by assumption), if_neg (by unfold Z4; intro h; obtain ⟨h1, h2, h3, h4, h5⟩ := h; first | omega | (simp_all; done))]; exact ch_end (z' := z) (p := 2) (l := z.pars) hj rfl rfl rfl (by decide) (Ent.sl0 (b := ⟨2, false, Prs z.pars⟩) rfl rfl (by simp)) ⟨rfl, trivial⟩)
       ·(try simp only [dE] at hb)
        refine any_take 21 rfl (by first | rfl | decide +kernel) rfl (HeldL.refl _) (fun H' hH => OpOk.step (ok_fieldAddr rfl ti_api_Rec rfl rfl ti_int (by decide) rfl)) ?_
        refine any_take 22 rfl (by first | rfl | decide +kernel) rfl (HeldL.refl _) (fun H' hH => OpOk.step (ok_load rfl ti_int (locA_held hH rfl) rfl)) ?_
        refine any_take 23 rfl (by first | rfl | decide +kernel) rfl (HeldL.refl _) (fun H' hH => OpOk.step (ok_move (.inl rfl))) ?_
        refine any_one 24 rfl (by first | rfl | decide +kernel) rfl rfl (ok_call rfl rfl rfl ((sin_ok x.w 1 (sizeC s.c)).plain rfl rfl)) (.inr (by first | (simp [HeldL]; done) | (simp only [HeldL, List.map_cons, List.map_nil, List.cons_append, List.nil_append, List.set_cons_zero, List.set_cons_succ]; (repeat' first | trivial | rfl | constructor)))) ?_
        refine any_take 25 rfl (by first | rfl | decide +kernel) rfl (by first | exact HeldL.refl _ | exact HeldL.append _ _ | simp [HeldL]) (fun H' hH => OpOk.step (ok_unOp rfl rfl)) ?_
        refine any_take 26 rfl (by first | rfl | decide +kernel) rfl (by first | exact HeldL.refl _ | exact HeldL.append _ _ | simp [HeldL]) (fun H' hH => OpOk.step (ok_pick rfl rfl)) ?_
        refine any_take_case 27 rfl (by first | rfl | decide +kernel) rfl (by first | exact HeldL.refl _ | exact HeldL.append _ _ | simp [HeldL]) (fun H' hH => OpOk.step (ok_moveb (.inl rfl) rfl)) (fun hb => ?_) (fun hb => ?_)
        ·(try simp only [dE] at hb)
         refine any_skip 28 rfl (by first | rfl | decide +kernel) rfl (by first | exact HeldL.refl _ | exact HeldL.append _ _ | simp [HeldL]) ?_
         refine any_skip 29 rfl (by first | rfl | decide +kernel) rfl (by first | exact HeldL.refl _ | exact HeldL.append _ _ | simp [HeldL]) ?_
         refine any_skip 30 rfl (by first | rfl | decide +kernel) rfl (by first | exact HeldL.refl _ | exact HeldL.append _ _ | simp [HeldL]) ?_
         refine any_skip 31 rfl (by first | rfl | decide +kernel) rfl (by first | exact HeldL.refl _ | exact HeldL.append _ _ | simp [HeldL]) ?_
         refine any_one_skip 32 rfl (by first | rfl | decide +kernel) rfl rfl (.inr (by first | exact HeldL.refl _ | exact HeldL.append _ _ | simp [HeldL])) ?_
         refine any_skip 33 rfl (by first | rfl | decide +kernel) rfl (by first | exact HeldL.refl _ | exact HeldL.append _ _ | simp [HeldL]) ?_
         refine any_take 34 rfl (by first | rfl | decide +kernel) rfl (by first | exact HeldL.refl _ | exact HeldL.append _ _ | simp [HeldL]) (fun H' hH => OpOk.step (ok_pickb (t := true) (d := true) rfl rfl rfl)) ?_
         refine any_done rfl ?_
         refine keepK hK45 [1, 5, 149] (by dsimp) (by dsimp) ?_
         refine T.cond_true rfl ?_
         refine T.seq fun K49 hK49 => ?_
         refine T.region ?_ -- region 20
         refine ro rfl rfl (OpOk.step (ok_moveb (c := false) (.inr rfl) rfl)) ?_
         refine ro_nil ?_
         refine keepK hK49 [6] (by dsimp) (by dsimp) ?_
         refine T.ret (hQ _ _ _ rfl ?_).1 -- ret 17
         exact by (rw [stepZ_4 (by assumption), if_neg (by unfold Z4; intro h; obtain ⟨h1, h2, h3, h4, h5⟩ := h; first | omega | (simp_all; done))]; exact ch_end (z' := z) (p := 2) (l := z.pars) hj rfl rfl rfl (by decide) (Ent.sl0 (b := ⟨2, false, Prs z.pars⟩) rfl rfl (by simp)) ⟨rfl, trivial⟩)
        ·(try simp only [dE] at hb)
         refine any_take 28 rfl (by first | rfl | decide +kernel) rfl (by first | exact HeldL.refl _ | exact HeldL.append _ _ | simp [HeldL]) (fun H' hH => OpOk.step (ok_fieldAddr rfl ti_api_Rec rfl rfl ti_Luint8 (by decide) rfl)) ?_
         refine any_take 29 rfl (by first | rfl | decide +kernel) rfl (by first | exact HeldL.refl _ | exact HeldL.append _ _ | simp [HeldL]) (fun H' hH => OpOk.step (ok_load rfl ti_Luint8 (locA_held hH rfl) rfl)) ?_
         refine any_take 30 rfl (by first | rfl | decide +kernel) rfl (by first | exact HeldL.refl _ | exact HeldL.append _ _ | simp [HeldL]) (fun H' hH => OpOk.step (ok_len' rfl rfl ti_Luint8 rfl (by first | exact ints_length _ _ | exact rowsA_length _ _ | exact Cms_len _ | exact mapLen _ | rfl))) ?_
         refine any_take 31 rfl (by first | rfl | decide +kernel) rfl (by first | exact HeldL.refl _ | exact HeldL.append _ _ | simp [HeldL]) (fun H' hH => OpOk.step (ok_load rfl ti_api_State (locA_held hH rfl) rfl)) ?_
         refine any_one 32 rfl (by first | rfl | decide +kernel) rfl rfl (ok_call rfl rfl rfl ((sunit_ok s hck).lendV (EntL.cons (Ent.stz s hz rfl rfl rfl) EntL.nil) (by simp [renL, AV.ren, StC_ren]))) (.inr (by first | (simp [HeldL]; done) | (simp only [HeldL, List.map_cons, List.map_nil, List.cons_append, List.nil_append, List.set_cons_zero, List.set_cons_succ]; (repeat' first | trivial | rfl | constructor)))) ?_
         refine any_take 33 rfl (by first | rfl | decide +kernel) rfl (by first | exact HeldL.refl _ | exact HeldL.append _ _ | simp [HeldL]) (fun H' hH => OpOk.step (ok_binOp rfl ti_int rfl)) ?_
         refine any_take 34 rfl (by first | rfl | decide +kernel) rfl (by first | exact HeldL.refl _ | exact HeldL.append _ _ | simp [HeldL]) (fun H' hH => OpOk.step (ok_pick rfl rfl)) ?_
         refine any_done rfl ?_
         refine keepK hK45 [1, 5, 149] (by dsimp) (by dsimp) ?_
         refine T.cond rfl (fun hc => ?_) (fun hc => ?_) -- cond 8
         ·(try simp only [dE] at hc)
          refine T.seq fun K50 hK50 => ?_
          refine T.region ?_ -- region 20
          refine ro rfl rfl (OpOk.step (ok_moveb (c := false) (.inr rfl) rfl)) ?_
          refine ro_nil ?_
          refine keepK hK50 [6] (by dsimp) (by dsimp) ?_
          refine T.ret (hQ _ _ _ rfl ?_).1 -- ret 18
          exact by (rw [stepZ_4 (by assumption), if_neg (by unfold Z4; intro h; obtain ⟨h1, h2, h3, h4, h5⟩ := h; first | omega | (simp_all; done))]; exact ch_end (z' := z) (p := 2) (l := z.pars) hj rfl rfl rfl (by decide) (Ent.sl0 (b := ⟨2, false, Prs z.pars⟩) rfl rfl (by simp)) ⟨rfl, trivial⟩)
         ·(try simp only [dE] at hc)
          refine T.skip ?_
          refine keepK hK44 [1, 5] (by dsimp) (by dsimp) ?_
          refine T.seq fun K51 hK51 => ?_
          refine T.draw mixed (SH [15] (HeldL ([none, some (ZR s.zs j (ZnS z (.sl 2 0 z.pars.length))), none, none, some (RcB x)]))) ?_ -- region 21
          refine any_take 0 rfl (by first | rfl | decide +kernel) rfl (by first | (simp [HeldL]; done) | (simp only [HeldL, List.map_cons, List.map_nil, List.cons_append, List.nil_append, List.set_cons_zero, List.set_cons_succ]; (repeat' first | trivial | rfl | constructor))) (fun H' hH => OpOk.step (ok_move (.inl rfl))) ?_
          refine any_take 1 rfl (by first | rfl | decide +kernel) rfl (by first | (simp [HeldL]; done) | (simp only [HeldL, List.map_cons, List.map_nil, List.cons_append, List.nil_append, List.set_cons_zero, List.set_cons_succ]; (repeat' first | trivial | rfl | constructor))) (fun H' hH => OpOk.step (ok_move (.inl rfl))) ?_
          refine any_take 2 rfl (by first | rfl | decide +kernel) rfl (by first | (simp [HeldL]; done) | (simp only [HeldL, List.map_cons, List.map_nil, List.cons_append, List.nil_append, List.set_cons_zero, List.set_cons_succ]; (repeat' first | trivial | rfl | constructor))) (fun H' hH => OpOk.step (ok_nilCheck rfl rfl)) ?_
          refine any_take 3 rfl (by first | rfl | decide +kernel) rfl (by first | (simp [HeldL]; done) | (simp only [HeldL, List.map_cons, List.map_nil, List.cons_append, List.nil_append, List.set_cons_zero, List.set_cons_succ]; (repeat' first | trivial | rfl | constructor))) (fun H' hH => OpOk.step (ok_fieldAddr rfl ti_api_Zone rfl rfl ti_Lapi_Par (by decide) rfl)) ?_
          refine any_take 4 rfl (by first | rfl | decide +kernel) rfl (by first | (simp [HeldL]; done) | (simp only [HeldL, List.map_cons, List.map_nil, List.cons_append, List.nil_append, List.set_cons_zero, List.set_cons_succ]; (repeat' first | trivial | rfl | constructor))) (fun H' hH => OpOk.step (by exact ok_load rfl ti_Lapi_Par (cl := ZnS z (.sl 2 0 z.pars.length)) (f := 5) (locA_held hH (ZR_loc hj rfl)) rfl)) ?_
          refine any_take 5 rfl (by first | rfl | decide +kernel) rfl (by first | (simp [HeldL]; done) | (simp only [HeldL, List.map_cons, List.map_nil, List.cons_append, List.nil_append, List.set_cons_zero, List.set_cons_succ]; (repeat' first | trivial | rfl | constructor))) (fun H' hH => OpOk.step (ok_fieldAddr rfl ti_api_Rec rfl rfl ti_int (by decide) rfl)) ?_
          refine any_take 6 rfl (by first | rfl | decide +kernel) rfl (by first | (simp [HeldL]; done) | (simp only [HeldL, List.map_cons, List.map_nil, List.cons_append, List.nil_append, List.set_cons_zero, List.set_cons_succ]; (repeat' first | trivial | rfl | constructor))) (fun H' hH => OpOk.step (ok_load rfl ti_int (locA_held hH rfl) rfl)) ?_
          refine any_take 7 rfl (by first | rfl | decide +kernel) rfl (by first | (simp [HeldL]; done) | (simp only [HeldL, List.map_cons, List.map_nil, List.cons_append, List.nil_append, List.set_cons_zero, List.set_cons_succ]; (repeat' first | trivial | rfl | constructor))) (fun H' hH => OpOk.step (ok_fieldAddr rfl ti_api_Rec rfl rfl ti_Luint8 (by decide) rfl)) ?_
          refine any_take 8 rfl (by first | rfl | decide +kernel) rfl (by first | (simp [HeldL]; done) | (simp only [HeldL, List.map_cons, List.map_nil, List.cons_append, List.nil_append, List.set_cons_zero, List.set_cons_succ]; (repeat' first | trivial | rfl | constructor))) (fun H' hH => OpOk.step (ok_load rfl ti_Luint8 (locA_held hH rfl) rfl)) ?_
          refine any_one 9 rfl (by first | rfl | decide +kernel) rfl rfl (ok_call rfl rfl rfl ((clone_frz x.body (by omega)).plain (by simp [renL, AV.ren, renL_ints]) (by simp [AV.ren, renL_ints]))) (.inr (by first | (simp [HeldL]; done) | (simp only [HeldL, List.map_cons, List.map_nil, List.cons_append, List.nil_append, List.set_cons_zero, List.set_cons_succ]; (repeat' first | trivial | rfl | constructor)))) ?_
          refine any_take 10 rfl (by first | rfl | decide +kernel) rfl (by first | (simp [HeldL]; done) | (simp only [HeldL, List.map_cons, List.map_nil, List.cons_append, List.nil_append, List.set_cons_zero, List.set_cons_succ]; (repeat' first | trivial | rfl | constructor))) (fun H' hH => OpOk.step (ok_build rfl ti_api_Par rfl)) ?_
          refine any_one 11 rfl (by first | rfl | decide +kernel) rfl rfl (OpOk.step (ok_buildSlice (n := 1) (ps := #[(0, .tmp 160)]) rfl ti_Lapi_Par rfl ti_api_Par (by decide) rfl rfl (by decide) rfl rfl rfl)) (.inr (by first | (simp [HeldL]; done) | (simp only [HeldL, List.map_cons, List.map_nil, List.cons_append, List.nil_append, List.set_cons_zero, List.set_cons_succ]; (repeat' first | trivial | rfl | constructor)))) ?_
          refine any_one 12 rfl (by first | rfl | decide +kernel) rfl rfl (OpOk.step (by exact ok_append_map (fun p => .agg (PrC p)) (xs := z.pars) (ys := [(⟨x.w, x.body⟩ : Pr)]) rfl ti_Lapi_Par rfl ti_api_Par (by decide) (by decide) rfl ti_Lapi_Par (by simp) rfl rfl rfl rfl rfl rfl rfl rfl rfl (by show (z.pars.length + 1) * 32 ≤ _; omega))) (.inr (by first | (simp [HeldL]; done) | (simp only [HeldL, List.map_cons, List.map_nil, List.cons_append, List.nil_append, List.set_cons_zero, List.set_cons_succ]; (repeat' first | trivial | rfl | constructor)))) ?_
          refine any_take 13 rfl (by first | rfl | decide +kernel) rfl (by first | (simp [HeldL]; done) | (simp only [HeldL, List.map_cons, List.map_nil, List.cons_append, List.nil_append, List.set_cons_zero, List.set_cons_succ]; (repeat' first | trivial | rfl | constructor))) (fun H' hH => OpOk.step (ok_nilCheck rfl rfl)) ?_
          refine any_take 14 rfl (by first | rfl | decide +kernel) rfl (by first | (simp [HeldL]; done) | (simp only [HeldL, List.map_cons, List.map_nil, List.cons_append, List.nil_append, List.set_cons_zero, List.set_cons_succ]; (repeat' first | trivial | rfl | constructor))) (fun H' hH => OpOk.step (ok_fieldAddr rfl ti_api_Zone rfl rfl ti_Lapi_Par (by decide) rfl)) ?_
          refine any_one 15 rfl (by first | rfl | decide +kernel) rfl rfl (OpOk.step ((ok_store rfl ti_Lapi_Par (by decide) (id := 1) (j := j) (f := 5) rfl rfl rfl (ZR_get hj) rfl (by show 5 + 1 ≤ 6; decide) (.inr rfl)).eq (x' := .any) (H'' := [some ⟨1, true, ints .i64 s.st⟩, some (ZR s.zs j (ZnS z (.sl 6 0 (z.pars ++ [(⟨x.w, x.body⟩ : Pr)]).length))), none, some (SB s (.sl 0 0 s.st.length) (.sl 1 0 s.zs.length)), some (RcB x), some ⟨2, true, Prs [(⟨x.w, x.body⟩ : Pr)]⟩, some ⟨2, true, Prs (z.pars ++ [(⟨x.w, x.body⟩ : Pr)])⟩]) rfl (by show [_, some (⟨6, true, (ZR s.zs j (ZnS z (.sl 2 0 z.pars.length))).els.set j (.agg (ZnS z (.sl 6 0 (z.pars ++ [(⟨x.w, x.body⟩ : Pr)]).length)))⟩ : Blk), _, _, _, _, _] = _; rw [ZR_set] <;> rfl))) (.inl (by simp)) ?_
          refine any_done rfl ?_
          refine keepK hK51 [1] (by dsimp) (by dsimp) ?_
          refine T.drawH mixed [15] ?_ -- region 22
          refine any_take 0 rfl (by first | rfl | decide +kernel) rfl (HeldL.refl _) (fun H' hH => OpOk.step (ok_move (.inl rfl))) ?_
          refine any_take 1 rfl (by first | rfl | decide +kernel) rfl (HeldL.refl _) (fun H' hH => OpOk.step (ok_move (.inl rfl))) ?_
          refine any_take 2 rfl (by first | rfl | decide +kernel) rfl (HeldL.refl _) (fun H' hH => OpOk.step (ok_nilCheck rfl rfl)) ?_
          refine any_take 3 rfl (by first | rfl | decide +kernel) rfl (HeldL.refl _) (fun H' hH => OpOk.step (ok_fieldAddr rfl ti_api_Zone rfl rfl ti_Lapi_Par (by decide) rfl)) ?_
          refine any_take 4 rfl (by first | rfl | decide +kernel) rfl (HeldL.refl _) (fun H' hH => OpOk.step (by exact ok_load rfl ti_Lapi_Par (cl := ZnS z (.sl 6 0 (z.pars ++ [(⟨x.w, x.body⟩ : Pr)]).length)) (f := 5) (locA_held hH (ZR_loc hj rfl)) rfl)) ?_
          refine any_take 5 rfl (by first | rfl | decide +kernel) rfl (HeldL.refl _) (fun H' hH => OpOk.step (ok_move (.inl rfl))) ?_
          refine any_take 6 rfl (by first | rfl | decide +kernel) rfl (HeldL.refl _) (fun H' hH => OpOk.step (ok_nilCheck rfl rfl)) ?_
          refine any_take 7 rfl (by first | rfl | decide +kernel) rfl (HeldL.refl _) (fun H' hH => OpOk.step (ok_fieldAddr rfl ti_api_Zone rfl rfl ti_Lapi_Par (by decide) rfl)) ?_
          refine any_take 8 rfl (by first | rfl | decide +kernel) rfl (HeldL.refl _) (fun H' hH => OpOk.step (by exact ok_load rfl ti_Lapi_Par (cl := ZnS z (.sl 6 0 (z.pars ++ [(⟨x.w, x.body⟩ : Pr)]).length)) (f := 5) (locA_held hH (ZR_loc hj rfl)) rfl)) ?_
          refine any_take 9 rfl (by first | rfl | decide +kernel) rfl (HeldL.refl _) (fun H' hH => OpOk.step (ok_len' rfl rfl ti_Lapi_Par rfl (by first | exact ints_length _ _ | exact rowsA_length _ _ | exact Cms_len _ | exact mapLen _ | rfl))) ?_
          refine any_take 10 rfl (by first | rfl | decide +kernel) rfl (HeldL.refl _) (fun H' hH => OpOk.step (by exact ok_sub64 rfl ti_int rfl rfl (by simp; omega) (by simp; omega))) ?_
          refine any_take 11 rfl (by first | rfl | decide +kernel) rfl (HeldL.refl _) (fun H' hH => OpOk.step ((ok_max rfl rfl rfl).eq (x' := .int (((z.pars ++ [(⟨x.w, x.body⟩ : Pr)]).length - 2 : Nat) : Int)) (by exact congrArg AV.int (by simp; omega)) rfl)) ?_
          refine any_take 12 rfl (by first | rfl | decide +kernel) rfl (HeldL.refl _) (fun H' hH => OpOk.step (by exact ok_slice (r := .sl 6 ((z.pars ++ [(⟨x.w, x.body⟩ : Pr)]).length - 2) ((z.pars ++ [(⟨x.w, x.body⟩ : Pr)]).length - ((z.pars ++ [(⟨x.w, x.body⟩ : Pr)]).length - 2))) rfl ti_Lapi_Par (.inl ⟨_, _, rfl, ti_api_Par, rfl⟩) rfl rfl rfl (sliceA_held hH (by simp [sliceA, hget]; omega)))) ?_
          refine any_take 13 rfl (by first | rfl | decide +kernel) rfl (HeldL.refl _) (fun H' hH => OpOk.step (ok_nilCheck rfl rfl)) ?_
          refine any_take 14 rfl (by first | rfl | decide +kernel) rfl (HeldL.refl _) (fun H' hH => OpOk.step (ok_fieldAddr rfl ti_api_Zone rfl rfl ti_Lapi_Par (by decide) rfl)) ?_
          refine any_one 15 rfl (by first | rfl | decide +kernel) rfl rfl (OpOk.step ((ok_store rfl ti_Lapi_Par (by decide) (id := 1) (j := j) (f := 5) rfl rfl rfl (ZR_get hj) rfl (by show 5 + 1 ≤ 6; decide) (.inr rfl)).eq (x' := .any) (H'' := [some ⟨1, true, ints .i64 s.st⟩, some (ZR s.zs j (ZnS z (.sl 6 ((z.pars ++ [(⟨x.w, x.body⟩ : Pr)]).length - 2) ((z.pars ++ [(⟨x.w, x.body⟩ : Pr)]).length - ((z.pars ++ [(⟨x.w, x.body⟩ : Pr)]).length - 2))))), none, some (SB s (.sl 0 0 s.st.length) (.sl 1 0 s.zs.length)), some (RcB x), some ⟨2, true, Prs [(⟨x.w, x.body⟩ : Pr)]⟩, some ⟨2, true, Prs (z.pars ++ [(⟨x.w, x.body⟩ : Pr)])⟩]) rfl (by show [_, some (⟨6, true, (ZR s.zs j (ZnS z (.sl 6 0 (z.pars ++ [(⟨x.w, x.body⟩ : Pr)]).length))).els.set j (.agg (ZnS z (.sl 6 ((z.pars ++ [(⟨x.w, x.body⟩ : Pr)]).length - 2) ((z.pars ++ [(⟨x.w, x.body⟩ : Pr)]).length - ((z.pars ++ [(⟨x.w, x.body⟩ : Pr)]).length - 2)))))⟩ : Blk), _, _, _, _, _] = _; rw [ZR_set] <;> rfl))) (.inl (by simp)) ?_
          refine any_done rfl ?_
          refine keepK hK43 [] (by dsimp) (by dsimp) ?_
          refine T.exit ?_
          refine keepK hK4 [] (by dsimp) (by dsimp) ?_
          refine T.seq fun K52 hK52 => ?_
          refine T.region ?_ -- region 27
          refine ro rfl rfl (OpOk.step (ok_moveb (c := true) (.inr rfl) rfl)) ?_
          refine ro_nil ?_
          refine keepK hK52 [6] (by dsimp) (by dsimp) ?_
          refine T.ret (hQ _ _ _ rfl ?_).1 -- ret 19
          exact by (rw [stepZ_4 (by assumption), if_pos (by unfold Z4; refine ⟨?_, ?_, ?_, ?_, ?_⟩ <;> first | assumption | omega | (simp_all; done))]; exact ch_end (z' := { z with pars := last2 (z.pars ++ [(⟨x.w, x.body⟩ : Pr)]) }) (p := 6) (l := (z.pars ++ [(⟨x.w, x.body⟩ : Pr)])) hj rfl rfl rfl (by decide) (Ent_last2 rfl) ⟨rfl, trivial⟩)
    ·(try simp only [dE] at hc)
     refine T.skip ?_
     refine keepK hK41 [1, 7, 16] (by dsimp) (by dsimp) ?_
     refine T.seq fun K53 hK53 => ?_
     refine T.seq fun K54 hK54 => ?_
     refine T.region ?_ -- region 8
     refine ro rfl rfl (OpOk.step (ok_binOp rfl ti_int rfl)) ?_
     refine ro rfl rfl (OpOk.step (ok_move (.inr rfl))) ?_
     refine ro_nil ?_
     refine keepK hK54 [1, 7, 16, 25] (by dsimp) (by dsimp) ?_
     refine T.cond rfl (fun hc => ?_) (fun hc => ?_) -- cond 9
     ·(try simp only [dE] at hc)
      refine T.exit ?_
      refine keepK hK7 [1, 7] (by dsimp) (by dsimp) ?_
      refine T.seq fun K55 hK55 => ?_
      refine T.seq fun K56 hK56 => ?_
      refine T.seq fun K57 hK57 => ?_
      refine T.region ?_ -- region 23
      refine ro rfl rfl (OpOk.step (ok_move (.inl rfl))) ?_
      refine ro rfl rfl (OpOk.step (ok_nilCheck rfl rfl)) ?_
      refine ro rfl rfl (OpOk.step (ok_fieldAddr rfl ti_api_Zone rfl rfl ti_int (by decide) rfl)) ?_
      refine ro rfl rfl (OpOk.step (by exact ok_load rfl ti_int (cl := ZnS z (.sl 2 0 z.pars.length)) (f := 1) (ZR_loc hj rfl) rfl)) ?_
      refine ro rfl rfl (OpOk.step (ok_binOp rfl ti_int rfl)) ?_
      refine ro_case rfl rfl (OpOk.step (ok_moveb (.inl rfl) rfl)) (fun hb => ?_) (fun hb => ?_)
      ·(try simp only [dE] at hb)
       refine ro_skip rfl rfl ?_
       refine ro_skip rfl rfl ?_
       refine ro rfl rfl (OpOk.step (ok_pickb (t := true) (d := true) rfl rfl rfl)) ?_
       refine ro_nil ?_
       refine keepK hK57 [1, 188] (by dsimp) (by dsimp) ?_
       refine T.cond_true rfl ?_
       refine T.seq fun K58 hK58 => ?_
       refine T.region ?_ -- region 24
       refine ro rfl rfl (OpOk.step (ok_moveb (c := false) (.inr rfl) rfl)) ?_
       refine ro_nil ?_
       refine keepK hK58 [6] (by dsimp) (by dsimp) ?_
       refine T.ret (hQ _ _ _ rfl ?_).1 -- ret 20
       exact by (rw [stepZ_5 (by assumption), if_neg (by unfold Z5; intro h; obtain ⟨h1, h2⟩ := h; first | omega | (simp_all; done))]; exact ch_end (z' := z) (p := 2) (l := z.pars) hj rfl rfl rfl (by decide) (Ent.sl0 (b := ⟨2, false, Prs z.pars⟩) rfl rfl (by simp)) ⟨rfl, trivial⟩)
      ·(try simp only [dE] at hb)
       refine ro rfl rfl (OpOk.step (ok_move (.inl rfl))) ?_
       refine ro rfl rfl (OpOk.step (ok_unOp rfl rfl)) ?_
       refine ro rfl rfl (OpOk.step (ok_pick rfl rfl)) ?_
       refine ro_nil ?_
       refine keepK hK57 [1, 188] (by dsimp) (by dsimp) ?_
       refine T.cond rfl (fun hc => ?_) (fun hc => ?_) -- cond 10
       ·(try simp only [dE] at hc)
        refine T.seq fun K59 hK59 => ?_
        refine T.region ?_ -- region 24
        refine ro rfl rfl (OpOk.step (ok_moveb (c := false) (.inr rfl) rfl)) ?_
        refine ro_nil ?_
        refine keepK hK59 [6] (by dsimp) (by dsimp) ?_
        refine T.ret (hQ _ _ _ rfl ?_).1 -- ret 21
        exact by (rw [stepZ_5 (by assumption), if_neg (by unfold Z5; intro h; obtain ⟨h1, h2⟩ := h; first | omega | (simp_all; done))]; exact ch_end (z' := z) (p := 2) (l := z.pars) hj rfl rfl rfl (by decide) (Ent.sl0 (b := ⟨2, false, Prs z.pars⟩) rfl rfl (by simp)) ⟨rfl, trivial⟩)
       ·(try simp only [dE] at hc)
        refine T.skip ?_
        refine keepK hK56 [1] (by dsimp) (by dsimp) ?_
        refine T.region ?_ -- region 25
        refine ro rfl rfl (OpOk.step (ok_move (.inl rfl))) ?_
        refine ro rfl rfl (OpOk.step (ok_nilCheck rfl rfl)) ?_
        refine ro rfl rfl (OpOk.step (ok_fieldAddr rfl ti_api_Zone rfl rfl ti_bool (by decide) rfl)) ?_
        refine ro rfl rfl (OpOk.step ((ok_store rfl ti_bool (by decide) (id := 1) (j := j) (f := 4) rfl rfl rfl (ZR_get hj) rfl (by show 4 + 1 ≤ 6; decide) (.inr rfl)).eq (x' := .any) (H'' := [some ⟨1, true, ints .i64 s.st⟩, some (ZR s.zs j (ZnS { z with whole := true } (.sl 2 0 z.pars.length))), some ⟨2, true, Prs z.pars⟩, some (SB s (.sl 0 0 s.st.length) (.sl 1 0 s.zs.length)), some (RcB x)]) rfl (by show [_, some (⟨6, true, (ZR s.zs j (ZnS z (.sl 2 0 z.pars.length))).els.set j (.agg (ZnS { z with whole := true } (.sl 2 0 z.pars.length)))⟩ : Blk), _, _, _] = _; rw [ZR_set] <;> rfl))) ?_
        refine ro_nil ?_
        refine keepK hK55 [] (by dsimp) (by dsimp) ?_
        refine T.exit ?_
        refine keepK hK4 [] (by dsimp) (by dsimp) ?_
        refine T.seq fun K60 hK60 => ?_
        refine T.region ?_ -- region 27
        refine ro rfl rfl (OpOk.step (ok_moveb (c := true) (.inr rfl) rfl)) ?_
        refine ro_nil ?_
        refine keepK hK60 [6] (by dsimp) (by dsimp) ?_
        refine T.ret (hQ _ _ _ rfl ?_).1 -- ret 22
        exact by (rw [stepZ_5 (by assumption), if_pos (by unfold Z5; refine ⟨?_, ?_⟩ <;> first | assumption | omega | (simp_all; done))]; exact ch_end (z' := { z with whole := true }) (p := 2) (l := z.pars) hj rfl rfl rfl (by decide) (Ent.sl0 (b := ⟨2, false, Prs z.pars⟩) rfl rfl (by simp)) ⟨rfl, trivial⟩)
     ·(try simp only [dE] at hc)
      refine T.skip ?_
      refine keepK hK53 [16] (by dsimp) (by dsimp) ?_
      refine T.seq fun K61 hK61 => ?_
      refine T.region ?_ -- region 9
      refine ro rfl rfl (OpOk.step (ok_binOp rfl ti_int rfl)) ?_
      refine ro rfl rfl (OpOk.step (ok_move (.inr rfl))) ?_
      refine ro_nil ?_
      refine keepK hK61 [27] (by dsimp) (by dsimp) ?_
      refine T.cond rfl (fun hc => ?_) (fun hc => ?_) -- cond 11
      ·(try simp only [dE] at hc)
       refine T.exit ?_
       refine keepK hK6 [] (by dsimp) (by dsimp) ?_
       refine T.seq fun K62 hK62 => ?_
       refine T.seq fun K63 hK63 => ?_
       refine T.region ?_ -- region 26
       refine ro rfl rfl (OpOk.step (ok_moveb (c := false) (.inr rfl) rfl)) ?_
       refine ro_nil ?_
       refine keepK hK63 [6] (by dsimp) (by dsimp) ?_
       refine T.ret (hQ _ _ _ rfl ?_).1 -- ret 23
       exact by (rw [stepZ_no (by assumption) (by assumption) (by assumption) (by assumption) (by assumption)]; exact ch_end (z' := z) (p := 2) (l := z.pars) hj rfl rfl rfl (by decide) (Ent.sl0 (b := ⟨2, false, Prs z.pars⟩) rfl rfl (by simp)) ⟨rfl, trivial⟩)
      ·(try simp only [dE] at hc)
       refine T.skip ?_
       refine keepK hK12 [] (by dsimp) (by dsimp) ?_
       refine T.exit ?_
       refine keepK hK6 [] (by dsimp) (by dsimp) ?_
       refine T.seq fun K64 hK64 => ?_
       refine T.seq fun K65 hK65 => ?_
       refine T.region ?_ -- region 26
       refine ro rfl rfl (OpOk.step (ok_moveb (c := false) (.inr rfl) rfl)) ?_
       refine ro_nil ?_
       refine keepK hK65 [6] (by dsimp) (by dsimp) ?_
       refine T.ret (hQ _ _ _ rfl ?_).1 -- ret 24
       exact by (rw [stepZ_no (by assumption) (by assumption) (by assumption) (by assumption) (by assumption)]; exact ch_end (z' := z) (p := 2) (l := z.pars) hj rfl rfl rfl (by decide) (Ent.sl0 (b := ⟨2, false, Prs z.pars⟩) rfl rfl (by simp)) ⟨rfl, trivial⟩)
end Go.Proofs.Ytlegolcbjjjofaa.AmF
