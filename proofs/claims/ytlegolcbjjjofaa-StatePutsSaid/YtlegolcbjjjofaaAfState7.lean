/- Walks over the abstract machine: states of the log: a member has another state. -/
import Derived.Test.YtlegolcbjjjofaaAfState6
namespace Go.Proofs.Ytlegolcbjjjofaa.AmF
open Go Go.AM
set_option maxRecDepth 100000
set_option maxHeartbeats 2000000
set_option linter.unusedSimpArgs false
set_option linter.unusedVariables false
attribute [local simp] tkeep tget tput ev cav argsTM pickA normT putA splice AV.cells ints_length rowsA_length Prs_len Zns_len
/-- A block is no longer told. -/
theorem _root_.Go.AM.TEnt.forget {k : Nat} {tm : TM} {H : Heap} (id : Nat) : TEnt k tm H tm (H.set id none) := by
  intro g vs hH hk hg ht
  subst hH
  let g' : G := { g with H := g.H.set id none }
  have hget' : ∀ j b', hget g'.H j = some b' → hget g.H j = some b' := by
    intro j b' h
    simp only [g', hget_set] at h
    by_cases hj : j = id ∧ id < g.H.length
    · rw [if_pos hj] at h; cases h
    · rw [if_neg hj] at h; exact h
  have hren : Ren some g g' := by
    refine ⟨fun _ h => h, fun _ _ => rfl, fun i j hi hij => ?_⟩
    cases hij
    exact ⟨by simpa [g'] using hi, fun b' hb' => ⟨b', hget' i b' hb', rfl, rfl, rfl, rfl⟩⟩
  have hgo : GOk g' := by
    refine ⟨fun j b' hb' => ?_, fun j j' b' c' hb' hc' hob hoc hs hs' hφ => hg.inj j j' b' c' (hget' _ _ hb') (hget' _ _ hc') hob hoc hs hs' hφ, hg.zlt⟩
    have hb0 := hg.blk j b' (hget' j b' hb')
    refine ⟨hb0.own, hb0.frz, hb0.fit, hb0.pos, fun hs => ?_⟩
    obtain ⟨c, e, lo, hi, m1, m2, m3, xs, m4, m5⟩ := hb0.mem hs
    exact ⟨c, e, lo, hi, m1, m2, m3, xs, RelL.mono hren m4, m5⟩
  have hext : Ext g g' := by
    refine ⟨.refl _, Nat.le_refl _, fun _ _ _ => rfl, fun _ h => h, fun x hx => .inl hx, fun x hx => ?_⟩
    obtain ⟨j, b', h1, h2, h3, h4⟩ := hx
    exact .inl ⟨j, b', hget' j b' h1, h2, h3, h4⟩
  exact ⟨g', rfl, rfl, hgo, fun t => Rel.mono hren (ht t), hext, Sub.pin ⟨hren, hext⟩ hk⟩
theorem Ent.st {H : Heap} {a b : Nat} (s : St) (ha : hget H a = some ⟨1, false, ints .i64 s.st⟩) (hb : hget H b = some ⟨6, false, Zns s.zs⟩) : Ent H (.agg (StS s (.sl a 0 s.st.length) (.sl b 0 s.zs.length))) (.agg (StC s)) :=
  Ent.agg (EntL.append (EntL.refl _) (EntL.cons (Ent.refl _) (EntL.cons (Ent.refl _) (EntL.cons (Ent.sl0 (b := ⟨1, false, ints .i64 s.st⟩) ha rfl (ints_length _ _)) (EntL.cons (Ent.sl0 (b := ⟨6, false, Zns s.zs⟩) hb rfl (Zns_len _)) EntL.nil)))))
theorem Ent.stz {H : Heap} {a b p j : Nat} {z : Zn} (s : St) (hz : s.zs[j]? = some z) (ha : hget H a = some ⟨1, false, ints .i64 s.st⟩) (hb : hget H b = some ⟨6, false, (Zns s.zs).set j (.agg (ZnS z (.sl p 0 z.pars.length)))⟩) (hp : hget H p = some ⟨2, false, Prs z.pars⟩) : Ent H (.agg (StS s (.sl a 0 s.st.length) (.sl b 0 s.zs.length))) (.agg (StC s)) :=
  Ent.agg (EntL.append (EntL.refl _) (EntL.cons (Ent.refl _) (EntL.cons (Ent.refl _) (EntL.cons (Ent.sl0 (b := ⟨1, false, ints .i64 s.st⟩) ha rfl (ints_length _ _)) (EntL.cons ((Ent.sl0 (b := ⟨6, false, (Zns s.zs).set j (.agg (ZnS z (.sl p 0 z.pars.length)))⟩) hb rfl (by simp)).trans (Ent.fz (EntL.back (Zns_get hz) (Ent.zone z hp)))) EntL.nil)))))
/-- A member's record may be. -/
def StOk (st : List Int) (x : Rc) : Prop := (0 ≤ x.member ∧ x.member < st.length) ∧ (0 ≤ x.status ∧ x.status ≤ 2) ∧ ((oddS st).2.2 = true → (oddS st).1 = x.member)
instance (st : List Int) (x : Rc) : Decidable (StOk st x) := by unfold StOk; infer_instance
def unw (z : Zn) : Zn := { z with whole := false }
/-- Zones of which so many were turned. -/
def unwK (zs : List Zn) (i : Nat) : List Zn := (zs.take i).map unw ++ zs.drop i
theorem unwK_len (zs : List Zn) (i : Nat) (h : i ≤ zs.length) : (unwK zs i).length = zs.length := by unfold unwK; simp; omega
theorem unwK_get {zs : List Zn} {i : Nat} {z : Zn} (hz : zs[i]? = some z) : (unwK zs i)[i]? = some z := by
  have hi := (List.getElem?_eq_some_iff.1 hz).1
  unfold unwK
  rw [List.getElem?_append_right (by simp; omega)]
  simp
  rw [show i - min i zs.length = 0 by omega]
  simpa using hz
theorem unwK_set {zs : List Zn} {i : Nat} {z : Zn} (hz : zs[i]? = some z) : (unwK zs i).set i (unw z) = unwK zs (i + 1) := by
  have hi := (List.getElem?_eq_some_iff.1 hz).1
  unfold unwK
  rw [List.set_append_right _ _ (by simp; omega), take_succ_get hz, List.map_append]
  simp
  rw [show i - min i zs.length = 0 by omega, List.drop_eq_getElem_cons hi, List.set_cons_zero]
theorem unwK_0 (zs : List Zn) : unwK zs 0 = zs := rfl
theorem src3 : ∀ j, j < 3 → [0, 1, 2][j]? = some j := by decide
theorem znb_ren (ρ : Nat → Option Nat) (l : List Zn) : some (Blk.ren ρ ⟨6, true, Zns l⟩) = some ⟨6, true, Zns l⟩ := by simp [Blk.ren, Zns_ren]
theorem unwK_all (zs : List Zn) : unwK zs zs.length = zs.map unw := by unfold unwK; simp
theorem Zns_set (zs : List Zn) (j : Nat) (z : Zn) : (Zns zs).set j (.agg (ZnC z)) = Zns (zs.set j z) := by unfold Zns; rw [List.map_set]
theorem sstatus_ok (s : St) (x : Rc) (hn : s.st.length ≤ 1000000000) (hm : s.zs.length ≤ 1000000000) : CSpec Try.prog 61 [SB s (.sl 1 0 s.st.length) (.sl 2 0 s.zs.length), ⟨1, true, ints .i64 s.st⟩, ⟨6, true, Zns s.zs⟩] [.ref 0 0 0, .agg (RcC x)] [some (SB s (.sl 1 0 s.st.length) (.sl 2 0 s.zs.length)), some ⟨1, true, ints .i64 (if StOk s.st x then s.st.set x.member.toNat x.status else s.st)⟩, some ⟨6, true, Zns (if StOk s.st x then s.zs.map unw else s.zs)⟩] (.b (decide (StOk s.st x))) := by
 have hob := fIdx_bd oddP s.st
 refine CSpec.body Try.func61 rfl rfl rfl rfl rfl fun Q hQ => ?_
 refine T.seq fun K1 hK1 => ?_
 refine T.region ?_ -- region 0
 refine ro rfl rfl (OpOk.step (ok_box (n := 10) rfl rfl (by decide))) ?_
 refine ro rfl rfl (OpOk.step (ok_moveb (c := false) (.inr rfl) rfl)) ?_
 refine ro_nil ?_
 refine keepK hK1 [0, 3] (by dsimp) (by dsimp) ?_
 refine T.seq fun K2 hK2 => ?_
 refine T.region ?_ -- region 1
 refine ro rfl rfl (OpOk.step (ok_move (.inl rfl))) ?_
 refine ro rfl rfl (OpOk.step (ok_nilCheck rfl rfl)) ?_
 refine ro rfl rfl (OpOk.step (ok_load rfl ti_api_State rfl rfl)) ?_
 refine ro rfl rfl (ok_call rfl rfl rfl ((sodd_ok s (by omega)).lendR (R := []) (R' := []) (x' := .tup [.int (oddS s.st).1, .int (oddS s.st).2.1, .b (oddS s.st).2.2]) (EntL.cons (Ent.st s rfl rfl) EntL.nil) (by simp [renL, AV.ren, StC_ren]) rfl rfl rfl rfl)) ?_
 refine ro rfl rfl (OpOk.step (ok_move (.inl rfl))) ?_
 refine ro rfl rfl (OpOk.step (ok_extract rfl rfl rfl)) ?_
 refine ro rfl rfl (OpOk.step (ok_extract rfl rfl rfl)) ?_
 refine ro rfl rfl (OpOk.step (ok_extract rfl rfl rfl)) ?_
 refine ro rfl rfl (OpOk.step (ok_move (.inr rfl))) ?_
 refine ro rfl rfl (OpOk.step (ok_move (.inr rfl))) ?_
 refine ro rfl rfl (OpOk.step (ok_move (.inr rfl))) ?_
 refine ro_nil ?_
 refine keepK hK2 [0, 3, 5, 7] (by dsimp) (by dsimp) ?_
 refine T.seq fun K3 hK3 => ?_
 refine T.seq fun K4 hK4 => ?_
 refine T.drawH mixed [] ?_ -- region 2
 refine any_take 0 rfl (by first | rfl | decide +kernel) rfl (HeldL.refl _) (fun H' hH => OpOk.step (ok_fieldAddr rfl ti_api_Rec rfl rfl ti_int (by decide) rfl)) ?_
 refine any_take 1 rfl (by first | rfl | decide +kernel) rfl (HeldL.refl _) (fun H' hH => OpOk.step (ok_load rfl ti_int (locA_held hH rfl) rfl)) ?_
 refine any_take 2 rfl (by first | rfl | decide +kernel) rfl (HeldL.refl _) (fun H' hH => OpOk.step (ok_move (.inl rfl))) ?_
 refine any_take 3 rfl (by first | rfl | decide +kernel) rfl (HeldL.refl _) (fun H' hH => OpOk.step (ok_nilCheck rfl rfl)) ?_
 refine any_take 4 rfl (by first | rfl | decide +kernel) rfl (HeldL.refl _) (fun H' hH => OpOk.step (ok_fieldAddr rfl ti_api_State rfl rfl ti_Lint (by decide) rfl)) ?_
 refine any_take 5 rfl (by first | rfl | decide +kernel) rfl (HeldL.refl _) (fun H' hH => OpOk.step (ok_load rfl ti_Lint (locA_held hH rfl) rfl)) ?_
 refine any_take 6 rfl (by first | rfl | decide +kernel) rfl (HeldL.refl _) (fun H' hH => OpOk.step (ok_len' rfl rfl ti_Lint rfl (by first | exact ints_length _ _ | exact rowsA_length _ _ | exact Cms_len _ | exact mapLen _ | rfl))) ?_
 refine any_take 7 rfl (by first | rfl | decide +kernel) rfl (HeldL.refl _) (fun H' hH => OpOk.step (ok_binOp rfl ti_int rfl)) ?_
 refine any_take_case 8 rfl (by first | rfl | decide +kernel) rfl (HeldL.refl _) (fun H' hH => OpOk.step (ok_moveb (.inl rfl) rfl)) (fun hb => ?_) (fun hb => ?_)
 ·(try simp only [dE] at hb)
  refine any_skip 9 rfl (by first | rfl | decide +kernel) rfl (HeldL.refl _) ?_
  refine any_skip 10 rfl (by first | rfl | decide +kernel) rfl (HeldL.refl _) ?_
  refine any_skip 11 rfl (by first | rfl | decide +kernel) rfl (HeldL.refl _) ?_
  refine any_take 12 rfl (by first | rfl | decide +kernel) rfl (HeldL.refl _) (fun H' hH => OpOk.step (ok_pickb (t := true) (d := true) rfl rfl rfl)) ?_
  refine any_take 13 rfl (by first | rfl | decide +kernel) rfl (HeldL.refl _) (fun H' hH => OpOk.step (ok_moveb (c := true) (.inl rfl) rfl)) ?_
  refine any_skip 14 rfl (by first | rfl | decide +kernel) rfl (HeldL.refl _) ?_
  refine any_skip 15 rfl (by first | rfl | decide +kernel) rfl (HeldL.refl _) ?_
  refine any_one_skip 16 rfl (by first | rfl | decide +kernel) rfl rfl (.inr (HeldL.refl _)) ?_
  refine any_skip 17 rfl (by first | rfl | decide +kernel) rfl (by first | exact HeldL.refl _ | exact HeldL.append _ _ | simp [HeldL]) ?_
  refine any_take 18 rfl (by first | rfl | decide +kernel) rfl (by first | exact HeldL.refl _ | exact HeldL.append _ _ | simp [HeldL]) (fun H' hH => OpOk.step (ok_pickb (t := true) (d := true) rfl rfl rfl)) ?_
  refine any_take 19 rfl (by first | rfl | decide +kernel) rfl (by first | exact HeldL.refl _ | exact HeldL.append _ _ | simp [HeldL]) (fun H' hH => OpOk.step (ok_moveb (c := true) (.inl rfl) rfl)) ?_
  refine any_skip 20 rfl (by first | rfl | decide +kernel) rfl (by first | exact HeldL.refl _ | exact HeldL.append _ _ | simp [HeldL]) ?_
  refine any_skip 21 rfl (by first | rfl | decide +kernel) rfl (by first | exact HeldL.refl _ | exact HeldL.append _ _ | simp [HeldL]) ?_
  refine any_skip 22 rfl (by first | rfl | decide +kernel) rfl (by first | exact HeldL.refl _ | exact HeldL.append _ _ | simp [HeldL]) ?_
  refine any_skip 23 rfl (by first | rfl | decide +kernel) rfl (by first | exact HeldL.refl _ | exact HeldL.append _ _ | simp [HeldL]) ?_
  refine any_skip 24 rfl (by first | rfl | decide +kernel) rfl (by first | exact HeldL.refl _ | exact HeldL.append _ _ | simp [HeldL]) ?_
  refine any_skip 25 rfl (by first | rfl | decide +kernel) rfl (by first | exact HeldL.refl _ | exact HeldL.append _ _ | simp [HeldL]) ?_
  refine any_skip 26 rfl (by first | rfl | decide +kernel) rfl (by first | exact HeldL.refl _ | exact HeldL.append _ _ | simp [HeldL]) ?_
  refine any_take 27 rfl (by first | rfl | decide +kernel) rfl (by first | exact HeldL.refl _ | exact HeldL.append _ _ | simp [HeldL]) (fun H' hH => OpOk.step (ok_pickb (t := true) (d := true) rfl rfl rfl)) ?_
  refine any_done rfl ?_
  refine keepK hK4 [0, 3, 44] (by dsimp) (by dsimp) ?_
  refine T.cond_true rfl ?_
  refine T.seq fun K5 hK5 => ?_
  refine T.region ?_ -- region 3
  refine ro rfl rfl (OpOk.step (ok_moveb (c := false) (.inr rfl) rfl)) ?_
  refine ro_nil ?_
  refine keepK hK5 [4] (by dsimp) (by dsimp) ?_
  refine T.ret (hQ _ _ _ rfl ?_).1 -- ret 1
  have hno : ¬ StOk s.st x := fun h => by obtain ⟨⟨h1, h2⟩, ⟨h3, h4⟩, h5⟩ := h; first | omega | exact absurd (h5 (by assumption)) (by assumption)
  rw [decide_eq_false hno, if_neg hno, if_neg hno]
  exact TEnt.fin [0, 1, 2] (by decide) src3 (heap3 (SB_ren (by decide) (by decide)) (ib_ren _ _) (znb_ren _ _)) ⟨rfl, trivial⟩
 ·(try simp only [dE] at hb)
  refine any_take 9 rfl (by first | rfl | decide +kernel) rfl (HeldL.refl _) (fun H' hH => OpOk.step (ok_fieldAddr rfl ti_api_Rec rfl rfl ti_int (by decide) rfl)) ?_
  refine any_take 10 rfl (by first | rfl | decide +kernel) rfl (HeldL.refl _) (fun H' hH => OpOk.step (ok_load rfl ti_int (locA_held hH rfl) rfl)) ?_
  refine any_take 11 rfl (by first | rfl | decide +kernel) rfl (HeldL.refl _) (fun H' hH => OpOk.step (ok_binOp rfl ti_int rfl)) ?_
  refine any_take 12 rfl (by first | rfl | decide +kernel) rfl (HeldL.refl _) (fun H' hH => OpOk.step (ok_pick rfl rfl)) ?_
  refine any_take_case 13 rfl (by first | rfl | decide +kernel) rfl (HeldL.refl _) (fun H' hH => OpOk.step (ok_moveb (.inl rfl) rfl)) (fun hb => ?_) (fun hb => ?_)
  ·(try simp only [dE] at hb)
   refine any_skip 14 rfl (by first | rfl | decide +kernel) rfl (HeldL.refl _) ?_
   refine any_skip 15 rfl (by first | rfl | decide +kernel) rfl (HeldL.refl _) ?_
   refine any_one_skip 16 rfl (by first | rfl | decide +kernel) rfl rfl (.inr (HeldL.refl _)) ?_
   refine any_skip 17 rfl (by first | rfl | decide +kernel) rfl (by first | exact HeldL.refl _ | exact HeldL.append _ _ | simp [HeldL]) ?_
   refine any_take 18 rfl (by first | rfl | decide +kernel) rfl (by first | exact HeldL.refl _ | exact HeldL.append _ _ | simp [HeldL]) (fun H' hH => OpOk.step (ok_pickb (t := true) (d := true) rfl rfl rfl)) ?_
   refine any_take 19 rfl (by first | rfl | decide +kernel) rfl (by first | exact HeldL.refl _ | exact HeldL.append _ _ | simp [HeldL]) (fun H' hH => OpOk.step (ok_moveb (c := true) (.inl rfl) rfl)) ?_
   refine any_skip 20 rfl (by first | rfl | decide +kernel) rfl (by first | exact HeldL.refl _ | exact HeldL.append _ _ | simp [HeldL]) ?_
   refine any_skip 21 rfl (by first | rfl | decide +kernel) rfl (by first | exact HeldL.refl _ | exact HeldL.append _ _ | simp [HeldL]) ?_
   refine any_skip 22 rfl (by first | rfl | decide +kernel) rfl (by first | exact HeldL.refl _ | exact HeldL.append _ _ | simp [HeldL]) ?_
   refine any_skip 23 rfl (by first | rfl | decide +kernel) rfl (by first | exact HeldL.refl _ | exact HeldL.append _ _ | simp [HeldL]) ?_
   refine any_skip 24 rfl (by first | rfl | decide +kernel) rfl (by first | exact HeldL.refl _ | exact HeldL.append _ _ | simp [HeldL]) ?_
   refine any_skip 25 rfl (by first | rfl | decide +kernel) rfl (by first | exact HeldL.refl _ | exact HeldL.append _ _ | simp [HeldL]) ?_
   refine any_skip 26 rfl (by first | rfl | decide +kernel) rfl (by first | exact HeldL.refl _ | exact HeldL.append _ _ | simp [HeldL]) ?_
   refine any_take 27 rfl (by first | rfl | decide +kernel) rfl (by first | exact HeldL.refl _ | exact HeldL.append _ _ | simp [HeldL]) (fun H' hH => OpOk.step (ok_pickb (t := true) (d := true) rfl rfl rfl)) ?_
   refine any_done rfl ?_
   refine keepK hK4 [0, 3, 44] (by dsimp) (by dsimp) ?_
   refine T.cond_true rfl ?_
   refine T.seq fun K6 hK6 => ?_
   refine T.region ?_ -- region 3
   refine ro rfl rfl (OpOk.step (ok_moveb (c := false) (.inr rfl) rfl)) ?_
   refine ro_nil ?_
   refine keepK hK6 [4] (by dsimp) (by dsimp) ?_
   refine T.ret (hQ _ _ _ rfl ?_).1 -- ret 2
   have hno : ¬ StOk s.st x := fun h => by obtain ⟨⟨h1, h2⟩, ⟨h3, h4⟩, h5⟩ := h; first | omega | exact absurd (h5 (by assumption)) (by assumption)
   rw [decide_eq_false hno, if_neg hno, if_neg hno]
   exact TEnt.fin [0, 1, 2] (by decide) src3 (heap3 (SB_ren (by decide) (by decide)) (ib_ren _ _) (znb_ren _ _)) ⟨rfl, trivial⟩
  ·(try simp only [dE] at hb)
   refine any_take 14 rfl (by first | rfl | decide +kernel) rfl (HeldL.refl _) (fun H' hH => OpOk.step (ok_fieldAddr rfl ti_api_Rec rfl rfl ti_int (by decide) rfl)) ?_
   refine any_take 15 rfl (by first | rfl | decide +kernel) rfl (HeldL.refl _) (fun H' hH => OpOk.step (ok_load rfl ti_int (locA_held hH rfl) rfl)) ?_
   refine any_one 16 rfl (by first | rfl | decide +kernel) rfl rfl (ok_call rfl rfl rfl ((sin_ok x.status 0 2).plain rfl rfl)) (.inr (by first | (simp [HeldL]; done) | (simp only [HeldL, List.map_cons, List.map_nil, List.cons_append, List.nil_append, List.set_cons_zero, List.set_cons_succ]; (repeat' first | trivial | rfl | constructor)))) ?_
   refine any_take 17 rfl (by first | rfl | decide +kernel) rfl (by first | exact HeldL.refl _ | exact HeldL.append _ _ | simp [HeldL]) (fun H' hH => OpOk.step (ok_unOp rfl rfl)) ?_
   refine any_take 18 rfl (by first | rfl | decide +kernel) rfl (by first | exact HeldL.refl _ | exact HeldL.append _ _ | simp [HeldL]) (fun H' hH => OpOk.step (ok_pick rfl rfl)) ?_
   refine any_take_case 19 rfl (by first | rfl | decide +kernel) rfl (by first | exact HeldL.refl _ | exact HeldL.append _ _ | simp [HeldL]) (fun H' hH => OpOk.step (ok_moveb (.inl rfl) rfl)) (fun hb => ?_) (fun hb => ?_)
   ·(try simp only [dE] at hb)
    refine any_skip 20 rfl (by first | rfl | decide +kernel) rfl (by first | exact HeldL.refl _ | exact HeldL.append _ _ | simp [HeldL]) ?_
    refine any_skip 21 rfl (by first | rfl | decide +kernel) rfl (by first | exact HeldL.refl _ | exact HeldL.append _ _ | simp [HeldL]) ?_
    refine any_skip 22 rfl (by first | rfl | decide +kernel) rfl (by first | exact HeldL.refl _ | exact HeldL.append _ _ | simp [HeldL]) ?_
    refine any_skip 23 rfl (by first | rfl | decide +kernel) rfl (by first | exact HeldL.refl _ | exact HeldL.append _ _ | simp [HeldL]) ?_
    refine any_skip 24 rfl (by first | rfl | decide +kernel) rfl (by first | exact HeldL.refl _ | exact HeldL.append _ _ | simp [HeldL]) ?_
    refine any_skip 25 rfl (by first | rfl | decide +kernel) rfl (by first | exact HeldL.refl _ | exact HeldL.append _ _ | simp [HeldL]) ?_
    refine any_skip 26 rfl (by first | rfl | decide +kernel) rfl (by first | exact HeldL.refl _ | exact HeldL.append _ _ | simp [HeldL]) ?_
    refine any_take 27 rfl (by first | rfl | decide +kernel) rfl (by first | exact HeldL.refl _ | exact HeldL.append _ _ | simp [HeldL]) (fun H' hH => OpOk.step (ok_pickb (t := true) (d := true) rfl rfl rfl)) ?_
    refine any_done rfl ?_
    refine keepK hK4 [0, 3, 44] (by dsimp) (by dsimp) ?_
    refine T.cond_true rfl ?_
    refine T.seq fun K7 hK7 => ?_
    refine T.region ?_ -- region 3
    refine ro rfl rfl (OpOk.step (ok_moveb (c := false) (.inr rfl) rfl)) ?_
    refine ro_nil ?_
    refine keepK hK7 [4] (by dsimp) (by dsimp) ?_
    refine T.ret (hQ _ _ _ rfl ?_).1 -- ret 3
    have hno : ¬ StOk s.st x := fun h => by obtain ⟨⟨h1, h2⟩, ⟨h3, h4⟩, h5⟩ := h; first | omega | exact absurd (h5 (by assumption)) (by assumption)
    rw [decide_eq_false hno, if_neg hno, if_neg hno]
    exact TEnt.fin [0, 1, 2] (by decide) src3 (heap3 (SB_ren (by decide) (by decide)) (ib_ren _ _) (znb_ren _ _)) ⟨rfl, trivial⟩
   ·(try simp only [dE] at hb)
    refine any_take 20 rfl (by first | rfl | decide +kernel) rfl (by first | exact HeldL.refl _ | exact HeldL.append _ _ | simp [HeldL]) (fun H' hH => OpOk.step (ok_move (.inl rfl))) ?_
    refine any_take_case 21 rfl (by first | rfl | decide +kernel) rfl (by first | exact HeldL.refl _ | exact HeldL.append _ _ | simp [HeldL]) (fun H' hH => OpOk.step (ok_moveb (.inl rfl) rfl)) (fun hb => ?_) (fun hb => ?_)
    ·(try simp only [dE] at hb)
     refine any_take 22 rfl (by first | rfl | decide +kernel) rfl (by first | exact HeldL.refl _ | exact HeldL.append _ _ | simp [HeldL]) (fun H' hH => OpOk.step (ok_move (.inl rfl))) ?_
     refine any_take 23 rfl (by first | rfl | decide +kernel) rfl (by first | exact HeldL.refl _ | exact HeldL.append _ _ | simp [HeldL]) (fun H' hH => OpOk.step (ok_fieldAddr rfl ti_api_Rec rfl rfl ti_int (by decide) rfl)) ?_
     refine any_take 24 rfl (by first | rfl | decide +kernel) rfl (by first | exact HeldL.refl _ | exact HeldL.append _ _ | simp [HeldL]) (fun H' hH => OpOk.step (ok_load rfl ti_int (locA_held hH rfl) rfl)) ?_
     refine any_take 25 rfl (by first | rfl | decide +kernel) rfl (by first | exact HeldL.refl _ | exact HeldL.append _ _ | simp [HeldL]) (fun H' hH => OpOk.step (ok_binOp rfl ti_int rfl)) ?_
     refine any_take 26 rfl (by first | rfl | decide +kernel) rfl (by first | exact HeldL.refl _ | exact HeldL.append _ _ | simp [HeldL]) (fun H' hH => OpOk.step (ok_pick rfl rfl)) ?_
     refine any_take 27 rfl (by first | rfl | decide +kernel) rfl (by first | exact HeldL.refl _ | exact HeldL.append _ _ | simp [HeldL]) (fun H' hH => OpOk.step (ok_pick rfl rfl)) ?_
     refine any_done rfl ?_
     refine keepK hK4 [0, 3, 44] (by dsimp) (by dsimp) ?_
     refine T.cond rfl (fun hc => ?_) (fun hc => ?_) -- cond 1
     ·(try simp only [dE] at hc)
      refine T.seq fun K8 hK8 => ?_
      refine T.region ?_ -- region 3
      refine ro rfl rfl (OpOk.step (ok_moveb (c := false) (.inr rfl) rfl)) ?_
      refine ro_nil ?_
      refine keepK hK8 [4] (by dsimp) (by dsimp) ?_
      refine T.ret (hQ _ _ _ rfl ?_).1 -- ret 4
      have hno : ¬ StOk s.st x := fun h => by obtain ⟨⟨h1, h2⟩, ⟨h3, h4⟩, h5⟩ := h; first | omega | exact absurd (h5 (by assumption)) (by assumption)
      rw [decide_eq_false hno, if_neg hno, if_neg hno]
      exact TEnt.fin [0, 1, 2] (by decide) src3 (heap3 (SB_ren (by decide) (by decide)) (ib_ren _ _) (znb_ren _ _)) ⟨rfl, trivial⟩
     ·(try simp only [dE] at hc)
      refine T.skip ?_
      refine keepK hK3 [0, 3] (by dsimp) (by dsimp) ?_
      refine T.seq fun K9 hK9 => ?_
      refine T.drawH mixed [9] ?_ -- region 4
      refine any_take 0 rfl (by first | rfl | decide +kernel) rfl (HeldL.refl _) (fun H' hH => OpOk.step (ok_move (.inl rfl))) ?_
      refine any_take 1 rfl (by first | rfl | decide +kernel) rfl (HeldL.refl _) (fun H' hH => OpOk.step (ok_nilCheck rfl rfl)) ?_
      refine any_take 2 rfl (by first | rfl | decide +kernel) rfl (HeldL.refl _) (fun H' hH => OpOk.step (ok_fieldAddr rfl ti_api_State rfl rfl ti_Lint (by decide) rfl)) ?_
      refine any_take 3 rfl (by first | rfl | decide +kernel) rfl (HeldL.refl _) (fun H' hH => OpOk.step (ok_load rfl ti_Lint (locA_held hH rfl) rfl)) ?_
      refine any_take 4 rfl (by first | rfl | decide +kernel) rfl (HeldL.refl _) (fun H' hH => OpOk.step (ok_fieldAddr rfl ti_api_Rec rfl rfl ti_int (by decide) rfl)) ?_
      refine any_take 5 rfl (by first | rfl | decide +kernel) rfl (HeldL.refl _) (fun H' hH => OpOk.step (ok_load rfl ti_int (locA_held hH rfl) rfl)) ?_
      refine any_take 6 rfl (by first | rfl | decide +kernel) rfl (HeldL.refl _) (fun H' hH => OpOk.step (ok_fieldAddr rfl ti_api_Rec rfl rfl ti_int (by decide) rfl)) ?_
      refine any_take 7 rfl (by first | rfl | decide +kernel) rfl (HeldL.refl _) (fun H' hH => OpOk.step (ok_load rfl ti_int (locA_held hH rfl) rfl)) ?_
      refine any_take 8 rfl (by first | rfl | decide +kernel) rfl (HeldL.refl _) (fun H' hH => OpOk.step (by exact ok_index_sl (b := ⟨1, true, ints .i64 s.st⟩) rfl ti_Lint rfl ti_int rfl (hH.get rfl) rfl rfl (by omega) (by omega))) ?_
      refine any_one 9 rfl (by first | rfl | decide +kernel) rfl rfl (OpOk.step ((ok_store rfl ti_int (by decide) (id := 1) (j := 0 + x.member.toNat) (f := 0) rfl rfl rfl (List.getElem?_eq_getElem (by simp; omega)) rfl (by show 0 + 1 ≤ 1; decide) (.inl ⟨rfl, rfl⟩)).eq (x' := .any) (H'' := [some (SB s (.sl 1 0 s.st.length) (.sl 2 0 s.zs.length)), some ⟨1, true, ints .i64 (s.st.set x.member.toNat x.status)⟩, some ⟨6, true, Zns s.zs⟩, some (RcB x)]) rfl (by show [_, some (⟨1, true, (ints .i64 s.st).set (0 + x.member.toNat) (.int x.status)⟩ : Blk), _, _] = _; rw [Nat.zero_add, ints_set]; rfl))) (.inl (by simp)) ?_
      refine any_done rfl ?_
      refine keepK hK9 [0] (by dsimp) (by dsimp) ?_
      refine T.seq fun K10 hK10 => ?_
      refine T.seq fun K11 hK11 => ?_
      refine T.region ?_ -- region 5
      refine ro rfl rfl (OpOk.step (ok_move (.inl rfl))) ?_
      refine ro rfl rfl (OpOk.step (ok_nilCheck rfl rfl)) ?_
      refine ro rfl rfl (OpOk.step (ok_fieldAddr rfl ti_api_State rfl rfl ti_Lapi_Zone (by decide) rfl)) ?_
      refine ro rfl rfl (OpOk.step (ok_load rfl ti_Lapi_Zone rfl rfl)) ?_
      refine ro rfl rfl (OpOk.step (ok_len' rfl rfl ti_Lapi_Zone rfl (by first | exact ints_length _ _ | exact rowsA_length _ _ | exact Cms_len _ | exact mapLen _ | rfl))) ?_
      refine ro rfl rfl (OpOk.step (ok_move (.inl rfl))) ?_
      refine ro_nil ?_
      refine keepK hK11 [0, 58, 59] (by dsimp) (by dsimp) ?_
      refine T.block ?_
      refine T.loopI (ι := Nat) (fun i => i ≤ s.zs.length) (fun i => s.zs.length - i) (fun i => ([(0, .ref 0 0 0), (58, .int s.zs.length), (59, .int i)], [some (SB s (.sl 1 0 s.st.length) (.sl 2 0 s.zs.length)), some ⟨1, true, ints .i64 (s.st.set x.member.toNat x.status)⟩, some ⟨6, true, Zns (unwK s.zs i)⟩, some (RcB x)])) 0 (Nat.zero_le _) (TEnt.toH (by rw [unwK_0]) ⟨rfl, rfl, rfl, trivial⟩) (fun i hi => ?_) -- loop 1
      have hul := unwK_len s.zs i hi
      refine T.seq fun K12 hK12 => ?_
      refine T.region ?_ -- region 6
      refine ro rfl rfl (OpOk.step (ok_binOp rfl ti_int rfl)) ?_
      refine ro_nil ?_
      refine keepK hK12 [0, 58, 59, 60] (by dsimp) (by dsimp) ?_
      refine T.seq fun K13 hK13 => ?_
      refine T.cond rfl (fun hc => ?_) (fun hc => ?_) -- cond 2
      ·(try simp only [dE] at hc)
       obtain ⟨z, hz⟩ : ∃ z, s.zs[i]? = some z := ⟨_, List.getElem?_eq_getElem (by omega)⟩
       refine T.skip ?_
       refine keepK hK13 [0, 58, 59] (by dsimp) (by dsimp) ?_
       refine T.seq fun K14 hK14 => ?_
       refine T.block ?_
       refine T.seq fun K15 hK15 => ?_
       refine T.region ?_ -- region 7
       refine ro rfl rfl (OpOk.step (ok_move (.inl rfl))) ?_
       refine ro rfl rfl (OpOk.step (ok_move (.inr rfl))) ?_
       refine ro_nil ?_
       refine keepK hK15 [0, 8, 58, 59] (by dsimp) (by dsimp) ?_
       refine T.region ?_ -- region 8
       refine ro rfl rfl (OpOk.step (ok_move (.inl rfl))) ?_
       refine ro rfl rfl (OpOk.step (ok_nilCheck rfl rfl)) ?_
       refine ro rfl rfl (OpOk.step (ok_fieldAddr rfl ti_api_State rfl rfl ti_Lapi_Zone (by decide) rfl)) ?_
       refine ro rfl rfl (OpOk.step (ok_load rfl ti_Lapi_Zone rfl rfl)) ?_
       refine ro rfl rfl (OpOk.step (ok_move (.inl rfl))) ?_
       refine ro rfl rfl (OpOk.step (by exact ok_index_sl (b := ⟨6, true, Zns (unwK s.zs i)⟩) rfl ti_Lapi_Zone rfl ti_api_Zone rfl rfl rfl rfl (by omega) (by omega))) ?_
       refine ro rfl rfl (OpOk.step (ok_fieldAddr rfl ti_api_Zone rfl rfl ti_bool (by decide) rfl)) ?_
       refine ro rfl rfl (OpOk.step ((ok_store rfl ti_bool (by decide) (id := 2) (j := 0 + i) (f := 4) rfl rfl rfl (by rw [Nat.zero_add]; exact Zns_get (unwK_get hz)) rfl (by show 4 + 1 ≤ 6; decide) (.inr rfl)).eq (x' := .any) (H'' := [some (SB s (.sl 1 0 s.st.length) (.sl 2 0 s.zs.length)), some ⟨1, true, ints .i64 (s.st.set x.member.toNat x.status)⟩, some ⟨6, true, Zns (unwK s.zs (i + 1))⟩, some (RcB x)]) rfl (by show [_, _, some (⟨6, true, (Zns (unwK s.zs i)).set (0 + i) (.agg (ZnC (unw z)))⟩ : Blk), _] = _; rw [Nat.zero_add, Zns_set, unwK_set hz]))) ?_
       refine ro_nil ?_
       refine keepK hK14 [0, 58, 59] (by dsimp) (by dsimp) ?_
       refine T.region ?_ -- region 9
       refine ro rfl rfl (OpOk.step (ok_add64 rfl ti_int rfl rfl (by omega) (by omega))) ?_
       refine ro rfl rfl (OpOk.step (ok_move (.inl rfl))) ?_
       refine ro_nil ?_
       exact ⟨i + 1, by omega, by omega, TEnt.toH rfl ⟨rfl, rfl, rfl, trivial⟩⟩
      ·(try simp only [dE] at hc)
       have hin : i = s.zs.length := by omega
       subst hin
       refine T.exit ?_
       refine keepK hK10 [] (by dsimp) (by dsimp) ?_
       refine T.seq fun K16 hK16 => ?_
       refine T.region ?_ -- region 10
       refine ro rfl rfl (OpOk.step (ok_moveb (c := true) (.inr rfl) rfl)) ?_
       refine ro_nil ?_
       refine keepK hK16 [4] (by dsimp) (by dsimp) ?_
       refine T.ret (hQ _ _ _ rfl ?_).1 -- ret 5
       have hyes : StOk s.st x := ⟨by omega, by assumption, fun h => by first | assumption | (rw [show (oddS s.st).2.2 = false by assumption] at h; cases h)⟩
       rw [decide_eq_true hyes, if_pos hyes, if_pos hyes, unwK_all]
       exact TEnt.fin [0, 1, 2] (by decide) src3 (heap3 (SB_ren (by decide) (by decide)) (ib_ren _ _) (znb_ren _ _)) ⟨rfl, trivial⟩
    ·(try simp only [dE] at hb)
     refine any_skip 22 rfl (by first | rfl | decide +kernel) rfl (by first | exact HeldL.refl _ | exact HeldL.append _ _ | simp [HeldL]) ?_
     refine any_skip 23 rfl (by first | rfl | decide +kernel) rfl (by first | exact HeldL.refl _ | exact HeldL.append _ _ | simp [HeldL]) ?_
     refine any_skip 24 rfl (by first | rfl | decide +kernel) rfl (by first | exact HeldL.refl _ | exact HeldL.append _ _ | simp [HeldL]) ?_
     refine any_skip 25 rfl (by first | rfl | decide +kernel) rfl (by first | exact HeldL.refl _ | exact HeldL.append _ _ | simp [HeldL]) ?_
     refine any_take 26 rfl (by first | rfl | decide +kernel) rfl (by first | exact HeldL.refl _ | exact HeldL.append _ _ | simp [HeldL]) (fun H' hH => OpOk.step (ok_pickb (t := false) (d := false) rfl rfl rfl)) ?_
     refine any_take 27 rfl (by first | rfl | decide +kernel) rfl (by first | exact HeldL.refl _ | exact HeldL.append _ _ | simp [HeldL]) (fun H' hH => OpOk.step (ok_pickb (t := false) (d := false) rfl rfl rfl)) ?_
     refine any_done rfl ?_
     refine keepK hK4 [0, 3, 44] (by dsimp) (by dsimp) ?_
     refine T.cond_false rfl ?_
     refine T.skip ?_
     refine keepK hK3 [0, 3] (by dsimp) (by dsimp) ?_
     refine T.seq fun K17 hK17 => ?_
     refine T.drawH mixed [9] ?_ -- region 4
     refine any_take 0 rfl (by first | rfl | decide +kernel) rfl (HeldL.refl _) (fun H' hH => OpOk.step (ok_move (.inl rfl))) ?_
     refine any_take 1 rfl (by first | rfl | decide +kernel) rfl (HeldL.refl _) (fun H' hH => OpOk.step (ok_nilCheck rfl rfl)) ?_
     refine any_take 2 rfl (by first | rfl | decide +kernel) rfl (HeldL.refl _) (fun H' hH => OpOk.step (ok_fieldAddr rfl ti_api_State rfl rfl ti_Lint (by decide) rfl)) ?_
     refine any_take 3 rfl (by first | rfl | decide +kernel) rfl (HeldL.refl _) (fun H' hH => OpOk.step (ok_load rfl ti_Lint (locA_held hH rfl) rfl)) ?_
     refine any_take 4 rfl (by first | rfl | decide +kernel) rfl (HeldL.refl _) (fun H' hH => OpOk.step (ok_fieldAddr rfl ti_api_Rec rfl rfl ti_int (by decide) rfl)) ?_
     refine any_take 5 rfl (by first | rfl | decide +kernel) rfl (HeldL.refl _) (fun H' hH => OpOk.step (ok_load rfl ti_int (locA_held hH rfl) rfl)) ?_
     refine any_take 6 rfl (by first | rfl | decide +kernel) rfl (HeldL.refl _) (fun H' hH => OpOk.step (ok_fieldAddr rfl ti_api_Rec rfl rfl ti_int (by decide) rfl)) ?_
     refine any_take 7 rfl (by first | rfl | decide +kernel) rfl (HeldL.refl _) (fun H' hH => OpOk.step (ok_load rfl ti_int (locA_held hH rfl) rfl)) ?_
     refine any_take 8 rfl (by first | rfl | decide +kernel) rfl (HeldL.refl _) (fun H' hH => OpOk.step (by exact ok_index_sl (b := ⟨1, true, ints .i64 s.st⟩) rfl ti_Lint rfl ti_int rfl (hH.get rfl) rfl rfl (by omega) (by omega))) ?_
     refine any_one 9 rfl (by first | rfl | decide +kernel) rfl rfl (OpOk.step ((ok_store rfl ti_int (by decide) (id := 1) (j := 0 + x.member.toNat) (f := 0) rfl rfl rfl (List.getElem?_eq_getElem (by simp; omega)) rfl (by show 0 + 1 ≤ 1; decide) (.inl ⟨rfl, rfl⟩)).eq (x' := .any) (H'' := [some (SB s (.sl 1 0 s.st.length) (.sl 2 0 s.zs.length)), some ⟨1, true, ints .i64 (s.st.set x.member.toNat x.status)⟩, some ⟨6, true, Zns s.zs⟩, some (RcB x)]) rfl (by show [_, some (⟨1, true, (ints .i64 s.st).set (0 + x.member.toNat) (.int x.status)⟩ : Blk), _, _] = _; rw [Nat.zero_add, ints_set]; rfl))) (.inl (by simp)) ?_
     refine any_done rfl ?_
     refine keepK hK17 [0] (by dsimp) (by dsimp) ?_
     refine T.seq fun K18 hK18 => ?_
     refine T.seq fun K19 hK19 => ?_
     refine T.region ?_ -- region 5
     refine ro rfl rfl (OpOk.step (ok_move (.inl rfl))) ?_
     refine ro rfl rfl (OpOk.step (ok_nilCheck rfl rfl)) ?_
     refine ro rfl rfl (OpOk.step (ok_fieldAddr rfl ti_api_State rfl rfl ti_Lapi_Zone (by decide) rfl)) ?_
     refine ro rfl rfl (OpOk.step (ok_load rfl ti_Lapi_Zone rfl rfl)) ?_
     refine ro rfl rfl (OpOk.step (ok_len' rfl rfl ti_Lapi_Zone rfl (by first | exact ints_length _ _ | exact rowsA_length _ _ | exact Cms_len _ | exact mapLen _ | rfl))) ?_
     refine ro rfl rfl (OpOk.step (ok_move (.inl rfl))) ?_
     refine ro_nil ?_
     refine keepK hK19 [0, 58, 59] (by dsimp) (by dsimp) ?_
     refine T.block ?_
     refine T.loopI (ι := Nat) (fun i => i ≤ s.zs.length) (fun i => s.zs.length - i) (fun i => ([(0, .ref 0 0 0), (58, .int s.zs.length), (59, .int i)], [some (SB s (.sl 1 0 s.st.length) (.sl 2 0 s.zs.length)), some ⟨1, true, ints .i64 (s.st.set x.member.toNat x.status)⟩, some ⟨6, true, Zns (unwK s.zs i)⟩, some (RcB x)])) 0 (Nat.zero_le _) (TEnt.toH (by rw [unwK_0]) ⟨rfl, rfl, rfl, trivial⟩) (fun i hi => ?_) -- loop 2
     have hul := unwK_len s.zs i hi
     refine T.seq fun K20 hK20 => ?_
     refine T.region ?_ -- region 6
     refine ro rfl rfl (OpOk.step (ok_binOp rfl ti_int rfl)) ?_
     refine ro_nil ?_
     refine keepK hK20 [0, 58, 59, 60] (by dsimp) (by dsimp) ?_
     refine T.seq fun K21 hK21 => ?_
     refine T.cond rfl (fun hc => ?_) (fun hc => ?_) -- cond 3
     ·(try simp only [dE] at hc)
      obtain ⟨z, hz⟩ : ∃ z, s.zs[i]? = some z := ⟨_, List.getElem?_eq_getElem (by omega)⟩
      refine T.skip ?_
      refine keepK hK21 [0, 58, 59] (by dsimp) (by dsimp) ?_
      refine T.seq fun K22 hK22 => ?_
      refine T.block ?_
      refine T.seq fun K23 hK23 => ?_
      refine T.region ?_ -- region 7
      refine ro rfl rfl (OpOk.step (ok_move (.inl rfl))) ?_
      refine ro rfl rfl (OpOk.step (ok_move (.inr rfl))) ?_
      refine ro_nil ?_
      refine keepK hK23 [0, 8, 58, 59] (by dsimp) (by dsimp) ?_
      refine T.region ?_ -- region 8
      refine ro rfl rfl (OpOk.step (ok_move (.inl rfl))) ?_
      refine ro rfl rfl (OpOk.step (ok_nilCheck rfl rfl)) ?_
      refine ro rfl rfl (OpOk.step (ok_fieldAddr rfl ti_api_State rfl rfl ti_Lapi_Zone (by decide) rfl)) ?_
      refine ro rfl rfl (OpOk.step (ok_load rfl ti_Lapi_Zone rfl rfl)) ?_
      refine ro rfl rfl (OpOk.step (ok_move (.inl rfl))) ?_
      refine ro rfl rfl (OpOk.step (by exact ok_index_sl (b := ⟨6, true, Zns (unwK s.zs i)⟩) rfl ti_Lapi_Zone rfl ti_api_Zone rfl rfl rfl rfl (by omega) (by omega))) ?_
      refine ro rfl rfl (OpOk.step (ok_fieldAddr rfl ti_api_Zone rfl rfl ti_bool (by decide) rfl)) ?_
      refine ro rfl rfl (OpOk.step ((ok_store rfl ti_bool (by decide) (id := 2) (j := 0 + i) (f := 4) rfl rfl rfl (by rw [Nat.zero_add]; exact Zns_get (unwK_get hz)) rfl (by show 4 + 1 ≤ 6; decide) (.inr rfl)).eq (x' := .any) (H'' := [some (SB s (.sl 1 0 s.st.length) (.sl 2 0 s.zs.length)), some ⟨1, true, ints .i64 (s.st.set x.member.toNat x.status)⟩, some ⟨6, true, Zns (unwK s.zs (i + 1))⟩, some (RcB x)]) rfl (by show [_, _, some (⟨6, true, (Zns (unwK s.zs i)).set (0 + i) (.agg (ZnC (unw z)))⟩ : Blk), _] = _; rw [Nat.zero_add, Zns_set, unwK_set hz]))) ?_
      refine ro_nil ?_
      refine keepK hK22 [0, 58, 59] (by dsimp) (by dsimp) ?_
      refine T.region ?_ -- region 9
      refine ro rfl rfl (OpOk.step (ok_add64 rfl ti_int rfl rfl (by omega) (by omega))) ?_
      refine ro rfl rfl (OpOk.step (ok_move (.inl rfl))) ?_
      refine ro_nil ?_
      exact ⟨i + 1, by omega, by omega, TEnt.toH rfl ⟨rfl, rfl, rfl, trivial⟩⟩
     ·(try simp only [dE] at hc)
      have hin : i = s.zs.length := by omega
      subst hin
      refine T.exit ?_
      refine keepK hK18 [] (by dsimp) (by dsimp) ?_
      refine T.seq fun K24 hK24 => ?_
      refine T.region ?_ -- region 10
      refine ro rfl rfl (OpOk.step (ok_moveb (c := true) (.inr rfl) rfl)) ?_
      refine ro_nil ?_
      refine keepK hK24 [4] (by dsimp) (by dsimp) ?_
      refine T.ret (hQ _ _ _ rfl ?_).1 -- ret 6
      have hyes : StOk s.st x := ⟨by omega, by assumption, fun h => by first | assumption | (rw [show (oddS s.st).2.2 = false by assumption] at h; cases h)⟩
      rw [decide_eq_true hyes, if_pos hyes, if_pos hyes, unwK_all]
      exact TEnt.fin [0, 1, 2] (by decide) src3 (heap3 (SB_ren (by decide) (by decide)) (ib_ren _ _) (znb_ren _ _)) ⟨rfl, trivial⟩
end Go.Proofs.Ytlegolcbjjjofaa.AmF
