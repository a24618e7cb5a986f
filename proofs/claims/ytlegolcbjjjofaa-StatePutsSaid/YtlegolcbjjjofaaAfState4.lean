/- Walks over the abstract machine: states of the log: free slots. -/
import Derived.Test.YtlegolcbjjjofaaAfState3
namespace Go.Proofs.Ytlegolcbjjjofaa.AmF
open Go Go.AM
set_option maxRecDepth 100000
set_option maxHeartbeats 2000000
set_option linter.unusedSimpArgs false
set_option linter.unusedVariables false
attribute [local simp] tkeep tget tput ev cav argsTM pickA normT putA splice AV.cells ints_length rowsA_length Prs_len Zns_len
/-- What a block holds, told in another way. -/
theorem _root_.Go.AM.TEnt.blk {k : Nat} {tm : TM} {H : Heap} (id : Nat) {b : Blk} {l' : List AV} (hb : hget H id = some b) (hl : l'.length = b.els.length) (he : EntL H b.els l') : TEnt k tm H tm (H.set id (some { b with els := l' })) := by
  intro g vs hH hk hg ht
  subst hH
  have hid := hget_lt hb
  let g' : G := { g with H := g.H.set id (some { b with els := l' }) }
  have hget' : ∀ j b', hget g'.H j = some b' → ∃ b0, hget g.H j = some b0 ∧ b'.es = b0.es ∧ b'.own = b0.own ∧ (b' = b0 ∨ (j = id ∧ b0 = b ∧ b' = { b with els := l' })) := by
    intro j b' h
    simp only [g', hget_set] at h
    by_cases hj : j = id
    · subst hj
      simp only [hid, and_self, if_true, Option.some.injEq] at h
      subst h
      exact ⟨b, hb, rfl, rfl, .inr ⟨rfl, rfl, rfl⟩⟩
    · simp only [hj, false_and, if_false] at h
      exact ⟨b', h, rfl, rfl, .inl rfl⟩
  have hren : Ren some g g' := by
    refine ⟨fun _ h => h, fun _ _ => rfl, fun i j hi hij => ?_⟩
    cases hij
    refine ⟨by simpa [g'] using hi, fun b' hb' => ?_⟩
    obtain ⟨b0, h1, h2, _, _⟩ := hget' i b' hb'
    exact ⟨b0, h1, h2, rfl, rfl, rfl⟩
  have hgo : GOk g' := by
    refine ⟨fun j b' hb' => ?_, fun j j' b' c' hb' hc' hob hoc hs hs' hφ => ?_, hg.zlt⟩
    · obtain ⟨b0, h1, h2, h3, h4⟩ := hget' j b' hb'
      have hb0 := hg.blk j b0 h1
      rcases h4 with rfl | ⟨rfl, rfl, rfl⟩
      · refine ⟨hb0.own, hb0.frz, hb0.fit, hb0.pos, fun hs => ?_⟩
        obtain ⟨c, e, lo, hi, m1, m2, m3, xs, m4, m5⟩ := hb0.mem hs
        exact ⟨c, e, lo, hi, m1, m2, m3, xs, RelL.mono hren m4, m5⟩
      · refine ⟨hb0.own, hb0.frz, ?_, hb0.pos, fun hs => ?_⟩
        · show g.bs _ + l'.length * _ ≤ _
          rw [hl]; exact hb0.fit
        · obtain ⟨c, e, lo, hi, m1, m2, m3, xs, m4, m5⟩ := hb0.mem hs
          exact ⟨c, e, lo, hi, m1, m2, m3, xs, RelL.mono hren (he g xs rfl hg m4), m5⟩
    · obtain ⟨b0, h1, _, h3, _⟩ := hget' j b' hb'
      obtain ⟨c0, h1', _, h3', _⟩ := hget' j' c' hc'
      exact hg.inj j j' b0 c0 h1 h1' (h3 ▸ hob) (h3' ▸ hoc) hs hs' hφ
  have hext : Ext g g' := by
    refine ⟨.refl _, Nat.le_refl _, fun _ _ _ => rfl, fun _ h => h, fun x hx => .inl hx, fun x hx => ?_⟩
    obtain ⟨j, b', h1, h2, h3, h4⟩ := hx
    obtain ⟨b0, e1, _, e3, _⟩ := hget' j b' h1
    exact .inl ⟨j, b0, e1, e3 ▸ h2, h3, h4⟩
  exact ⟨g', rfl, rfl, hgo, fun t => Rel.mono hren (ht t), hext, Sub.pin ⟨hren, hext⟩ hk⟩
theorem _root_.Go.AM.EntL.set {H : Heap} {x x' : AV} {l : List AV} : ∀ (i : Nat), l[i]? = some x → Ent H x x' → EntL H l (l.set i x') := by
  induction l with
  | nil => intro i h he; simp at h
  | cons y l ih =>
    intro i h he
    cases i with
    | zero => cases h; exact EntL.cons he (EntL.refl _)
    | succ i => exact EntL.cons (Ent.refl _) (ih i h he)
def NB1 (n : Int) : Blk := ⟨1, true, [.int n]⟩
theorem NB1_ren (ρ : Nat → Option Nat) (n : Int) : Blk.ren ρ (NB1 n) = NB1 n := by simp [NB1, Blk.ren, renL, AV.ren]
/-- Has some zone a slot? -/
def hasZ (zs : List Zn) (n : Int) : Bool := zs.any fun z => decide (z.slot = n)
/-- Slots that no zone has. -/
def freeZ (c : Cf) (zs : List Zn) : List Int := ((List.range (slotsC c).toNat).map fun (n : Nat) => (n : Int)).filter fun n => !hasZ zs n
theorem pos0 : pos [0] 0 = some 0 := by decide
theorem hasZ_seen (zs : List Zn) (n : Int) : hasZ zs n = true ↔ ∃ z ∈ zs, z.slot = n := by simp [hasZ]
theorem freeZ_mem {c : Cf} {zs : List Zn} {n : Int} : n ∈ freeZ c zs ↔ (0 ≤ n ∧ n < slotsC c) ∧ hasZ zs n = false := by
  unfold freeZ
  rw [List.mem_filter, List.mem_map]
  constructor
  · rintro ⟨⟨k, hk, rfl⟩, h⟩
    rw [List.mem_range] at hk
    exact ⟨by omega, by simpa using h⟩
  · rintro ⟨⟨h1, h2⟩, h⟩
    exact ⟨⟨n.toNat, by rw [List.mem_range]; omega, by omega⟩, by simpa using h⟩
/-- As far as it was looked. -/
def freeK (zs : List Zn) (i : Nat) : List Int := ((List.range i).map fun (n : Nat) => (n : Int)).filter fun n => !hasZ zs n
theorem freeK_len (zs : List Zn) (i : Nat) : (freeK zs i).length ≤ i := by
  unfold freeK
  refine Nat.le_trans (List.length_filter_le _ _) ?_
  simp
theorem freeK_snoc (zs : List Zn) (i : Nat) : freeK zs (i + 1) = freeK zs i ++ if hasZ zs i then [] else [(i : Int)] := by
  unfold freeK
  rw [List.range_succ, List.map_append, List.filter_append]
  congr 1
  by_cases h : hasZ zs i = true
  · simp [h]
  · simp [h]
theorem free1_ok (n : Int) (z : Zn) : CSpec Try.prog 73 [NB1 n] [.agg (ZnC z), .ref 0 0 0] [some (NB1 n)] (.b (decide (z.slot = n))) := by
 refine CSpec.body Try.func73 rfl rfl rfl rfl rfl fun Q hQ => ?_
 refine T.seq fun K1 hK1 => ?_
 refine T.region ?_ -- region 0
 refine ro rfl rfl (OpOk.step (ok_box (n := 6) rfl rfl (by decide))) ?_
 refine ro rfl rfl (OpOk.step (ok_moveb (c := false) (.inr rfl) rfl)) ?_
 refine ro_nil ?_
 refine keepK hK1 [1, 2] (by dsimp) (by dsimp) ?_
 refine T.seq fun K2 hK2 => ?_
 refine T.region ?_ -- region 1
 refine ro rfl rfl (OpOk.step (ok_fieldAddr rfl ti_api_Zone rfl rfl ti_int (by decide) rfl)) ?_
 refine ro rfl rfl (OpOk.step (ok_load rfl ti_int rfl rfl)) ?_
 refine ro rfl rfl (OpOk.step (ok_load rfl ti_int rfl rfl)) ?_
 refine ro rfl rfl (OpOk.step (ok_binOp rfl ti_int rfl)) ?_
 refine ro rfl rfl (OpOk.step (ok_move (.inr rfl))) ?_
 refine ro_nil ?_
 refine keepK hK2 [3] (by dsimp) (by dsimp) ?_
 refine T.ret (hQ _ _ _ rfl ?_).1 -- ret 1
 exact TEnt.fin [0] (by decide) (by simp) (by simp [normH, hget, NB1_ren]) ⟨rfl, trivial⟩
theorem indexZ_ok (n : Int) (l : List Zn) (f : FuncId) (q : Zn → Bool) (hf : ∀ y, CSpec Try.prog f [NB1 n] [.agg (ZnC y), .ref 0 0 0] [some (NB1 n)] (.b (q y))) (hl : l.length ≤ 140737488355328) : CSpec Try.prog 116 [NB1 n] [.fz 6 (Zns l), .fn (.func f) [] [.ref 0 0 0]] [some (NB1 n)] (.int (fIdx q l)) := by
 refine CSpec.body Try.func116 rfl rfl rfl rfl rfl fun Q hQ => ?_
 refine T.seq fun K1 hK1 => ?_
 refine T.region ?_ -- region 0
 refine ro rfl rfl (OpOk.step (ok_move (.inr rfl))) ?_
 refine ro_nil ?_
 refine keepK hK1 [0, 1] (by dsimp) (by dsimp) ?_
 refine T.seq fun K2 hK2 => ?_
 refine T.seq fun K3 hK3 => ?_
 refine T.region ?_ -- region 1
 refine ro rfl rfl (OpOk.step (ok_move (.inl rfl))) ?_
 refine ro rfl rfl (OpOk.step (ok_len' rfl rfl ti_Lapi_Zone rfl (by first | exact ints_length _ _ | exact rowsA_length _ _ | exact Cms_len _ | exact mapLen _ | rfl))) ?_
 refine ro rfl rfl (OpOk.step (ok_move (.inl rfl))) ?_
 refine ro_nil ?_
 refine keepK hK3 [0, 1, 7, 8] (by dsimp) (by dsimp) ?_
 refine T.block ?_
 refine T.loopI (ι := Nat) (fun i => i ≤ l.length ∧ ∀ y ∈ l.take i, q y = false) (fun i => l.length - i) (fun i => ([(0, .fz 6 (Zns l)), (1, .fn (.func f) [] [.ref 0 0 0]), (7, .int l.length), (8, .int i)], [some (NB1 n)])) 0 ⟨Nat.zero_le _, fun y hy => by simp at hy⟩ (TEnt.toH rfl ⟨rfl, rfl, by simp, rfl, trivial⟩) (fun i hi => ?_) -- loop 1
 obtain ⟨hil, hno⟩ := hi
 refine T.seq fun K4 hK4 => ?_
 refine T.region ?_ -- region 2
 refine ro rfl rfl (OpOk.step (ok_binOp rfl ti_int rfl)) ?_
 refine ro_nil ?_
 refine keepK hK4 [0, 1, 7, 8, 9] (by dsimp) (by dsimp) ?_
 refine T.seq fun K5 hK5 => ?_
 refine T.cond rfl (fun hc => ?_) (fun hc => ?_) -- cond 1
 ·(try simp only [dE] at hc)
  obtain ⟨y, hy⟩ : ∃ y, l[i]? = some y := ⟨_, List.getElem?_eq_getElem (by omega)⟩
  refine T.skip ?_
  refine keepK hK5 [0, 1, 7, 8] (by dsimp) (by dsimp) ?_
  refine T.seq fun K6 hK6 => ?_
  refine T.block ?_
  refine T.seq fun K7 hK7 => ?_
  refine T.region ?_ -- region 3
  refine ro rfl rfl (OpOk.step (ok_move (.inl rfl))) ?_
  refine ro rfl rfl (OpOk.step (ok_move (.inr rfl))) ?_
  refine ro_nil ?_
  refine keepK hK7 [0, 1, 5, 7, 8] (by dsimp) (by dsimp) ?_
  refine T.seq fun K8 hK8 => ?_
  refine T.region ?_ -- region 4
  refine ro rfl rfl (OpOk.step (ok_move (.inl rfl))) ?_
  refine ro rfl rfl (OpOk.step (ok_move (.inl rfl))) ?_
  refine ro rfl rfl (OpOk.step (ok_move (.inl rfl))) ?_
  refine ro rfl rfl (OpOk.step (by exact ok_index_map (F := ZnC) rfl ti_Lapi_Zone rfl ti_api_Zone rfl rfl rfl hy (by simp [ZnC]))) ?_
  refine ro rfl rfl (OpOk.step (ok_load rfl ti_api_Zone rfl rfl)) ?_
  refine ro rfl rfl (ok_call rfl rfl rfl (((hf y).pass [0] (by decide) (by simp) (by simp [normH, hget, NB1_ren]) (by simp [renL, AV.ren, ZnC_take, ZnC_ren, pos0])).eq (x' := .b (q y)) (H'' := [some (NB1 n)]) rfl (by simp [mergeH, setIds, renH, NB1_ren]))) ?_
  refine ro_nil ?_
  refine keepK hK8 [0, 1, 5, 7, 8, 16] (by dsimp) (by dsimp) ?_
  refine T.cond rfl (fun hc => ?_) (fun hc => ?_) -- cond 2
  ·(try simp only [dE] at hc)
   rw [fIdx_hit hy hc hno] at hQ
   refine T.seq fun K9 hK9 => ?_
   refine T.region ?_ -- region 5
   refine ro rfl rfl (OpOk.step (ok_move (.inl rfl))) ?_
   refine ro rfl rfl (OpOk.step (ok_move (.inr rfl))) ?_
   refine ro_nil ?_
   refine keepK hK9 [4] (by dsimp) (by dsimp) ?_
   refine T.ret (hQ _ _ _ rfl ?_).1 -- ret 1
   exact TEnt.toH rfl ⟨rfl, trivial⟩
  ·(try simp only [dE] at hc)
   refine T.skip ?_
   refine keepK hK6 [0, 1, 7, 8] (by dsimp) (by dsimp) ?_
   refine T.region ?_ -- region 6
   refine ro rfl rfl (OpOk.step (ok_add64 rfl ti_int rfl rfl (by omega) (by omega))) ?_
   refine ro rfl rfl (OpOk.step (ok_move (.inl rfl))) ?_
   refine ro_nil ?_
   exact ⟨i + 1, ⟨by omega, take_snoc_all hy hno hc⟩, by omega, TEnt.toH rfl ⟨rfl, rfl, rfl, rfl, trivial⟩⟩
 ·(try simp only [dE] at hc)
  have hin : i = l.length := by omega
  rw [hin, List.take_length] at hno
  rw [fIdx_none hno] at hQ
  refine T.exit ?_
  refine keepK hK2 [] (by dsimp) (by dsimp) ?_
  refine T.seq fun K10 hK10 => ?_
  refine T.region ?_ -- region 7
  refine ro rfl rfl (OpOk.step (ok_move (.inr rfl))) ?_
  refine ro_nil ?_
  refine keepK hK10 [4] (by dsimp) (by dsimp) ?_
  refine T.ret (hQ _ _ _ rfl ?_).1 -- ret 2
  exact TEnt.toH rfl ⟨rfl, trivial⟩
theorem containsZ_ok (n : Int) (l : List Zn) (f : FuncId) (q : Zn → Bool) (hf : ∀ y, CSpec Try.prog f [NB1 n] [.agg (ZnC y), .ref 0 0 0] [some (NB1 n)] (.b (q y))) (hl : l.length ≤ 140737488355328) : CSpec Try.prog 72 [NB1 n] [.fz 6 (Zns l), .fn (.func f) [] [.ref 0 0 0]] [some (NB1 n)] (.b (l.any q)) := by
 refine CSpec.body Try.func72 rfl rfl rfl rfl rfl fun Q hQ => ?_
 refine T.seq fun K1 hK1 => ?_
 refine T.region ?_ -- region 0
 refine ro rfl rfl (OpOk.step (ok_moveb (c := false) (.inr rfl) rfl)) ?_
 refine ro_nil ?_
 refine keepK hK1 [0, 1] (by dsimp) (by dsimp) ?_
 refine T.seq fun K2 hK2 => ?_
 refine T.region ?_ -- region 1
 refine ro rfl rfl (OpOk.step (ok_move (.inl rfl))) ?_
 refine ro rfl rfl (OpOk.step (ok_move (.inl rfl))) ?_
 refine ro rfl rfl (ok_call rfl rfl rfl (((indexZ_ok n l f q hf hl).pass [0] (by decide) (by simp) (by simp [normH, hget, NB1_ren]) (by simp [renL, AV.ren, Zns_ren, pos0])).eq (x' := .int (fIdx q l)) (H'' := [some (NB1 n)]) rfl (by simp [mergeH, setIds, renH, NB1_ren]))) ?_
 refine ro rfl rfl (OpOk.step ((ok_binOp rfl ti_int rfl).eq (x' := .b (l.any q)) (by
  have e : decide (fIdx q l ≥ 0) = l.any q := by
    rw [Bool.eq_iff_iff, decide_eq_true_iff, List.any_eq_true]
    exact fIdx_iff q l
  exact congrArg AV.b e) rfl)) ?_
 refine ro rfl rfl (OpOk.step (ok_move (.inr rfl))) ?_
 refine ro_nil ?_
 refine keepK hK2 [4] (by dsimp) (by dsimp) ?_
 refine T.ret (hQ _ _ _ rfl ?_).1 -- ret 1
 exact TEnt.toH rfl ⟨rfl, trivial⟩
theorem free_new (s : St) (hl : s.zs.length ≤ 140737488355328) : CSpec Try.prog 36 [] [.agg (StC s)] [some ⟨1, true, ints .i64 (freeZ s.c s.zs)⟩] (.sl 0 0 (freeZ s.c s.zs).length) := by
 have hsb := slots_bd s.c
 obtain ⟨m, hm⟩ : ∃ m : Nat, slotsC s.c = m := ⟨(slotsC s.c).toNat, by omega⟩
 have hfz : freeZ s.c s.zs = freeK s.zs m := by unfold freeZ freeK; rw [hm]; simp
 rw [hfz]
 refine CSpec.body Try.func36 rfl rfl rfl rfl rfl fun Q hQ => ?_
 refine T.seq fun K1 hK1 => ?_
 refine T.region ?_ -- region 0
 refine ro rfl rfl (OpOk.step (ok_box (n := 15) rfl rfl (by decide))) ?_
 refine ro rfl rfl (OpOk.step (ok_move (.inr rfl))) ?_
 refine ro_nil ?_
 refine keepK hK1 [1] (by dsimp) (by dsimp) ?_
 refine T.seq fun K2 hK2 => ?_
 refine T.region ?_ -- region 1
 refine ro rfl rfl (OpOk.step (ok_move (.inr rfl))) ?_
 refine ro_nil ?_
 refine keepK hK2 [1, 3] (by dsimp) (by dsimp) ?_
 refine T.seq fun K3 hK3 => ?_
 refine T.seq fun K4 hK4 => ?_
 refine T.region ?_ -- region 2
 refine ro rfl rfl (OpOk.step (ok_fieldAddr rfl ti_api_State rfl rfl ti_api_Conf (by decide) rfl)) ?_
 refine ro rfl rfl (OpOk.step (ok_load rfl ti_api_Conf rfl rfl)) ?_
 refine ro rfl rfl (ok_call rfl rfl rfl ((slots_ok s.c).plain (by show renL _ [.agg (CC s.c)] = _; simp [renL, AV.ren, CC_ren]) rfl)) ?_
 refine ro rfl rfl (OpOk.step (ok_move (.inl rfl))) ?_
 refine ro_nil ?_
 refine keepK hK4 [1, 3, 7, 8] (by dsimp) (by dsimp) ?_
 refine T.block ?_
 refine T.loopI (ι := Nat) (fun i => i ≤ m) (fun i => m - i) (fun i => ([(1, .ref 0 0 0), (3, .sl 1 0 (freeK s.zs i).length), (7, .int m), (8, .int i)], [some (StB s), some ⟨1, true, ints .i64 (freeK s.zs i)⟩])) 0 (Nat.zero_le _) ((TEnt.empty 3 1 (by decide) (.inr rfl)).trans (TEnt.toH rfl ⟨rfl, rfl, by simp [hm], rfl, trivial⟩)) (fun i hi => ?_) -- loop 1
 have hkl := freeK_len s.zs i
 have hks := freeK_snoc s.zs i
 refine T.seq fun K5 hK5 => ?_
 refine T.region ?_ -- region 3
 refine ro rfl rfl (OpOk.step (ok_binOp rfl ti_int rfl)) ?_
 refine ro_nil ?_
 refine keepK hK5 [1, 3, 7, 8, 9] (by dsimp) (by dsimp) ?_
 refine T.seq fun K6 hK6 => ?_
 refine T.cond rfl (fun hc => ?_) (fun hc => ?_) -- cond 1
 ·(try simp only [dE] at hc)
  have him : i < m := by omega
  refine T.skip ?_
  refine keepK hK6 [1, 3, 7, 8] (by dsimp) (by dsimp) ?_
  refine T.seq fun K7 hK7 => ?_
  refine T.block ?_
  refine T.seq fun K8 hK8 => ?_
  refine T.region ?_ -- region 4
  refine ro rfl rfl (OpOk.step (ok_move (.inl rfl))) ?_
  refine ro rfl rfl (OpOk.step (ok_alloc rfl ti_int rfl (by decide))) ?_
  refine ro rfl rfl (OpOk.step (ok_store rfl ti_int (by decide) rfl rfl rfl rfl rfl (by first | exact Nat.le_of_ble_eq_true rfl | simp) (by first | exact .inl ⟨rfl, rfl⟩ | exact .inr rfl))) ?_
  refine ro_nil ?_
  refine keepK hK8 [1, 3, 4, 7, 8] (by dsimp) (by dsimp) ?_
  refine T.seq fun K9 hK9 => ?_
  refine T.region ?_ -- region 5
  refine ro rfl rfl (OpOk.step (ok_fieldAddr rfl ti_api_State rfl rfl ti_Lapi_Zone (by decide) rfl)) ?_
  refine ro rfl rfl (OpOk.step (ok_load rfl ti_Lapi_Zone rfl rfl)) ?_
  refine ro rfl rfl (OpOk.step (ok_makeFunc rfl)) ?_
  refine ro rfl rfl (ok_call rfl rfl rfl (((containsZ_ok i s.zs _ (fun z => decide (z.slot = (i : Int))) (fun y => free1_ok i y) hl).pass [2] (by decide) (by simp) (by simp [normH, hget]; exact NB1_ren _ _) (by simp [renL, AV.ren, Zns_ren]; rfl)).eq (x' := .b (hasZ s.zs i)) (H'' := [some (StB s), some ⟨1, true, ints .i64 (freeK s.zs i)⟩, some (NB1 i)]) rfl (by simp [mergeH, setIds, renH, NB1_ren]))) ?_
  refine ro rfl rfl (OpOk.step (ok_unOp rfl rfl)) ?_
  refine ro_nil ?_
  refine keepK hK9 [1, 3, 4, 7, 8, 15] (by dsimp) (by dsimp) ?_
  refine T.cond rfl (fun hc => ?_) (fun hc => ?_) -- cond 2
  ·(try simp only [dE] at hc)
   rw [hc, if_neg (by decide)] at hks
   refine T.region ?_ -- region 6
   refine ro rfl rfl (OpOk.step (ok_move (.inl rfl))) ?_
   refine ro rfl rfl (OpOk.step (ok_load rfl ti_int rfl rfl)) ?_
   refine ro rfl rfl (OpOk.step (ok_buildSlice (n := 1) (ps := #[(0, .tmp 17)]) rfl ti_Lint rfl ti_int (by decide) rfl rfl (by decide) rfl rfl rfl)) ?_
   refine ro rfl rfl (OpOk.step (by exact ok_append_ints (k := .i64) (xs := freeK s.zs i) (ys := [(i : Int)]) rfl ti_Lint rfl ti_int rfl (by decide) rfl ti_Lint (by simp) rfl rfl rfl rfl rfl rfl rfl rfl rfl (by simp; omega))) ?_
   refine ro rfl rfl (OpOk.step (ok_move (.inr rfl))) ?_
   refine ro_nil ?_
   refine keepK hK7 [1, 3, 7, 8] (by dsimp) (by dsimp) ?_
   refine T.region ?_ -- region 7
   refine ro rfl rfl (OpOk.step (ok_add64 rfl ti_int rfl rfl (by omega) (by omega))) ?_
   refine ro rfl rfl (OpOk.step (ok_move (.inl rfl))) ?_
   refine ro_nil ?_
   exact ⟨i + 1, by omega, by omega, by first
     | (rw [hks]; exact TEnt.fin [0, 4] (by decide) (by simp) (by simp only [normH, hget, List.map_cons, List.map_nil, List.getElem?_cons_zero, List.getElem?_cons_succ, Option.map_some, StB_ren]; simp [Blk.ren, renL_ints]) ⟨rfl, rfl, rfl, rfl, trivial⟩)
     | (rw [hks, List.append_nil]; exact TEnt.fin [0, 1] (by decide) (by simp) (by simp only [normH, hget, List.map_cons, List.map_nil, List.getElem?_cons_zero, List.getElem?_cons_succ, Option.map_some, StB_ren]; simp [Blk.ren, renL_ints]) ⟨rfl, rfl, rfl, rfl, trivial⟩)⟩
  ·(try simp only [dE] at hc)
   rw [hc, if_pos rfl] at hks
   refine T.skip ?_
   refine keepK hK7 [1, 3, 7, 8] (by dsimp) (by dsimp) ?_
   refine T.region ?_ -- region 7
   refine ro rfl rfl (OpOk.step (ok_add64 rfl ti_int rfl rfl (by omega) (by omega))) ?_
   refine ro rfl rfl (OpOk.step (ok_move (.inl rfl))) ?_
   refine ro_nil ?_
   exact ⟨i + 1, by omega, by omega, by first
     | (rw [hks]; exact TEnt.fin [0, 4] (by decide) (by simp) (by simp only [normH, hget, List.map_cons, List.map_nil, List.getElem?_cons_zero, List.getElem?_cons_succ, Option.map_some, StB_ren]; simp [Blk.ren, renL_ints]) ⟨rfl, rfl, rfl, rfl, trivial⟩)
     | (rw [hks, List.append_nil]; exact TEnt.fin [0, 1] (by decide) (by simp) (by simp only [normH, hget, List.map_cons, List.map_nil, List.getElem?_cons_zero, List.getElem?_cons_succ, Option.map_some, StB_ren]; simp [Blk.ren, renL_ints]) ⟨rfl, rfl, rfl, rfl, trivial⟩)⟩
 ·(try simp only [dE] at hc)
  have him : i = m := by omega
  subst him
  refine T.exit ?_
  refine keepK hK3 [3] (by dsimp) (by dsimp) ?_
  refine T.seq fun K10 hK10 => ?_
  refine T.region ?_ -- region 8
  refine ro rfl rfl (OpOk.step (ok_move (.inl rfl))) ?_
  refine ro rfl rfl (OpOk.step (ok_move (.inr rfl))) ?_
  refine ro_nil ?_
  refine keepK hK10 [2] (by dsimp) (by dsimp) ?_
  refine T.ret (hQ _ _ _ rfl ?_).1 -- ret 1
  exact TEnt.fin [1] (by decide) (by simp) (by simp [normH, hget, Blk.ren, renL_ints]) ⟨rfl, trivial⟩
theorem free_frz (s : St) (hl : s.zs.length ≤ 140737488355328) : CSpec Try.prog 36 [] [.agg (StC s)] [] (.fz 1 (ints .i64 (freeZ s.c s.zs))) := (free_new s hl).frz (by simp) (renL_ints _ _ _)
end Go.Proofs.Ytlegolcbjjjofaa.AmF
