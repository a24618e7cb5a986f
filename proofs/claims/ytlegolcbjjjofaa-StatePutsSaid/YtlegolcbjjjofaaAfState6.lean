/- Walks over the abstract machine: states of the log: a state in memory of its own. -/
import Derived.Test.YtlegolcbjjjofaaAfState5
namespace Go.Proofs.Ytlegolcbjjjofaa.AmF
open Go Go.AM
set_option maxRecDepth 100000
set_option maxHeartbeats 2000000
set_option linter.unusedSimpArgs false
set_option linter.unusedVariables false
attribute [local simp] tkeep tget tput ev cav argsTM pickA normT putA splice AV.cells ints_length rowsA_length Prs_len Zns_len
/-- A zone whose parities are told in another way. -/
def ZnS (z : Zn) (P : AV) : List AV := [.int z.gen, .int z.slot, .b z.full, .int z.w, .b z.whole, P]
/-- A state whose rows are told in another way. -/
def StS (s : St) (A B : AV) : List AV := CC s.c ++ [.int s.ep, .int s.sq, A, B]
theorem StS_ren (ρ : Nat → Option Nat) (s : St) (A B : AV) : renL ρ (StS s A B) = StS s (A.ren ρ) (B.ren ρ) := by
  simp only [StS, renL_map, List.map_append]
  rw [← renL_map, CC_ren]
  simp [AV.ren]
theorem ZnS_ren (ρ : Nat → Option Nat) (z : Zn) (P : AV) : renL ρ (ZnS z P) = ZnS z (P.ren ρ) := by simp [ZnS, renL, AV.ren]
/-- The zones' row; zone j's parities lie in block p, once it was come to. -/
def zsJ (zs : List Zn) (j p i : Nat) : List AV := match zs[j]? with
  | some z => if j < i then (Zns zs).set j (.agg (ZnS z (.sl p 0 z.pars.length))) else Zns zs
  | none => Zns zs
def pbJ (zs : List Zn) (j i : Nat) : Option Blk := match zs[j]? with
  | some z => if j < i then some ⟨2, true, Prs z.pars⟩ else none
  | none => none
theorem zsJ_len (zs : List Zn) (j p i : Nat) : (zsJ zs j p i).length = zs.length := by
  unfold zsJ
  split
  · split <;> simp
  · simp
theorem zsJ_get {zs : List Zn} {j p i k : Nat} {z : Zn} (hk : zs[k]? = some z) (h : i ≤ k) : (zsJ zs j p i)[k]? = some (.agg (ZnC z)) := by
  unfold zsJ
  split
  · split
    · rw [List.getElem?_set_ne (by omega)]; exact Zns_get hk
    · exact Zns_get hk
  · exact Zns_get hk
theorem zsJ_other {zs : List Zn} {j p i : Nat} (h : i ≠ j) : zsJ zs j p (i + 1) = zsJ zs j p i := by
  unfold zsJ
  split
  · by_cases hj : j < i
    · rw [if_pos (by omega), if_pos hj]
    · rw [if_neg (by omega), if_neg hj]
  · rfl
theorem pbJ_other {zs : List Zn} {j i : Nat} (h : i ≠ j) : pbJ zs j (i + 1) = pbJ zs j i := by
  unfold pbJ
  split
  · by_cases hj : j < i
    · rw [if_pos (by omega), if_pos hj]
    · rw [if_neg (by omega), if_neg hj]
  · rfl
theorem zsJ_at {zs : List Zn} {j p : Nat} {z : Zn} (hz : zs[j]? = some z) : zsJ zs j p j = Zns zs ∧ zsJ zs j p (j + 1) = (Zns zs).set j (.agg (ZnS z (.sl p 0 z.pars.length))) := by
  unfold zsJ
  rw [hz]
  exact ⟨if_neg (Nat.lt_irrefl _), if_pos (Nat.lt_succ_self _)⟩
theorem pbJ_at {zs : List Zn} {j : Nat} {z : Zn} (hz : zs[j]? = some z) : pbJ zs j j = none ∧ pbJ zs j (j + 1) = some ⟨2, true, Prs z.pars⟩ := by
  unfold pbJ
  rw [hz]
  exact ⟨if_neg (Nat.lt_irrefl _), if_pos (Nat.lt_succ_self _)⟩
theorem zsJ_ren {ρ : Nat → Option Nat} {p q : Nat} (hρ : ρ p = some q) (zs : List Zn) (j i : Nat) : renL ρ (zsJ zs j p i) = zsJ zs j q i := by
  unfold zsJ
  split
  · split
    · rw [renL_map, List.map_set, ← renL_map, Zns_ren]
      simp [AV.ren, ZnS_ren, hρ]
    · exact Zns_ren _ _
  · exact Zns_ren _ _
theorem pbJ_ren (ρ : Nat → Option Nat) (zs : List Zn) (j i : Nat) : (pbJ zs j i).map (Blk.ren ρ) = pbJ zs j i := by
  unfold pbJ
  split
  · split
    · simp [Blk.ren, Prs_ren]
    · rfl
  · rfl
theorem hget_pb (zs : List Zn) (j i : Nat) : (match (some (pbJ zs j i)) with | some (some b) => some b | _ => none) = pbJ zs j i := by
  cases pbJ zs j i <;> rfl
theorem Prs_put {l : List Pr} {i : Nat} {p : Pr} (h : l[i]? = some p) : (Prs l).set i (.agg (PrC p)) = Prs l := by
  apply List.ext_getElem?
  intro k
  rw [List.getElem?_set]
  by_cases hk : i = k
  · subst hk
    have := (List.getElem?_eq_some_iff.1 h).1
    rw [if_pos rfl, if_pos (by simpa using this), Prs_get h]
  · rw [if_neg hk]
theorem Zns_put {l : List Zn} {i : Nat} {z : Zn} (h : l[i]? = some z) : (Zns l).set i (.agg (ZnC z)) = Zns l := by
  apply List.ext_getElem?
  intro k
  rw [List.getElem?_set]
  by_cases hk : i = k
  · subst hk
    have := (List.getElem?_eq_some_iff.1 h).1
    rw [if_pos rfl, if_pos (by simpa using this), Zns_get h]
  · rw [if_neg hk]
theorem heap7 {a a' b b' c c' d d' e e' f f' g g' : Option Blk} (h1 : a = a') (h2 : b = b') (h3 : c = c') (h4 : d = d') (h5 : e = e') (h6 : f = f') (h7 : g = g') : [a, b, c, d, e, f, g] = [a', b', c', d', e', f', g'] := by subst h1 h2 h3 h4 h5 h6 h7; rfl
theorem heap3 {a a' b b' c c' : Option Blk} (h1 : a = a') (h2 : b = b') (h3 : c = c') : [a, b, c] = [a', b', c'] := by subst h1 h2 h3; rfl
theorem heap5 {a a' b b' c c' d d' e e' : Option Blk} (h1 : a = a') (h2 : b = b') (h3 : c = c') (h4 : d = d') (h5 : e = e') : [a, b, c, d, e] = [a', b', c', d', e'] := by subst h1 h2 h3 h4 h5; rfl
theorem ib_ren (ρ : Nat → Option Nat) (l : List Int) : some (Blk.ren ρ ⟨1, true, ints .i64 l⟩) = some ⟨1, true, ints .i64 l⟩ := by simp [Blk.ren, renL_ints]
theorem prb_ren (ρ : Nat → Option Nat) (l : List Pr) : some (Blk.ren ρ ⟨2, true, Prs l⟩) = some ⟨2, true, Prs l⟩ := by simp [Blk.ren, Prs_ren]
theorem zb_ren {ρ : Nat → Option Nat} {p q : Nat} (hρ : ρ p = some q) (zs : List Zn) (j i : Nat) : some (Blk.ren ρ ⟨6, true, zsJ zs j p i⟩) = some ⟨6, true, zsJ zs j q i⟩ := by simp [Blk.ren, zsJ_ren hρ]
theorem xb_ren {ρ : Nat → Option Nat} {p q : Nat} (hρ : ρ p = some q) (z : Zn) (n : Nat) : some (Blk.ren ρ ⟨6, true, [.agg (ZnS z (.sl p 0 n))]⟩) = some ⟨6, true, [.agg (ZnS z (.sl q 0 n))]⟩ := by simp [Blk.ren, renL, AV.ren, ZnS_ren, hρ]
theorem EntL.back {H : Heap} {l : List AV} {i : Nat} {x x' : AV} (hi : l[i]? = some x') (he : Ent H x x') : EntL H (l.set i x) l := by
  have h1 := EntL.set (H := H) (l := l.set i x) i (by rw [List.getElem?_set, if_pos rfl, if_pos (List.getElem?_eq_some_iff.1 hi).1]) he
  rw [List.set_set] at h1
  have h2 : l.set i x' = l := by
    apply List.ext_getElem?
    intro k
    rw [List.getElem?_set]
    by_cases hk : i = k
    · subst hk
      rw [if_pos rfl, if_pos (List.getElem?_eq_some_iff.1 hi).1, hi]
    · rw [if_neg hk]
  rw [h2] at h1
  exact h1
theorem zset_ren {ρ : Nat → Option Nat} {p q : Nat} (hρ : ρ p = some q) (zs : List Zn) (w : Nat) (z : Zn) (n : Nat) : some (Blk.ren ρ ⟨6, true, (Zns zs).set w (.agg (ZnS z (.sl p 0 n)))⟩) = some ⟨6, true, (Zns zs).set w (.agg (ZnS z (.sl q 0 n)))⟩ := by
  simp only [Blk.ren]
  rw [renL_map, List.map_set, ← renL_map, Zns_ren]
  simp [AV.ren, ZnS_ren, hρ]
/-- Parities that are written no more. -/
theorem Ent.zone {H : Heap} {p : Nat} (z : Zn) (hb : hget H p = some ⟨2, false, Prs z.pars⟩) : Ent H (.agg (ZnS z (.sl p 0 z.pars.length))) (.agg (ZnC z)) :=
  Ent.agg (EntL.cons (Ent.refl _) (EntL.cons (Ent.refl _) (EntL.cons (Ent.refl _) (EntL.cons (Ent.refl _) (EntL.cons (Ent.refl _) (EntL.cons (Ent.sl0 (b := ⟨2, false, Prs z.pars⟩) hb rfl (Prs_len _)) EntL.nil))))))
theorem zsJ_0 (zs : List Zn) (j p : Nat) : zsJ zs j p 0 = Zns zs := by
  unfold zsJ
  split
  · rfl
  · rfl
theorem pbJ_0 (zs : List Zn) (j : Nat) : pbJ zs j 0 = none := by
  unfold pbJ
  split
  · rfl
  · rfl
def Z15 : Blk := ⟨15, true, [.agg (List.map .v [.int .i64 0, .int .i64 0, .int .i64 0, .int .i64 0, .int .i64 0, .int .i64 0, .int .i64 0, .int .i64 0, .int .i64 0, .int .i64 0, .int .i64 0, .int .i64 0, .int .i64 0, .slice none 0 0, .slice none 0 0])]⟩
def SB (s : St) (A B : AV) : Blk := ⟨15, true, [.agg (StS s A B)]⟩
theorem SB_ren {ρ : Nat → Option Nat} {s : St} {a b a' b' n m : Nat} (ha : ρ a = some a') (hb : ρ b = some b') : some (Blk.ren ρ (SB s (.sl a 0 n) (.sl b 0 m))) = some (SB s (.sl a' 0 n) (.sl b' 0 m)) := by
  simp [SB, Blk.ren, renL, AV.ren, StS_ren, ha, hb]
theorem sclone_ok (s : St) (j : Nat) (hn : s.st.length ≤ 1000000000) (hm : s.zs.length ≤ 1000000000) (hl : ∀ z ∈ s.zs, z.pars.length ≤ 1000000000) (hb : ∀ z ∈ s.zs, ∀ p ∈ z.pars, p.b.length ≤ 140737488355328) : CSpec Try.prog 60 [] [.agg (StC s)] [some ⟨1, true, ints .i64 s.st⟩, some ⟨6, true, zsJ s.zs j 2 s.zs.length⟩, pbJ s.zs j s.zs.length] (.agg (StS s (.sl 0 0 s.st.length) (.sl 1 0 s.zs.length))) := by
 refine CSpec.body Try.func60 rfl rfl rfl rfl rfl fun Q hQ => ?_
 refine T.seq fun K1 hK1 => ?_
 refine T.region ?_ -- region 0
 refine ro rfl rfl (OpOk.step (ok_box (n := 15) rfl rfl (by decide))) ?_
 refine ro rfl rfl (OpOk.step (ok_alloc rfl ti_api_State rfl (by decide))) ?_
 refine ro_nil ?_
 refine keepK hK1 [1, 2] (by dsimp) (by dsimp) ?_
 refine T.seq fun K2 hK2 => ?_
 refine T.drawH mixed [7, 8, 9] ?_ -- region 1
 refine any_take 0 rfl (by first | rfl | decide +kernel) rfl (HeldL.refl _) (fun H' hH => OpOk.step (ok_fieldAddr rfl ti_api_State rfl rfl ti_Lint (by decide) rfl)) ?_
 refine any_take 1 rfl (by first | rfl | decide +kernel) rfl (HeldL.refl _) (fun H' hH => OpOk.step (ok_load rfl ti_Lint (locA_held hH rfl) rfl)) ?_
 refine any_take 3 rfl (by first | rfl | decide +kernel) rfl (HeldL.refl _) (fun H' hH => OpOk.step (ok_fieldAddr rfl ti_api_State rfl rfl ti_Lapi_Zone (by decide) rfl)) ?_
 refine any_take 4 rfl (by first | rfl | decide +kernel) rfl (HeldL.refl _) (fun H' hH => OpOk.step (ok_load rfl ti_Lapi_Zone (locA_held hH rfl) rfl)) ?_
 refine any_one 2 rfl (by first | rfl | decide +kernel) rfl rfl (ok_call rfl rfl rfl ((sclone_new s.st (by omega)).fresh (by simp [renL, AV.ren, renL_ints]) rfl (by simp [renH, Blk.ren, renL_ints]; rfl))) (.inr (by first | (simp [HeldL]; done) | (simp only [HeldL, List.map_cons, List.map_nil, List.cons_append, List.nil_append, List.set_cons_zero, List.set_cons_succ]; (repeat' first | trivial | rfl | constructor)))) ?_
 refine any_take 6 rfl (by first | rfl | decide +kernel) rfl (by first | exact HeldL.refl _ | exact HeldL.append _ _ | simp [HeldL]) (fun H' hH => OpOk.step (ok_fieldAddr rfl ti_api_State rfl rfl ti_Lint (by decide) rfl)) ?_
 refine any_one 5 rfl (by first | rfl | decide +kernel) rfl rfl (ok_call rfl rfl rfl ((zclone_new s.zs (by omega)).fresh (by simp [renL, AV.ren, Zns_ren]) rfl (by simp [renH, Blk.ren, Zns_ren]; rfl))) (.inr (by first | (simp [HeldL]; done) | (simp only [HeldL, List.map_cons, List.map_nil, List.cons_append, List.nil_append, List.set_cons_zero, List.set_cons_succ]; (repeat' first | trivial | rfl | constructor)))) ?_
 refine any_one 7 rfl (by first | rfl | decide +kernel) rfl rfl (OpOk.step (ok_store rfl ti_Lint (by decide) rfl rfl rfl rfl rfl (by first | exact Nat.le_of_ble_eq_true rfl | simp) (by first | exact .inl ⟨rfl, rfl⟩ | exact .inr rfl))) (.inl (by simp)) ?_
 refine any_one 8 rfl (by first | rfl | decide +kernel) rfl rfl (OpOk.step (ok_fieldAddr rfl ti_api_State rfl rfl ti_Lapi_Zone (by decide) rfl)) (.inl (by simp)) ?_
 refine any_one 9 rfl (by first | rfl | decide +kernel) rfl rfl (OpOk.step (ok_store rfl ti_Lapi_Zone (by decide) rfl rfl rfl rfl rfl (by first | exact Nat.le_of_ble_eq_true rfl | simp) (by first | exact .inl ⟨rfl, rfl⟩ | exact .inr rfl))) (.inl (by simp)) ?_
 refine any_done rfl ?_
 refine keepK hK2 [1, 2] (by dsimp) (by dsimp) ?_
 refine T.seq fun K3 hK3 => ?_
 refine T.seq fun K4 hK4 => ?_
 refine T.region ?_ -- region 2
 refine ro rfl rfl (OpOk.step (ok_fieldAddr rfl ti_api_State rfl rfl ti_Lapi_Zone (by decide) rfl)) ?_
 refine ro rfl rfl (OpOk.step (ok_load rfl ti_Lapi_Zone rfl rfl)) ?_
 refine ro rfl rfl (OpOk.step (ok_len' rfl rfl ti_Lapi_Zone rfl (by first | exact ints_length _ _ | exact rowsA_length _ _ | exact Cms_len _ | exact mapLen _ | rfl))) ?_
 refine ro rfl rfl (OpOk.step (ok_move (.inl rfl))) ?_
 refine ro_nil ?_
 refine keepK hK4 [1, 2, 16, 17, 18] (by dsimp) (by dsimp) ?_
 refine T.block ?_
 refine T.loopI (ι := Nat) (fun i => i ≤ s.zs.length) (fun i => s.zs.length - i) (fun i => ([(1, .ref 0 0 0), (2, .ref 1 0 0), (16, .sl 3 0 s.zs.length), (17, .int s.zs.length), (18, .int i)], [some (SB s (.sl 2 0 s.st.length) (.sl 3 0 s.zs.length)), some Z15, some ⟨1, true, ints .i64 s.st⟩, some ⟨6, true, zsJ s.zs j 4 i⟩, pbJ s.zs j i])) 0 (Nat.zero_le _) (by
   rw [zsJ_0, pbJ_0]
   exact TEnt.fin [0, 1, 2, 3, 4] (by decide) (by simp) (by simp [normH, hget, Blk.ren, renL_ints]; exact ⟨by simp [SB, renL, AV.ren]; exact StS_ren _ s (.sl 2 0 _) (.sl 3 0 _), rfl, Zns_ren _ _⟩) ⟨rfl, rfl, rfl, by simp [AV.ren], rfl, trivial⟩) (fun i hi => ?_) -- loop 1
 refine T.seq fun K5 hK5 => ?_
 refine T.region ?_ -- region 3
 refine ro rfl rfl (OpOk.step (ok_binOp rfl ti_int rfl)) ?_
 refine ro_nil ?_
 refine keepK hK5 [1, 2, 16, 17, 18, 19] (by dsimp) (by dsimp) ?_
 refine T.seq fun K6 hK6 => ?_
 refine T.cond rfl (fun hc => ?_) (fun hc => ?_) -- cond 1
 ·(try simp only [dE] at hc)
  obtain ⟨z, hz⟩ : ∃ z, s.zs[i]? = some z := ⟨_, List.getElem?_eq_getElem (by omega)⟩
  have hlz := hl z (List.mem_of_getElem? hz)
  have hbz := hb z (List.mem_of_getElem? hz)
  obtain ⟨w, hw⟩ : ∃ w, w = i := ⟨_, rfl⟩
  subst hw
  refine T.skip ?_
  refine keepK hK6 [1, 2, 16, 17, 18] (by dsimp) (by dsimp) ?_
  refine T.seq fun K7 hK7 => ?_
  refine T.block ?_
  refine T.seq fun K8 hK8 => ?_
  refine T.region ?_ -- region 4
  refine ro rfl rfl (OpOk.step (ok_move (.inl rfl))) ?_
  refine ro rfl rfl (OpOk.step (by exact ok_index_sl rfl ti_Lapi_Zone rfl ti_api_Zone rfl rfl rfl rfl (by omega) (by omega))) ?_
  refine ro rfl rfl (OpOk.step (by exact ok_load rfl ti_api_Zone (cl := ZnC z) (f := 0) (by show locA [some (SB s (.sl 2 0 s.st.length) (.sl 3 0 s.zs.length)), some Z15, some ⟨1, true, ints .i64 s.st⟩, some ⟨6, true, zsJ s.zs j 4 w⟩, pbJ s.zs j w] (.ref 3 (0 + ((w : Nat) : Int).toNat) 0) = _; simp [locA, hget, zsJ_get hz, ZnC]) rfl)) ?_
  refine ro rfl rfl (OpOk.step (ok_alloc rfl ti_api_Zone rfl (by decide))) ?_
  refine ro rfl rfl (OpOk.step (ok_move (.inr rfl))) ?_
  refine ro rfl rfl (OpOk.step (ok_store rfl ti_api_Zone (by decide) rfl rfl rfl rfl rfl (by first | exact Nat.le_of_ble_eq_true rfl | simp) (by first | exact .inl ⟨rfl, rfl⟩ | exact .inr rfl))) ?_
  refine ro_nil ?_
  refine keepK hK8 [1, 2, 3, 4, 16, 17, 18] (by dsimp) (by dsimp) ?_
  refine T.seq fun K9 hK9 => ?_
  refine T.region ?_ -- region 5
  refine ro rfl rfl (OpOk.step (ok_fieldAddr rfl ti_api_Zone rfl rfl ti_Lapi_Par (by decide) rfl)) ?_
  refine ro rfl rfl (OpOk.step (ok_load rfl ti_Lapi_Par rfl rfl)) ?_
  refine ro rfl rfl (ok_call rfl rfl rfl ((pclone_new z.pars (by omega)).fresh (by simp [renL, AV.ren, Prs_ren]) rfl (by simp [renH, Blk.ren, Prs_ren]; rfl))) ?_
  refine ro rfl rfl (OpOk.step (ok_fieldAddr rfl ti_api_Zone rfl rfl ti_Lapi_Par (by decide) rfl)) ?_
  refine ro rfl rfl (OpOk.step (ok_store rfl ti_Lapi_Par (by decide) rfl rfl rfl rfl rfl (by first | exact Nat.le_of_ble_eq_true rfl | simp) (by first | exact .inl ⟨rfl, rfl⟩ | exact .inr rfl))) ?_
  refine ro_nil ?_
  refine keepK hK9 [1, 2, 3, 4, 16, 17, 18] (by dsimp) (by dsimp) ?_
  refine T.seq fun K10 hK10 => ?_
  refine T.seq fun K11 hK11 => ?_
  refine T.region ?_ -- region 6
  refine ro rfl rfl (OpOk.step (ok_fieldAddr rfl ti_api_Zone rfl rfl ti_Lapi_Par (by decide) rfl)) ?_
  refine ro rfl rfl (OpOk.step (ok_load rfl ti_Lapi_Par rfl rfl)) ?_
  refine ro rfl rfl (OpOk.step (ok_len' rfl rfl ti_Lapi_Par rfl (by first | exact ints_length _ _ | exact rowsA_length _ _ | exact Cms_len _ | exact mapLen _ | rfl))) ?_
  refine ro rfl rfl (OpOk.step (ok_move (.inl rfl))) ?_
  refine ro_nil ?_
  refine keepK hK11 [1, 2, 3, 4, 16, 17, 18, 28, 29, 30] (by dsimp) (by dsimp) ?_
  refine T.block ?_
  refine T.loopI (ι := Nat) (fun k => k ≤ z.pars.length) (fun k => z.pars.length - k) (fun k => ([(1, .ref 0 0 0), (2, .ref 1 0 0), (3, .int w), (4, .ref 5 0 0), (16, .sl 3 0 s.zs.length), (17, .int s.zs.length), (18, .int w), (28, .sl 6 0 z.pars.length), (29, .int z.pars.length), (30, .int k)], [some (SB s (.sl 2 0 s.st.length) (.sl 3 0 s.zs.length)), some Z15, some ⟨1, true, ints .i64 s.st⟩, some ⟨6, true, zsJ s.zs j 4 w⟩, pbJ s.zs j w, some ⟨6, true, [.agg (ZnS z (.sl 6 0 z.pars.length))]⟩, some ⟨2, true, Prs z.pars⟩])) 0 (Nat.zero_le _) (TEnt.toH rfl ⟨rfl, rfl, rfl, rfl, rfl, rfl, rfl, rfl, rfl, rfl, trivial⟩) (fun i hi => ?_) -- loop 2
  refine T.seq fun K12 hK12 => ?_
  refine T.region ?_ -- region 7
  refine ro rfl rfl (OpOk.step (ok_binOp rfl ti_int rfl)) ?_
  refine ro_nil ?_
  refine keepK hK12 [1, 2, 3, 4, 16, 17, 18, 28, 29, 30, 31] (by dsimp) (by dsimp) ?_
  refine T.seq fun K13 hK13 => ?_
  refine T.cond rfl (fun hc => ?_) (fun hc => ?_) -- cond 2
  ·(try simp only [dE] at hc)
   obtain ⟨p, hp⟩ : ∃ p, z.pars[i]? = some p := ⟨_, List.getElem?_eq_getElem (by omega)⟩
   refine T.skip ?_
   refine keepK hK13 [1, 2, 3, 4, 16, 17, 18, 28, 29, 30] (by dsimp) (by dsimp) ?_
   refine T.seq fun K14 hK14 => ?_
   refine T.block ?_
   refine T.seq fun K15 hK15 => ?_
   refine T.region ?_ -- region 8
   refine ro rfl rfl (OpOk.step (ok_move (.inl rfl))) ?_
   refine ro rfl rfl (OpOk.step (by exact ok_index_sl rfl ti_Lapi_Par rfl ti_api_Par rfl rfl rfl rfl (by omega) (by omega))) ?_
   refine ro rfl rfl (OpOk.step (by exact ok_load rfl ti_api_Par (cl := PrC p) (f := 0) (locA_map (F := PrC) (l := z.pars) (b := ⟨2, true, Prs z.pars⟩) rfl rfl (by simpa using hp) (by simp [PrC])) rfl)) ?_
   refine ro rfl rfl (OpOk.step (ok_alloc rfl ti_api_Par rfl (by decide))) ?_
   refine ro rfl rfl (OpOk.step (ok_move (.inr rfl))) ?_
   refine ro rfl rfl (OpOk.step (ok_store rfl ti_api_Par (by decide) rfl rfl rfl rfl rfl (by first | exact Nat.le_of_ble_eq_true rfl | simp) (by first | exact .inl ⟨rfl, rfl⟩ | exact .inr rfl))) ?_
   refine ro_nil ?_
   refine keepK hK15 [1, 2, 3, 4, 5, 6, 16, 17, 18, 28, 29, 30] (by dsimp) (by dsimp) ?_
   refine T.draw mixed (SH [8] (HeldL ([none, none, none, none, none, some ⟨6, true, [.agg (ZnS z (.sl 6 0 z.pars.length))]⟩, some ⟨2, true, Prs z.pars⟩, some ⟨2, true, [.agg (PrC p)]⟩]))) ?_ -- region 9
   refine any_take 0 rfl (by first | rfl | decide +kernel) rfl (by first | (simp [HeldL]; done) | (simp only [HeldL, List.map_cons, List.map_nil, List.cons_append, List.nil_append, List.set_cons_zero, List.set_cons_succ]; (repeat' first | trivial | rfl | constructor))) (fun H' hH => OpOk.step (ok_fieldAddr rfl ti_api_Zone rfl rfl ti_Lapi_Par (by decide) rfl)) ?_
   refine any_take 1 rfl (by first | rfl | decide +kernel) rfl (by first | (simp [HeldL]; done) | (simp only [HeldL, List.map_cons, List.map_nil, List.cons_append, List.nil_append, List.set_cons_zero, List.set_cons_succ]; (repeat' first | trivial | rfl | constructor))) (fun H' hH => OpOk.step (ok_load rfl ti_Lapi_Par (locA_held hH rfl) rfl)) ?_
   refine any_take 2 rfl (by first | rfl | decide +kernel) rfl (by first | (simp [HeldL]; done) | (simp only [HeldL, List.map_cons, List.map_nil, List.cons_append, List.nil_append, List.set_cons_zero, List.set_cons_succ]; (repeat' first | trivial | rfl | constructor))) (fun H' hH => OpOk.step (ok_move (.inl rfl))) ?_
   refine any_take 3 rfl (by first | rfl | decide +kernel) rfl (by first | (simp [HeldL]; done) | (simp only [HeldL, List.map_cons, List.map_nil, List.cons_append, List.nil_append, List.set_cons_zero, List.set_cons_succ]; (repeat' first | trivial | rfl | constructor))) (fun H' hH => OpOk.step (ok_fieldAddr rfl ti_api_Par rfl rfl ti_Luint8 (by decide) rfl)) ?_
   refine any_take 4 rfl (by first | rfl | decide +kernel) rfl (by first | (simp [HeldL]; done) | (simp only [HeldL, List.map_cons, List.map_nil, List.cons_append, List.nil_append, List.set_cons_zero, List.set_cons_succ]; (repeat' first | trivial | rfl | constructor))) (fun H' hH => OpOk.step (ok_load rfl ti_Luint8 (locA_held hH rfl) rfl)) ?_
   refine any_one 5 rfl (by first | rfl | decide +kernel) rfl rfl (ok_call rfl rfl rfl ((clone_frz p.b (hbz p (List.mem_of_getElem? hp))).plain (by simp [renL, AV.ren, renL_ints]) (by simp [AV.ren, renL_ints]))) (.inr (by first | (simp [HeldL]; done) | (simp only [HeldL, List.map_cons, List.map_nil, List.cons_append, List.nil_append, List.set_cons_zero, List.set_cons_succ]; (repeat' first | trivial | rfl | constructor)))) ?_
   refine any_take 6 rfl (by first | rfl | decide +kernel) rfl (by first | (simp [HeldL]; done) | (simp only [HeldL, List.map_cons, List.map_nil, List.cons_append, List.nil_append, List.set_cons_zero, List.set_cons_succ]; (repeat' first | trivial | rfl | constructor))) (fun H' hH => OpOk.step (by exact ok_index_sl (b := ⟨2, true, Prs z.pars⟩) rfl ti_Lapi_Par rfl ti_api_Par rfl (hH.get rfl) rfl rfl (by omega) (by omega))) ?_
   refine any_take 7 rfl (by first | rfl | decide +kernel) rfl (by first | (simp [HeldL]; done) | (simp only [HeldL, List.map_cons, List.map_nil, List.cons_append, List.nil_append, List.set_cons_zero, List.set_cons_succ]; (repeat' first | trivial | rfl | constructor))) (fun H' hH => OpOk.step (ok_fieldAddr rfl ti_api_Par rfl rfl ti_Luint8 (by decide) rfl)) ?_
   refine any_one 8 rfl (by first | rfl | decide +kernel) rfl rfl (OpOk.step ((ok_store rfl ti_Luint8 (by decide) (id := 6) (j := 0 + i) (f := 1) rfl rfl rfl (by rw [Nat.zero_add]; exact Prs_get hp) rfl (by show 1 + 1 ≤ 2; decide) (.inr rfl)).eq (x' := .any) (H'' := [some (SB s (.sl 2 0 s.st.length) (.sl 3 0 s.zs.length)), some Z15, some ⟨1, true, ints .i64 s.st⟩, some ⟨6, true, zsJ s.zs j 4 w⟩, pbJ s.zs j w, some ⟨6, true, [.agg (ZnS z (.sl 6 0 z.pars.length))]⟩, some ⟨2, true, Prs z.pars⟩, some ⟨2, true, [.agg (PrC p)]⟩]) rfl (by show [_, _, _, _, _, _, some (⟨2, true, (Prs z.pars).set (0 + i) (.agg (PrC p))⟩ : Blk), _] = _; rw [Nat.zero_add, Prs_put hp]; rfl))) (.inl (by simp)) ?_
   refine any_done rfl ?_
   refine keepK hK14 [1, 2, 3, 4, 16, 17, 18, 28, 29, 30] (by dsimp) (by dsimp) ?_
   refine T.region ?_ -- region 10
   refine ro rfl rfl (OpOk.step (ok_add64 rfl ti_int rfl rfl (by omega) (by omega))) ?_
   refine ro rfl rfl (OpOk.step (ok_move (.inl rfl))) ?_
   refine ro_nil ?_
   exact ⟨i + 1, by omega, by omega, TEnt.fin [0, 1, 2, 3, 4, 5, 6] (by decide) (by simp) (by
     exact heap7 (SB_ren (by decide) (by decide)) rfl (ib_ren _ _) (zb_ren (by decide) _ _ _) ((congrArg _ (hget_pb _ _ _)).trans (pbJ_ren _ _ _ _)) (xb_ren (by decide) _ _) (prb_ren _ _)) ⟨rfl, rfl, rfl, rfl, rfl, rfl, rfl, rfl, rfl, rfl, trivial⟩⟩
  ·(try simp only [dE] at hc)
   refine T.exit ?_
   refine keepK hK10 [1, 2, 3, 4, 16, 17, 18] (by dsimp) (by dsimp) ?_
   refine T.region ?_ -- region 11
   refine ro rfl rfl (OpOk.step (ok_fieldAddr rfl ti_api_State rfl rfl ti_Lapi_Zone (by decide) rfl)) ?_
   refine ro rfl rfl (OpOk.step (ok_load rfl ti_Lapi_Zone rfl rfl)) ?_
   refine ro rfl rfl (OpOk.step (ok_move (.inl rfl))) ?_
   refine ro rfl rfl (OpOk.step (ok_load rfl ti_api_Zone rfl rfl)) ?_
   refine ro rfl rfl (OpOk.step (by exact ok_index_sl (b := ⟨6, true, zsJ s.zs j 4 w⟩) rfl ti_Lapi_Zone rfl ti_api_Zone rfl rfl rfl rfl (by omega) (by omega))) ?_
   refine ro rfl rfl (OpOk.step ((ok_store rfl ti_api_Zone (by decide) (id := 3) (j := 0 + w) (f := 0) rfl rfl rfl (by rw [Nat.zero_add]; exact zsJ_get hz (Nat.le_refl _)) rfl (by show 0 + 6 ≤ 6; decide) (.inl ⟨rfl, rfl⟩)).eq (x' := .any) (H'' := [some (SB s (.sl 2 0 s.st.length) (.sl 3 0 s.zs.length)), some Z15, some ⟨1, true, ints .i64 s.st⟩, some ⟨6, true, (zsJ s.zs j 4 w).set w (.agg (ZnS z (.sl 6 0 z.pars.length)))⟩, pbJ s.zs j w, some ⟨6, true, [.agg (ZnS z (.sl 6 0 z.pars.length))]⟩, some ⟨2, true, Prs z.pars⟩]) rfl (by show [_, _, _, some (⟨6, true, (zsJ s.zs j 4 w).set (0 + w) (.agg (ZnS z (.sl 6 0 z.pars.length)))⟩ : Blk), _, _, _] = _; rw [Nat.zero_add]))) ?_
   refine ro_nil ?_
   refine keepK hK7 [1, 2, 16, 17, 18] (by dsimp) (by dsimp) ?_
   refine T.region ?_ -- region 12
   refine ro rfl rfl (OpOk.step (ok_add64 rfl ti_int rfl rfl (by omega) (by omega))) ?_
   refine ro rfl rfl (OpOk.step (ok_move (.inl rfl))) ?_
   refine ro_nil ?_
   exact ⟨w + 1, by omega, by omega, by
     by_cases hwj : w = j
     · subst hwj
       rw [(zsJ_at hz).1, (zsJ_at hz).2, (pbJ_at hz).1, (pbJ_at hz).2]
       exact TEnt.fin [0, 1, 2, 3, 6] (by decide) (by simp) (heap5 (SB_ren (by decide) (by decide)) rfl (ib_ren _ _) (zset_ren (by decide) _ _ _ _) (prb_ren _ _)) ⟨rfl, rfl, rfl, rfl, rfl, trivial⟩
     · rw [zsJ_other hwj, pbJ_other hwj]
       refine (TEnt.freeze 6 (b := ⟨2, true, Prs z.pars⟩) rfl).trans ((TEnt.blk 3 (b := ⟨6, true, (zsJ s.zs j 4 w).set w (.agg (ZnS z (.sl 6 0 z.pars.length)))⟩) (l' := zsJ s.zs j 4 w) rfl (by simp) (EntL.back (zsJ_get hz (Nat.le_refl _)) (Ent.zone z rfl))).trans ?_)
       exact TEnt.fin [0, 1, 2, 3, 4] (by decide) (by simp) (heap5 (SB_ren (by decide) (by decide)) rfl (ib_ren _ _) (zb_ren (by decide) _ _ _) ((congrArg _ (hget_pb _ _ _)).trans (pbJ_ren _ _ _ _))) ⟨rfl, rfl, rfl, rfl, rfl, trivial⟩⟩
 ·(try simp only [dE] at hc)
  have hin : i = s.zs.length := by omega
  subst hin
  refine T.exit ?_
  refine keepK hK3 [1, 2] (by dsimp) (by dsimp) ?_
  refine T.seq fun K16 hK16 => ?_
  refine T.region ?_ -- region 13
  refine ro rfl rfl (OpOk.step (ok_load rfl ti_api_State rfl rfl)) ?_
  refine ro rfl rfl (OpOk.step (ok_store rfl ti_api_State (by decide) rfl rfl rfl rfl rfl (by first | exact Nat.le_of_ble_eq_true rfl | simp) (by first | exact .inl ⟨rfl, rfl⟩ | exact .inr rfl))) ?_
  refine ro_nil ?_
  refine keepK hK16 [2] (by dsimp) (by dsimp) ?_
  refine T.ret (hQ _ _ _ rfl ?_).1 -- ret 1
  exact TEnt.fin [2, 3, 4] (by decide) (by simp) (heap3 (ib_ren _ _) (zb_ren (by decide) _ _ _) ((congrArg _ (hget_pb _ _ _)).trans (pbJ_ren _ _ _ _))) ⟨by show AV.agg (renL _ (StS s (.sl 2 0 s.st.length) (.sl 3 0 s.zs.length))) = _; rw [StS_ren]; rfl, trivial⟩
end Go.Proofs.Ytlegolcbjjjofaa.AmF
