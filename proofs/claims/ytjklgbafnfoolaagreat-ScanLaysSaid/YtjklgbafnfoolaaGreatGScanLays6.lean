/- Walks over the abstract machine: states of the log: a state in memory of its own. -/
import Derived.Test.YtjklgbafnfoolaaGreatGScanLays5
namespace Go.Proofs.YtjklgbafnfoolaaGreat.AmF
open Go Go.AM
set_option maxRecDepth 100000
set_option maxHeartbeats 2000000
set_option linter.unusedSimpArgs false
set_option linter.unusedVariables false
attribute [local simp] tkeep tget tput ev cav argsTM pickA normT putA splice AV.cells ints_length rowsA_length Prs_len Zns_len
/-- A zone whose parities are told in another way. -/
def ZnS (z : Zn) (P : AV) : List AV := [.int z.gen, .int z.slot, .b z.full, .int z.w, .b z.whole, P]
/-- A state whose rows are told in another way. -/
def StS (s : St) (A B : AV) : List AV := CC s.c ++ [.int s.ep, .int s.sq, A, B]
theorem StS_ren (ρ : Nat → Option Nat) (s : St) (A B : AV) : renL ρ (StS s A B) = StS s (A.ren ρ) (B.ren ρ) := by
  simp only [StS, renL_map, List.map_append]
  rw [← renL_map, CC_ren]
  simp [AV.ren]
theorem ZnS_ren (ρ : Nat → Option Nat) (z : Zn) (P : AV) : renL ρ (ZnS z P) = ZnS z (P.ren ρ) := by simp [ZnS, renL, AV.ren]
/-- The zones' row; zone j's parities lie in block p, once it was come to. -/
def zsJ (zs : List Zn) (j p i : Nat) : List AV := match zs[j]? with
  | some z => if j < i then (Zns zs).set j (.agg (ZnS z (.sl p 0 z.pars.length))) else Zns zs
  | none => Zns zs
def pbJ (zs : List Zn) (j i : Nat) : Option Blk := match zs[j]? with
  | some z => if j < i then some ⟨2, true, Prs z.pars⟩ else none
  | none => none
theorem zsJ_get {zs : List Zn} {j p i k : Nat} {z : Zn} (hk : zs[k]? = some z) (h : i ≤ k) : (zsJ zs j p i)[k]? = some (.agg (ZnC z)) := by
  unfold zsJ
  split
  · split
    · rw [List.getElem?_set_ne (by omega)]; exact Zns_get hk
    · exact Zns_get hk
  · exact Zns_get hk
theorem zsJ_other {zs : List Zn} {j p i : Nat} (h : i ≠ j) : zsJ zs j p (i + 1) = zsJ zs j p i := by
  unfold zsJ
  split
  · by_cases hj : j < i
    · rw [if_pos (by omega), if_pos hj]
    · rw [if_neg (by omega), if_neg hj]
  · rfl
theorem pbJ_other {zs : List Zn} {j i : Nat} (h : i ≠ j) : pbJ zs j (i + 1) = pbJ zs j i := by
  unfold pbJ
  split
  · by_cases hj : j < i
    · rw [if_pos (by omega), if_pos hj]
    · rw [if_neg (by omega), if_neg hj]
  · rfl
theorem zsJ_at {zs : List Zn} {j p : Nat} {z : Zn} (hz : zs[j]? = some z) : zsJ zs j p j = Zns zs ∧ zsJ zs j p (j + 1) = (Zns zs).set j (.agg (ZnS z (.sl p 0 z.pars.length))) := by
  unfold zsJ
  rw [hz]
  exact ⟨if_neg (Nat.lt_irrefl _), if_pos (Nat.lt_succ_self _)⟩
theorem pbJ_at {zs : List Zn} {j : Nat} {z : Zn} (hz : zs[j]? = some z) : pbJ zs j j = none ∧ pbJ zs j (j + 1) = some ⟨2, true, Prs z.pars⟩ := by
  unfold pbJ
  rw [hz]
  exact ⟨if_neg (Nat.lt_irrefl _), if_pos (Nat.lt_succ_self _)⟩
theorem zsJ_ren {ρ : Nat → Option Nat} {p q : Nat} (hρ : ρ p = some q) (zs : List Zn) (j i : Nat) : renL ρ (zsJ zs j p i) = zsJ zs j q i := by
  unfold zsJ
  split
  · split
    · rw [renL_map, List.map_set, ← renL_map, Zns_ren]
      simp [AV.ren, ZnS_ren, hρ]
    · exact Zns_ren _ _
  · exact Zns_ren _ _
theorem pbJ_ren (ρ : Nat → Option Nat) (zs : List Zn) (j i : Nat) : (pbJ zs j i).map (Blk.ren ρ) = pbJ zs j i := by
  unfold pbJ
  split
  · split
    · simp [Blk.ren, Prs_ren]
    · rfl
  · rfl
theorem hget_pb (zs : List Zn) (j i : Nat) : (match (some (pbJ zs j i)) with | some (some b) => some b | _ => none) = pbJ zs j i := by
  cases pbJ zs j i <;> rfl
theorem Prs_put {l : List Pr} {i : Nat} {p : Pr} (h : l[i]? = some p) : (Prs l).set i (.agg (PrC p)) = Prs l := by
  apply List.ext_getElem?
  intro k
  rw [List.getElem?_set]
  by_cases hk : i = k
  · subst hk
    have := (List.getElem?_eq_some_iff.1 h).1
    rw [if_pos rfl, if_pos (by simpa using this), Prs_get h]
  · rw [if_neg hk]
theorem heap7 {a a' b b' c c' d d' e e' f f' g g' : Option Blk} (h1 : a = a') (h2 : b = b') (h3 : c = c') (h4 : d = d') (h5 : e = e') (h6 : f = f') (h7 : g = g') : [a, b, c, d, e, f, g] = [a', b', c', d', e', f', g'] := by subst h1 h2 h3 h4 h5 h6 h7; rfl
theorem heap3 {a a' b b' c c' : Option Blk} (h1 : a = a') (h2 : b = b') (h3 : c = c') : [a, b, c] = [a', b', c'] := by subst h1 h2 h3; rfl
theorem heap5 {a a' b b' c c' d d' e e' : Option Blk} (h1 : a = a') (h2 : b = b') (h3 : c = c') (h4 : d = d') (h5 : e = e') : [a, b, c, d, e] = [a', b', c', d', e'] := by subst h1 h2 h3 h4 h5; rfl
theorem ib_ren (ρ : Nat → Option Nat) (l : List Int) : some (Blk.ren ρ ⟨1, true, ints .i64 l⟩) = some ⟨1, true, ints .i64 l⟩ := by simp [Blk.ren, renL_ints]
theorem prb_ren (ρ : Nat → Option Nat) (l : List Pr) : some (Blk.ren ρ ⟨2, true, Prs l⟩) = some ⟨2, true, Prs l⟩ := by simp [Blk.ren, Prs_ren]
theorem zb_ren {ρ : Nat → Option Nat} {p q : Nat} (hρ : ρ p = some q) (zs : List Zn) (j i : Nat) : some (Blk.ren ρ ⟨6, true, zsJ zs j p i⟩) = some ⟨6, true, zsJ zs j q i⟩ := by simp [Blk.ren, zsJ_ren hρ]
theorem xb_ren {ρ : Nat → Option Nat} {p q : Nat} (hρ : ρ p = some q) (z : Zn) (n : Nat) : some (Blk.ren ρ ⟨6, true, [.agg (ZnS z (.sl p 0 n))]⟩) = some ⟨6, true, [.agg (ZnS z (.sl q 0 n))]⟩ := by simp [Blk.ren, renL, AV.ren, ZnS_ren, hρ]
theorem EntL.back {H : Heap} {l : List AV} {i : Nat} {x x' : AV} (hi : l[i]? = some x') (he : Ent H x x') : EntL H (l.set i x) l := by
  have h1 := EntL.set (H := H) (l := l.set i x) i (by rw [List.getElem?_set, if_pos rfl, if_pos (List.getElem?_eq_some_iff.1 hi).1]) he
  rw [List.set_set] at h1
  have h2 : l.set i x' = l := by
    apply List.ext_getElem?
    intro k
    rw [List.getElem?_set]
    by_cases hk : i = k
    · subst hk
      rw [if_pos rfl, if_pos (List.getElem?_eq_some_iff.1 hi).1, hi]
    · rw [if_neg hk]
  rw [h2] at h1
  exact h1
theorem zset_ren {ρ : Nat → Option Nat} {p q : Nat} (hρ : ρ p = some q) (zs : List Zn) (w : Nat) (z : Zn) (n : Nat) : some (Blk.ren ρ ⟨6, true, (Zns zs).set w (.agg (ZnS z (.sl p 0 n)))⟩) = some ⟨6, true, (Zns zs).set w (.agg (ZnS z (.sl q 0 n)))⟩ := by
  simp only [Blk.ren]
  rw [renL_map, List.map_set, ← renL_map, Zns_ren]
  simp [AV.ren, ZnS_ren, hρ]
/-- Parities that are written no more. -/
theorem Ent.zone {H : Heap} {p : Nat} (z : Zn) (hb : hget H p = some ⟨2, false, Prs z.pars⟩) : Ent H (.agg (ZnS z (.sl p 0 z.pars.length))) (.agg (ZnC z)) :=
  Ent.agg (EntL.cons (Ent.refl _) (EntL.cons (Ent.refl _) (EntL.cons (Ent.refl _) (EntL.cons (Ent.refl _) (EntL.cons (Ent.refl _) (EntL.cons (Ent.sl0 (b := ⟨2, false, Prs z.pars⟩) hb rfl (Prs_len _)) EntL.nil))))))
theorem zsJ_0 (zs : List Zn) (j p : Nat) : zsJ zs j p 0 = Zns zs := by
  unfold zsJ
  split
  · rfl
  · rfl
theorem pbJ_0 (zs : List Zn) (j : Nat) : pbJ zs j 0 = none := by
  unfold pbJ
  split
  · rfl
  · rfl
def Z15 : Blk := ⟨15, true, [.agg (List.map .v [.int .i64 0, .int .i64 0, .int .i64 0, .int .i64 0, .int .i64 0, .int .i64 0, .int .i64 0, .int .i64 0, .int .i64 0, .int .i64 0, .int .i64 0, .int .i64 0, .int .i64 0, .slice none 0 0, .slice none 0 0])]⟩
def SB (s : St) (A B : AV) : Blk := ⟨15, true, [.agg (StS s A B)]⟩
theorem SB_ren {ρ : Nat → Option Nat} {s : St} {a b a' b' n m : Nat} (ha : ρ a = some a') (hb : ρ b = some b') : some (Blk.ren ρ (SB s (.sl a 0 n) (.sl b 0 m))) = some (SB s (.sl a' 0 n) (.sl b' 0 m)) := by
  simp [SB, Blk.ren, renL, AV.ren, StS_ren, ha, hb]
theorem sclone_ok (s : St) (j : Nat) (hn : s.st.length ≤ 1000000000) (hm : s.zs.length ≤ 1000000000) (hl : ∀ z ∈ s.zs, z.pars.length ≤ 1000000000) (hb : ∀ z ∈ s.zs, ∀ p ∈ z.pars, p.b.length ≤ 140737488355328) : CSpec Tryz.prog 67 [] [.agg (StC s)] [some ⟨1, true, ints .i64 s.st⟩, some ⟨6, true, zsJ s.zs j 2 s.zs.length⟩, pbJ s.zs j s.zs.length] (.agg (StS s (.sl 0 0 s.st.length) (.sl 1 0 s.zs.length))) := by
 refine CSpec.body Tryz.func67 rfl rfl rfl rfl rfl fun Q hQ => ?_
 refine T.seq fun K1 hK1 => ?_
 refine T.region ?_
 refine rs rfl rfl (ok_box (n := 15) rfl rfl (by decide)) ?_
 refine rs rfl rfl (ok_alloc rfl ti_api_State rfl (by decide)) ?_
 refine ro_nil ?_
 refine keepK hK1 [1, 2] (by dsimp) (by dsimp) ?_
 refine T.seq fun K2 hK2 => ?_
 refine T.drawH mixed [7, 8, 9] ?_
 refine any_take 0 rfl (by first | rfl | decide +kernel) rfl (HeldL.refl _) (fun H' hH => OpOk.step (ok_fieldAddr rfl ti_api_State rfl rfl ti_Lint (by decide) rfl)) ?_
 refine any_take 1 rfl (by first | rfl | decide +kernel) rfl (HeldL.refl _) (fun H' hH => OpOk.step (ok_load rfl ti_Lint (locA_held hH rfl) rfl)) ?_
 refine any_take 3 rfl (by first | rfl | decide +kernel) rfl (HeldL.refl _) (fun H' hH => OpOk.step (ok_fieldAddr rfl ti_api_State rfl rfl ti_Lapi_Zone (by decide) rfl)) ?_
 refine any_take 4 rfl (by first | rfl | decide +kernel) rfl (HeldL.refl _) (fun H' hH => OpOk.step (ok_load rfl ti_Lapi_Zone (locA_held hH rfl) rfl)) ?_
 refine any_one 2 rfl (by first | rfl | decide +kernel) rfl rfl (ok_call rfl rfl rfl ((sclone_new s.st (by omega)).fresh (by simp [renL, AV.ren, renL_ints]) rfl (by simp [renH, Blk.ren, renL_ints]; rfl))) (.inr (by first | (simp [HeldL]; done) | (simp only [dH]; (repeat' first | trivial | rfl | constructor)))) ?_
 refine any_take 6 rfl (by first | rfl | decide +kernel) rfl (by first | exact HeldL.refl _ | exact HeldL.append _ _ | simp [HeldL]) (fun H' hH => OpOk.step (ok_fieldAddr rfl ti_api_State rfl rfl ti_Lint (by decide) rfl)) ?_
 refine any_one 5 rfl (by first | rfl | decide +kernel) rfl rfl (ok_call rfl rfl rfl ((zclone_new s.zs (by omega)).fresh (by simp [renL, AV.ren, Zns_ren]) rfl (by simp [renH, Blk.ren, Zns_ren]; rfl))) (.inr (by first | (simp [HeldL]; done) | (simp only [dH]; (repeat' first | trivial | rfl | constructor)))) ?_
 refine any_one 7 rfl (by first | rfl | decide +kernel) rfl rfl (OpOk.step (ok_store rfl ti_Lint (by decide) rfl rfl rfl rfl rfl (by first | exact Nat.le_of_ble_eq_true rfl | simp) (by first | exact .inl ⟨rfl, rfl⟩ | exact .inr rfl))) (.inl (by simp)) ?_
 refine any_one 8 rfl (by first | rfl | decide +kernel) rfl rfl (OpOk.step (ok_fieldAddr rfl ti_api_State rfl rfl ti_Lapi_Zone (by decide) rfl)) (.inl (by simp)) ?_
 refine any_one 9 rfl (by first | rfl | decide +kernel) rfl rfl (OpOk.step (ok_store rfl ti_Lapi_Zone (by decide) rfl rfl rfl rfl rfl (by first | exact Nat.le_of_ble_eq_true rfl | simp) (by first | exact .inl ⟨rfl, rfl⟩ | exact .inr rfl))) (.inl (by simp)) ?_
 refine any_done rfl ?_
 refine keepK hK2 [1, 2] (by dsimp) (by dsimp) ?_
 refine T.seq fun K3 hK3 => ?_
 refine T.seq fun K4 hK4 => ?_
 refine T.region ?_
 refine rs rfl rfl (ok_fieldAddr rfl ti_api_State rfl rfl ti_Lapi_Zone (by decide) rfl) ?_
 refine rs rfl rfl (ok_load rfl ti_Lapi_Zone rfl rfl) ?_
 refine rs rfl rfl (ok_len' rfl rfl ti_Lapi_Zone rfl (by first | exact ints_length _ _ | exact rowsA_length _ _ | exact Cms_len _ | exact mapLen _ | rfl)) ?_
 refine rs rfl rfl (ok_move (.inl rfl)) ?_
 refine ro_nil ?_
 refine keepK hK4 [1, 2, 16, 17, 18] (by dsimp) (by dsimp) ?_
 refine T.block ?_
 refine T.loopI (ι := Nat) (fun i => i ≤ s.zs.length) (fun i => s.zs.length - i) (fun i => ([(1, .ref 0 0 0), (2, .ref 1 0 0), (16, .sl 3 0 s.zs.length), (17, .int s.zs.length), (18, .int i)], [some (SB s (.sl 2 0 s.st.length) (.sl 3 0 s.zs.length)), some Z15, some ⟨1, true, ints .i64 s.st⟩, some ⟨6, true, zsJ s.zs j 4 i⟩, pbJ s.zs j i])) 0 (Nat.zero_le _) (by
   rw [zsJ_0, pbJ_0]
   exact TEnt.fin [0, 1, 2, 3, 4] (by decide) (by simp) (by simp [normH, hget, Blk.ren, renL_ints]; exact ⟨by simp [SB, renL, AV.ren]; exact StS_ren _ s (.sl 2 0 _) (.sl 3 0 _), rfl, Zns_ren _ _⟩) ⟨rfl, rfl, rfl, by simp [AV.ren], rfl, trivial⟩) (fun i hi => ?_) -- loop 1
 refine T.seq fun K5 hK5 => ?_
 refine T.region ?_
 refine rs rfl rfl (ok_binOp rfl ti_int rfl) ?_
 refine ro_nil ?_
 refine keepK hK5 [1, 2, 16, 17, 18, 19] (by dsimp) (by dsimp) ?_
 refine T.seq fun K6 hK6 => ?_
 refine T.cond rfl (fun hc => ?_) (fun hc => ?_) -- cond 1
 ·(try simp only [dE] at hc)
  obtain ⟨z, hz⟩ : ∃ z, s.zs[i]? = some z := ⟨_, List.getElem?_eq_getElem (by omega)⟩
  have hlz := hl z (List.mem_of_getElem? hz)
  have hbz := hb z (List.mem_of_getElem? hz)
  obtain ⟨w, hw⟩ : ∃ w, w = i := ⟨_, rfl⟩
  subst hw
  refine T.skip ?_
  refine keepK hK6 [1, 2, 16, 17, 18] (by dsimp) (by dsimp) ?_
  refine T.seq fun K7 hK7 => ?_
  refine T.block ?_
  refine T.seq fun K8 hK8 => ?_
  refine T.region ?_
  refine rs rfl rfl (ok_move (.inl rfl)) ?_
  refine rs rfl rfl (by exact ok_index_sl rfl ti_Lapi_Zone rfl ti_api_Zone rfl rfl rfl rfl (by omega) (by omega)) ?_
  refine rs rfl rfl (by exact ok_load rfl ti_api_Zone (cl := ZnC z) (f := 0) (by show locA [some (SB s (.sl 2 0 s.st.length) (.sl 3 0 s.zs.length)), some Z15, some ⟨1, true, ints .i64 s.st⟩, some ⟨6, true, zsJ s.zs j 4 w⟩, pbJ s.zs j w] (.ref 3 (0 + ((w : Nat) : Int).toNat) 0) = _; simp [locA, hget, zsJ_get hz, ZnC]) rfl) ?_
  refine rs rfl rfl (ok_alloc rfl ti_api_Zone rfl (by decide)) ?_
  refine rs rfl rfl (ok_move (.inr rfl)) ?_
  refine rs rfl rfl (ok_store rfl ti_api_Zone (by decide) rfl rfl rfl rfl rfl (by first | exact Nat.le_of_ble_eq_true rfl | simp) (by first | exact .inl ⟨rfl, rfl⟩ | exact .inr rfl)) ?_
  refine ro_nil ?_
  refine keepK hK8 [1, 2, 3, 4, 16, 17, 18] (by dsimp) (by dsimp) ?_
  refine T.seq fun K9 hK9 => ?_
  refine T.region ?_
  refine rs rfl rfl (ok_fieldAddr rfl ti_api_Zone rfl rfl ti_Lapi_Par (by decide) rfl) ?_
  refine rs rfl rfl (ok_load rfl ti_Lapi_Par rfl rfl) ?_
  refine ro rfl rfl (ok_call rfl rfl rfl ((pclone_new z.pars (by omega)).fresh (by simp [renL, AV.ren, Prs_ren]) rfl (by simp [renH, Blk.ren, Prs_ren]; rfl))) ?_
  refine rs rfl rfl (ok_fieldAddr rfl ti_api_Zone rfl rfl ti_Lapi_Par (by decide) rfl) ?_
  refine rs rfl rfl (ok_store rfl ti_Lapi_Par (by decide) rfl rfl rfl rfl rfl (by first | exact Nat.le_of_ble_eq_true rfl | simp) (by first | exact .inl ⟨rfl, rfl⟩ | exact .inr rfl)) ?_
  refine ro_nil ?_
  refine keepK hK9 [1, 2, 3, 4, 16, 17, 18] (by dsimp) (by dsimp) ?_
  refine T.seq fun K10 hK10 => ?_
  refine T.seq fun K11 hK11 => ?_
  refine T.region ?_
  refine rs rfl rfl (ok_fieldAddr rfl ti_api_Zone rfl rfl ti_Lapi_Par (by decide) rfl) ?_
  refine rs rfl rfl (ok_load rfl ti_Lapi_Par rfl rfl) ?_
  refine rs rfl rfl (ok_len' rfl rfl ti_Lapi_Par rfl (by first | exact ints_length _ _ | exact rowsA_length _ _ | exact Cms_len _ | exact mapLen _ | rfl)) ?_
  refine rs rfl rfl (ok_move (.inl rfl)) ?_
  refine ro_nil ?_
  refine keepK hK11 [1, 2, 3, 4, 16, 17, 18, 28, 29, 30] (by dsimp) (by dsimp) ?_
  refine T.block ?_
  refine T.loopI (ι := Nat) (fun k => k ≤ z.pars.length) (fun k => z.pars.length - k) (fun k => ([(1, .ref 0 0 0), (2, .ref 1 0 0), (3, .int w), (4, .ref 5 0 0), (16, .sl 3 0 s.zs.length), (17, .int s.zs.length), (18, .int w), (28, .sl 6 0 z.pars.length), (29, .int z.pars.length), (30, .int k)], [some (SB s (.sl 2 0 s.st.length) (.sl 3 0 s.zs.length)), some Z15, some ⟨1, true, ints .i64 s.st⟩, some ⟨6, true, zsJ s.zs j 4 w⟩, pbJ s.zs j w, some ⟨6, true, [.agg (ZnS z (.sl 6 0 z.pars.length))]⟩, some ⟨2, true, Prs z.pars⟩])) 0 (Nat.zero_le _) (TEnt.toH rfl ⟨rfl, rfl, rfl, rfl, rfl, rfl, rfl, rfl, rfl, rfl, trivial⟩) (fun i hi => ?_) -- loop 2
  refine T.seq fun K12 hK12 => ?_
  refine T.region ?_
  refine rs rfl rfl (ok_binOp rfl ti_int rfl) ?_
  refine ro_nil ?_
  refine keepK hK12 [1, 2, 3, 4, 16, 17, 18, 28, 29, 30, 31] (by dsimp) (by dsimp) ?_
  refine T.seq fun K13 hK13 => ?_
  refine T.cond rfl (fun hc => ?_) (fun hc => ?_) -- cond 2
  ·(try simp only [dE] at hc)
   obtain ⟨p, hp⟩ : ∃ p, z.pars[i]? = some p := ⟨_, List.getElem?_eq_getElem (by omega)⟩
   refine T.skip ?_
   refine keepK hK13 [1, 2, 3, 4, 16, 17, 18, 28, 29, 30] (by dsimp) (by dsimp) ?_
   refine T.seq fun K14 hK14 => ?_
   refine T.block ?_
   refine T.seq fun K15 hK15 => ?_
   refine T.region ?_
   refine rs rfl rfl (ok_move (.inl rfl)) ?_
   refine rs rfl rfl (by exact ok_index_sl rfl ti_Lapi_Par rfl ti_api_Par rfl rfl rfl rfl (by omega) (by omega)) ?_
   refine rs rfl rfl (by exact ok_load rfl ti_api_Par (cl := PrC p) (f := 0) (locA_map (F := PrC) (l := z.pars) (b := ⟨2, true, Prs z.pars⟩) rfl rfl (by simpa using hp) (by simp [PrC])) rfl) ?_
   refine rs rfl rfl (ok_alloc rfl ti_api_Par rfl (by decide)) ?_
   refine rs rfl rfl (ok_move (.inr rfl)) ?_
   refine rs rfl rfl (ok_store rfl ti_api_Par (by decide) rfl rfl rfl rfl rfl (by first | exact Nat.le_of_ble_eq_true rfl | simp) (by first | exact .inl ⟨rfl, rfl⟩ | exact .inr rfl)) ?_
   refine ro_nil ?_
   refine keepK hK15 [1, 2, 3, 4, 5, 6, 16, 17, 18, 28, 29, 30] (by dsimp) (by dsimp) ?_
   refine T.draw mixed (SH [8] (HeldL ([none, none, none, none, none, some ⟨6, true, [.agg (ZnS z (.sl 6 0 z.pars.length))]⟩, some ⟨2, true, Prs z.pars⟩, some ⟨2, true, [.agg (PrC p)]⟩]))) ?_
   refine any_take 0 rfl (by first | rfl | decide +kernel) rfl (by first | (simp [HeldL]; done) | (simp only [dH]; (repeat' first | trivial | rfl | constructor))) (fun H' hH => OpOk.step (ok_fieldAddr rfl ti_api_Zone rfl rfl ti_Lapi_Par (by decide) rfl)) ?_
   refine any_take 1 rfl (by first | rfl | decide +kernel) rfl (by first | (simp [HeldL]; done) | (simp only [dH]; (repeat' first | trivial | rfl | constructor))) (fun H' hH => OpOk.step (ok_load rfl ti_Lapi_Par (locA_held hH rfl) rfl)) ?_
   refine any_take 2 rfl (by first | rfl | decide +kernel) rfl (by first | (simp [HeldL]; done) | (simp only [dH]; (repeat' first | trivial | rfl | constructor))) (fun H' hH => OpOk.step (ok_move (.inl rfl))) ?_
   refine any_take 3 rfl (by first | rfl | decide +kernel) rfl (by first | (simp [HeldL]; done) | (simp only [dH]; (repeat' first | trivial | rfl | constructor))) (fun H' hH => OpOk.step (ok_fieldAddr rfl ti_api_Par rfl rfl ti_Luint8 (by decide) rfl)) ?_
   refine any_take 4 rfl (by first | rfl | decide +kernel) rfl (by first | (simp [HeldL]; done) | (simp only [dH]; (repeat' first | trivial | rfl | constructor))) (fun H' hH => OpOk.step (ok_load rfl ti_Luint8 (locA_held hH rfl) rfl)) ?_
   refine any_one 5 rfl (by first | rfl | decide +kernel) rfl rfl (ok_call rfl rfl rfl ((clone_frz p.b (hbz p (List.mem_of_getElem? hp))).plain (by simp [renL, AV.ren, renL_ints]) (by simp [AV.ren, renL_ints]))) (.inr (by first | (simp [HeldL]; done) | (simp only [dH]; (repeat' first | trivial | rfl | constructor)))) ?_
   refine any_take 6 rfl (by first | rfl | decide +kernel) rfl (by first | (simp [HeldL]; done) | (simp only [dH]; (repeat' first | trivial | rfl | constructor))) (fun H' hH => OpOk.step (by exact ok_index_sl (b := ⟨2, true, Prs z.pars⟩) rfl ti_Lapi_Par rfl ti_api_Par rfl (hH.get rfl) rfl rfl (by omega) (by omega))) ?_
   refine any_take 7 rfl (by first | rfl | decide +kernel) rfl (by first | (simp [HeldL]; done) | (simp only [dH]; (repeat' first | trivial | rfl | constructor))) (fun H' hH => OpOk.step (ok_fieldAddr rfl ti_api_Par rfl rfl ti_Luint8 (by decide) rfl)) ?_
   refine any_one 8 rfl (by first | rfl | decide +kernel) rfl rfl (OpOk.step ((ok_store rfl ti_Luint8 (by decide) (id := 6) (j := 0 + i) (f := 1) rfl rfl rfl (by rw [Nat.zero_add]; exact Prs_get hp) rfl (by show 1 + 1 ≤ 2; decide) (.inr rfl)).eq (x' := .any) (H'' := [some (SB s (.sl 2 0 s.st.length) (.sl 3 0 s.zs.length)), some Z15, some ⟨1, true, ints .i64 s.st⟩, some ⟨6, true, zsJ s.zs j 4 w⟩, pbJ s.zs j w, some ⟨6, true, [.agg (ZnS z (.sl 6 0 z.pars.length))]⟩, some ⟨2, true, Prs z.pars⟩, some ⟨2, true, [.agg (PrC p)]⟩]) rfl (by show [_, _, _, _, _, _, some (⟨2, true, (Prs z.pars).set (0 + i) (.agg (PrC p))⟩ : Blk), _] = _; rw [Nat.zero_add, Prs_put hp]; rfl))) (.inl (by simp)) ?_
   refine any_done rfl ?_
   refine keepK hK14 [1, 2, 3, 4, 16, 17, 18, 28, 29, 30] (by dsimp) (by dsimp) ?_
   refine T.region ?_
   refine rs rfl rfl (ok_add64 rfl ti_int rfl rfl (by omega) (by omega)) ?_
   refine rs rfl rfl (ok_move (.inl rfl)) ?_
   refine ro_nil ?_
   exact ⟨i + 1, by omega, by omega, TEnt.fin [0, 1, 2, 3, 4, 5, 6] (by decide) (by simp) (by
     exact heap7 (SB_ren (by decide) (by decide)) rfl (ib_ren _ _) (zb_ren (by decide) _ _ _) ((congrArg _ (hget_pb _ _ _)).trans (pbJ_ren _ _ _ _)) (xb_ren (by decide) _ _) (prb_ren _ _)) ⟨rfl, rfl, rfl, rfl, rfl, rfl, rfl, rfl, rfl, rfl, trivial⟩⟩
  ·(try simp only [dE] at hc)
   refine T.exit ?_
   refine keepK hK10 [1, 2, 3, 4, 16, 17, 18] (by dsimp) (by dsimp) ?_
   refine T.region ?_
   refine rs rfl rfl (ok_fieldAddr rfl ti_api_State rfl rfl ti_Lapi_Zone (by decide) rfl) ?_
   refine rs rfl rfl (ok_load rfl ti_Lapi_Zone rfl rfl) ?_
   refine rs rfl rfl (ok_move (.inl rfl)) ?_
   refine rs rfl rfl (ok_load rfl ti_api_Zone rfl rfl) ?_
   refine rs rfl rfl (by exact ok_index_sl (b := ⟨6, true, zsJ s.zs j 4 w⟩) rfl ti_Lapi_Zone rfl ti_api_Zone rfl rfl rfl rfl (by omega) (by omega)) ?_
   refine rs rfl rfl ((ok_store rfl ti_api_Zone (by decide) (id := 3) (j := 0 + w) (f := 0) rfl rfl rfl (by rw [Nat.zero_add]; exact zsJ_get hz (Nat.le_refl _)) rfl (by show 0 + 6 ≤ 6; decide) (.inl ⟨rfl, rfl⟩)).eq (x' := .any) (H'' := [some (SB s (.sl 2 0 s.st.length) (.sl 3 0 s.zs.length)), some Z15, some ⟨1, true, ints .i64 s.st⟩, some ⟨6, true, (zsJ s.zs j 4 w).set w (.agg (ZnS z (.sl 6 0 z.pars.length)))⟩, pbJ s.zs j w, some ⟨6, true, [.agg (ZnS z (.sl 6 0 z.pars.length))]⟩, some ⟨2, true, Prs z.pars⟩]) rfl (by show [_, _, _, some (⟨6, true, (zsJ s.zs j 4 w).set (0 + w) (.agg (ZnS z (.sl 6 0 z.pars.length)))⟩ : Blk), _, _, _] = _; rw [Nat.zero_add])) ?_
   refine ro_nil ?_
   refine keepK hK7 [1, 2, 16, 17, 18] (by dsimp) (by dsimp) ?_
   refine T.region ?_
   refine rs rfl rfl (ok_add64 rfl ti_int rfl rfl (by omega) (by omega)) ?_
   refine rs rfl rfl (ok_move (.inl rfl)) ?_
   refine ro_nil ?_
   exact ⟨w + 1, by omega, by omega, by
     by_cases hwj : w = j
     · subst hwj
       rw [(zsJ_at hz).1, (zsJ_at hz).2, (pbJ_at hz).1, (pbJ_at hz).2]
       exact TEnt.fin [0, 1, 2, 3, 6] (by decide) (by simp) (heap5 (SB_ren (by decide) (by decide)) rfl (ib_ren _ _) (zset_ren (by decide) _ _ _ _) (prb_ren _ _)) ⟨rfl, rfl, rfl, rfl, rfl, trivial⟩
     · rw [zsJ_other hwj, pbJ_other hwj]
       refine (TEnt.freeze 6 (b := ⟨2, true, Prs z.pars⟩) rfl).trans ((TEnt.blk 3 (b := ⟨6, true, (zsJ s.zs j 4 w).set w (.agg (ZnS z (.sl 6 0 z.pars.length)))⟩) (l' := zsJ s.zs j 4 w) rfl (by simp) (EntL.back (zsJ_get hz (Nat.le_refl _)) (Ent.zone z rfl))).trans ?_)
       exact TEnt.fin [0, 1, 2, 3, 4] (by decide) (by simp) (heap5 (SB_ren (by decide) (by decide)) rfl (ib_ren _ _) (zb_ren (by decide) _ _ _) ((congrArg _ (hget_pb _ _ _)).trans (pbJ_ren _ _ _ _))) ⟨rfl, rfl, rfl, rfl, rfl, trivial⟩⟩
 ·(try simp only [dE] at hc)
  have hin : i = s.zs.length := by omega
  subst hin
  refine T.exit ?_
  refine keepK hK3 [1, 2] (by dsimp) (by dsimp) ?_
  refine T.seq fun K16 hK16 => ?_
  refine T.region ?_
  refine rs rfl rfl (ok_load rfl ti_api_State rfl rfl) ?_
  refine rs rfl rfl (ok_store rfl ti_api_State (by decide) rfl rfl rfl rfl rfl (by first | exact Nat.le_of_ble_eq_true rfl | simp) (by first | exact .inl ⟨rfl, rfl⟩ | exact .inr rfl)) ?_
  refine ro_nil ?_
  refine keepK hK16 [2] (by dsimp) (by dsimp) ?_
  refine T.ret (hQ _ _ _ rfl ?_).1 -- ret 1
  exact TEnt.fin [2, 3, 4] (by decide) (by simp) (heap3 (ib_ren _ _) (zb_ren (by decide) _ _ _) ((congrArg _ (hget_pb _ _ _)).trans (pbJ_ren _ _ _ _))) ⟨by show AV.agg (renL _ (StS s (.sl 2 0 s.st.length) (.sl 3 0 s.zs.length))) = _; rw [StS_ren]; rfl, trivial⟩
end Go.Proofs.YtjklgbafnfoolaaGreat.AmF
namespace Go.Proofs.YtjklgbafnfoolaaGreat.AmF
open Go Go.AM
set_option maxRecDepth 100000
set_option maxHeartbeats 2000000
set_option linter.unusedSimpArgs false
set_option linter.unusedVariables false
attribute [local simp] tkeep tget tput ev cav argsTM pickA normT putA splice AV.cells ints_length rowsA_length Prs_len Zns_len
/-- A block is no longer told. -/
theorem _root_.Go.AM.TEnt.forget {k : Nat} {tm : TM} {H : Heap} (id : Nat) : TEnt k tm H tm (H.set id none) := by
  intro g vs hH hk hg ht
  subst hH
  let g' : G := { g with H := g.H.set id none }
  have hget' : ∀ j b', hget g'.H j = some b' → hget g.H j = some b' := by
    intro j b' h
    simp only [g', hget_set] at h
    by_cases hj : j = id ∧ id < g.H.length
    · rw [if_pos hj] at h; cases h
    · rw [if_neg hj] at h; exact h
  have hren : Ren some g g' := by
    refine ⟨fun _ h => h, fun _ _ => rfl, fun i j hi hij => ?_⟩
    cases hij
    exact ⟨by simpa [g'] using hi, fun b' hb' => ⟨b', hget' i b' hb', rfl, rfl, rfl, rfl⟩⟩
  have hgo : GOk g' := by
    refine ⟨fun j b' hb' => ?_, fun j j' b' c' hb' hc' hob hoc hs hs' hφ => hg.inj j j' b' c' (hget' _ _ hb') (hget' _ _ hc') hob hoc hs hs' hφ, hg.zlt⟩
    have hb0 := hg.blk j b' (hget' j b' hb')
    refine ⟨hb0.own, hb0.frz, hb0.fit, hb0.pos, fun hs => ?_⟩
    obtain ⟨c, e, lo, hi, m1, m2, m3, xs, m4, m5⟩ := hb0.mem hs
    exact ⟨c, e, lo, hi, m1, m2, m3, xs, RelL.mono hren m4, m5⟩
  have hext : Ext g g' := by
    refine ⟨.refl _, Nat.le_refl _, fun _ _ _ => rfl, fun _ h => h, fun x hx => .inl hx, fun x hx => ?_⟩
    obtain ⟨j, b', h1, h2, h3, h4⟩ := hx
    exact .inl ⟨j, b', hget' j b' h1, h2, h3, h4⟩
  exact ⟨g', rfl, rfl, hgo, fun t => Rel.mono hren (ht t), hext, Sub.pin ⟨hren, hext⟩ hk⟩
theorem Ent.st {H : Heap} {a b : Nat} (s : St) (ha : hget H a = some ⟨1, false, ints .i64 s.st⟩) (hb : hget H b = some ⟨6, false, Zns s.zs⟩) : Ent H (.agg (StS s (.sl a 0 s.st.length) (.sl b 0 s.zs.length))) (.agg (StC s)) :=
  Ent.agg (EntL.append (EntL.refl _) (EntL.cons (Ent.refl _) (EntL.cons (Ent.refl _) (EntL.cons (Ent.sl0 (b := ⟨1, false, ints .i64 s.st⟩) ha rfl (ints_length _ _)) (EntL.cons (Ent.sl0 (b := ⟨6, false, Zns s.zs⟩) hb rfl (Zns_len _)) EntL.nil)))))
theorem Ent.stz {H : Heap} {a b p j : Nat} {z : Zn} (s : St) (hz : s.zs[j]? = some z) (ha : hget H a = some ⟨1, false, ints .i64 s.st⟩) (hb : hget H b = some ⟨6, false, (Zns s.zs).set j (.agg (ZnS z (.sl p 0 z.pars.length)))⟩) (hp : hget H p = some ⟨2, false, Prs z.pars⟩) : Ent H (.agg (StS s (.sl a 0 s.st.length) (.sl b 0 s.zs.length))) (.agg (StC s)) :=
  Ent.agg (EntL.append (EntL.refl _) (EntL.cons (Ent.refl _) (EntL.cons (Ent.refl _) (EntL.cons (Ent.sl0 (b := ⟨1, false, ints .i64 s.st⟩) ha rfl (ints_length _ _)) (EntL.cons ((Ent.sl0 (b := ⟨6, false, (Zns s.zs).set j (.agg (ZnS z (.sl p 0 z.pars.length)))⟩) hb rfl (by simp)).trans (Ent.fz (EntL.back (Zns_get hz) (Ent.zone z hp)))) EntL.nil)))))
/-- A member's record may be. -/
def StOk (st : List Int) (x : Rc) : Prop := (0 ≤ x.member ∧ x.member < st.length) ∧ (0 ≤ x.status ∧ x.status ≤ 2) ∧ ((oddS st).2.2 = true → (oddS st).1 = x.member)
instance (st : List Int) (x : Rc) : Decidable (StOk st x) := by unfold StOk; infer_instance
def unw (z : Zn) : Zn := { z with whole := false }
/-- Zones of which so many were turned. -/
def unwK (zs : List Zn) (i : Nat) : List Zn := (zs.take i).map unw ++ zs.drop i
theorem unwK_len (zs : List Zn) (i : Nat) (h : i ≤ zs.length) : (unwK zs i).length = zs.length := by unfold unwK; simp; omega
theorem unwK_get {zs : List Zn} {i : Nat} {z : Zn} (hz : zs[i]? = some z) : (unwK zs i)[i]? = some z := by
  have hi := (List.getElem?_eq_some_iff.1 hz).1
  unfold unwK
  rw [List.getElem?_append_right (by simp; omega)]
  simp
  rw [show i - min i zs.length = 0 by omega]
  simpa using hz
theorem unwK_set {zs : List Zn} {i : Nat} {z : Zn} (hz : zs[i]? = some z) : (unwK zs i).set i (unw z) = unwK zs (i + 1) := by
  have hi := (List.getElem?_eq_some_iff.1 hz).1
  unfold unwK
  rw [List.set_append_right _ _ (by simp; omega), take_succ_get hz, List.map_append]
  simp
  rw [show i - min i zs.length = 0 by omega, List.drop_eq_getElem_cons hi, List.set_cons_zero]
theorem unwK_0 (zs : List Zn) : unwK zs 0 = zs := rfl
theorem src3 : ∀ j, j < 3 → [0, 1, 2][j]? = some j := by decide
theorem znb_ren (ρ : Nat → Option Nat) (l : List Zn) : some (Blk.ren ρ ⟨6, true, Zns l⟩) = some ⟨6, true, Zns l⟩ := by simp [Blk.ren, Zns_ren]
theorem unwK_all (zs : List Zn) : unwK zs zs.length = zs.map unw := by unfold unwK; simp
theorem Zns_set (zs : List Zn) (j : Nat) (z : Zn) : (Zns zs).set j (.agg (ZnC z)) = Zns (zs.set j z) := by unfold Zns; rw [List.map_set]
theorem sstatus_ok (s : St) (x : Rc) (hn : s.st.length ≤ 1000000000) (hm : s.zs.length ≤ 1000000000) : CSpec Tryz.prog 68 [SB s (.sl 1 0 s.st.length) (.sl 2 0 s.zs.length), ⟨1, true, ints .i64 s.st⟩, ⟨6, true, Zns s.zs⟩] [.ref 0 0 0, .agg (RcC x)] [some (SB s (.sl 1 0 s.st.length) (.sl 2 0 s.zs.length)), some ⟨1, true, ints .i64 (if StOk s.st x then s.st.set x.member.toNat x.status else s.st)⟩, some ⟨6, true, Zns (if StOk s.st x then s.zs.map unw else s.zs)⟩] (.b (decide (StOk s.st x))) := by
 have hob := fIdx_bd oddP s.st
 refine CSpec.body Tryz.func68 rfl rfl rfl rfl rfl fun Q hQ => ?_
 refine T.seq fun K1 hK1 => ?_
 refine T.region ?_
 refine rs rfl rfl (ok_box (n := 10) rfl rfl (by decide)) ?_
 refine rs rfl rfl (ok_moveb (c := false) (.inr rfl) rfl) ?_
 refine ro_nil ?_
 refine keepK hK1 [0, 3] (by dsimp) (by dsimp) ?_
 refine T.seq fun K2 hK2 => ?_
 refine T.region ?_
 refine rs rfl rfl (ok_move (.inl rfl)) ?_
 refine rs rfl rfl (ok_nilCheck rfl rfl) ?_
 refine rs rfl rfl (ok_load rfl ti_api_State rfl rfl) ?_
 refine ro rfl rfl (ok_call rfl rfl rfl ((sodd_ok s (by omega)).lendR (R := []) (R' := []) (x' := .tup [.int (oddS s.st).1, .int (oddS s.st).2.1, .b (oddS s.st).2.2]) (EntL.cons (Ent.st s rfl rfl) EntL.nil) (by simp [renL, AV.ren, StC_ren]) rfl rfl rfl rfl)) ?_
 refine rs rfl rfl (ok_move (.inl rfl)) ?_
 refine rs rfl rfl (ok_extract rfl rfl rfl) ?_
 refine rs rfl rfl (ok_extract rfl rfl rfl) ?_
 refine rs rfl rfl (ok_extract rfl rfl rfl) ?_
 refine rs rfl rfl (ok_move (.inr rfl)) ?_
 refine rs rfl rfl (ok_move (.inr rfl)) ?_
 refine rs rfl rfl (ok_move (.inr rfl)) ?_
 refine ro_nil ?_
 refine keepK hK2 [0, 3, 5, 7] (by dsimp) (by dsimp) ?_
 refine T.seq fun K3 hK3 => ?_
 refine T.seq fun K4 hK4 => ?_
 refine T.drawH mixed [] ?_
 refine any_take 0 rfl (by first | rfl | decide +kernel) rfl (HeldL.refl _) (fun H' hH => OpOk.step (ok_fieldAddr rfl ti_api_Rec rfl rfl ti_int (by decide) rfl)) ?_
 refine any_take 1 rfl (by first | rfl | decide +kernel) rfl (HeldL.refl _) (fun H' hH => OpOk.step (ok_load rfl ti_int (locA_held hH rfl) rfl)) ?_
 refine any_take 2 rfl (by first | rfl | decide +kernel) rfl (HeldL.refl _) (fun H' hH => OpOk.step (ok_move (.inl rfl))) ?_
 refine any_take 3 rfl (by first | rfl | decide +kernel) rfl (HeldL.refl _) (fun H' hH => OpOk.step (ok_nilCheck rfl rfl)) ?_
 refine any_take 4 rfl (by first | rfl | decide +kernel) rfl (HeldL.refl _) (fun H' hH => OpOk.step (ok_fieldAddr rfl ti_api_State rfl rfl ti_Lint (by decide) rfl)) ?_
 refine any_take 5 rfl (by first | rfl | decide +kernel) rfl (HeldL.refl _) (fun H' hH => OpOk.step (ok_load rfl ti_Lint (locA_held hH rfl) rfl)) ?_
 refine any_take 6 rfl (by first | rfl | decide +kernel) rfl (HeldL.refl _) (fun H' hH => OpOk.step (ok_len' rfl rfl ti_Lint rfl (by first | exact ints_length _ _ | exact rowsA_length _ _ | exact Cms_len _ | exact mapLen _ | rfl))) ?_
 refine any_take 7 rfl (by first | rfl | decide +kernel) rfl (HeldL.refl _) (fun H' hH => OpOk.step (ok_binOp rfl ti_int rfl)) ?_
 refine any_take_case 8 rfl (by first | rfl | decide +kernel) rfl (HeldL.refl _) (fun H' hH => OpOk.step (ok_moveb (.inl rfl) rfl)) (fun hb => ?_) (fun hb => ?_)
 ·(try simp only [dE] at hb)
  refine any_skip 9 rfl (by first | rfl | decide +kernel) rfl (HeldL.refl _) ?_
  refine any_skip 10 rfl (by first | rfl | decide +kernel) rfl (HeldL.refl _) ?_
  refine any_skip 11 rfl (by first | rfl | decide +kernel) rfl (HeldL.refl _) ?_
  refine any_take 12 rfl (by first | rfl | decide +kernel) rfl (HeldL.refl _) (fun H' hH => OpOk.step (ok_pickb (t := true) (d := true) rfl rfl rfl)) ?_
  refine any_take 13 rfl (by first | rfl | decide +kernel) rfl (HeldL.refl _) (fun H' hH => OpOk.step (ok_moveb (c := true) (.inl rfl) rfl)) ?_
  refine any_skip 14 rfl (by first | rfl | decide +kernel) rfl (HeldL.refl _) ?_
  refine any_skip 15 rfl (by first | rfl | decide +kernel) rfl (HeldL.refl _) ?_
  refine any_one_skip 16 rfl (by first | rfl | decide +kernel) rfl rfl (.inr (HeldL.refl _)) ?_
  refine any_skip 17 rfl (by first | rfl | decide +kernel) rfl (by first | exact HeldL.refl _ | exact HeldL.append _ _ | simp [HeldL]) ?_
  refine any_take 18 rfl (by first | rfl | decide +kernel) rfl (by first | exact HeldL.refl _ | exact HeldL.append _ _ | simp [HeldL]) (fun H' hH => OpOk.step (ok_pickb (t := true) (d := true) rfl rfl rfl)) ?_
  refine any_take 19 rfl (by first | rfl | decide +kernel) rfl (by first | exact HeldL.refl _ | exact HeldL.append _ _ | simp [HeldL]) (fun H' hH => OpOk.step (ok_moveb (c := true) (.inl rfl) rfl)) ?_
  refine any_skip 20 rfl (by first | rfl | decide +kernel) rfl (by first | exact HeldL.refl _ | exact HeldL.append _ _ | simp [HeldL]) ?_
  refine any_skip 21 rfl (by first | rfl | decide +kernel) rfl (by first | exact HeldL.refl _ | exact HeldL.append _ _ | simp [HeldL]) ?_
  refine any_skip 22 rfl (by first | rfl | decide +kernel) rfl (by first | exact HeldL.refl _ | exact HeldL.append _ _ | simp [HeldL]) ?_
  refine any_skip 23 rfl (by first | rfl | decide +kernel) rfl (by first | exact HeldL.refl _ | exact HeldL.append _ _ | simp [HeldL]) ?_
  refine any_skip 24 rfl (by first | rfl | decide +kernel) rfl (by first | exact HeldL.refl _ | exact HeldL.append _ _ | simp [HeldL]) ?_
  refine any_skip 25 rfl (by first | rfl | decide +kernel) rfl (by first | exact HeldL.refl _ | exact HeldL.append _ _ | simp [HeldL]) ?_
  refine any_skip 26 rfl (by first | rfl | decide +kernel) rfl (by first | exact HeldL.refl _ | exact HeldL.append _ _ | simp [HeldL]) ?_
  refine any_take 27 rfl (by first | rfl | decide +kernel) rfl (by first | exact HeldL.refl _ | exact HeldL.append _ _ | simp [HeldL]) (fun H' hH => OpOk.step (ok_pickb (t := true) (d := true) rfl rfl rfl)) ?_
  refine any_done rfl ?_
  refine keepK hK4 [0, 3, 44] (by dsimp) (by dsimp) ?_
  refine T.cond_true rfl ?_
  refine T.seq fun K5 hK5 => ?_
  refine T.region ?_
  refine rs rfl rfl (ok_moveb (c := false) (.inr rfl) rfl) ?_
  refine ro_nil ?_
  refine keepK hK5 [4] (by dsimp) (by dsimp) ?_
  refine T.ret (hQ _ _ _ rfl ?_).1 -- ret 1
  have hno : ¬ StOk s.st x := fun h => by obtain ⟨⟨h1, h2⟩, ⟨h3, h4⟩, h5⟩ := h; first | omega | exact absurd (h5 (by assumption)) (by assumption)
  rw [decide_eq_false hno, if_neg hno, if_neg hno]
  exact TEnt.fin [0, 1, 2] (by decide) src3 (heap3 (SB_ren (by decide) (by decide)) (ib_ren _ _) (znb_ren _ _)) ⟨rfl, trivial⟩
 ·(try simp only [dE] at hb)
  refine any_take 9 rfl (by first | rfl | decide +kernel) rfl (HeldL.refl _) (fun H' hH => OpOk.step (ok_fieldAddr rfl ti_api_Rec rfl rfl ti_int (by decide) rfl)) ?_
  refine any_take 10 rfl (by first | rfl | decide +kernel) rfl (HeldL.refl _) (fun H' hH => OpOk.step (ok_load rfl ti_int (locA_held hH rfl) rfl)) ?_
  refine any_take 11 rfl (by first | rfl | decide +kernel) rfl (HeldL.refl _) (fun H' hH => OpOk.step (ok_binOp rfl ti_int rfl)) ?_
  refine any_take 12 rfl (by first | rfl | decide +kernel) rfl (HeldL.refl _) (fun H' hH => OpOk.step (ok_pick rfl rfl)) ?_
  refine any_take_case 13 rfl (by first | rfl | decide +kernel) rfl (HeldL.refl _) (fun H' hH => OpOk.step (ok_moveb (.inl rfl) rfl)) (fun hb => ?_) (fun hb => ?_)
  ·(try simp only [dE] at hb)
   refine any_skip 14 rfl (by first | rfl | decide +kernel) rfl (HeldL.refl _) ?_
   refine any_skip 15 rfl (by first | rfl | decide +kernel) rfl (HeldL.refl _) ?_
   refine any_one_skip 16 rfl (by first | rfl | decide +kernel) rfl rfl (.inr (HeldL.refl _)) ?_
   refine any_skip 17 rfl (by first | rfl | decide +kernel) rfl (by first | exact HeldL.refl _ | exact HeldL.append _ _ | simp [HeldL]) ?_
   refine any_take 18 rfl (by first | rfl | decide +kernel) rfl (by first | exact HeldL.refl _ | exact HeldL.append _ _ | simp [HeldL]) (fun H' hH => OpOk.step (ok_pickb (t := true) (d := true) rfl rfl rfl)) ?_
   refine any_take 19 rfl (by first | rfl | decide +kernel) rfl (by first | exact HeldL.refl _ | exact HeldL.append _ _ | simp [HeldL]) (fun H' hH => OpOk.step (ok_moveb (c := true) (.inl rfl) rfl)) ?_
   refine any_skip 20 rfl (by first | rfl | decide +kernel) rfl (by first | exact HeldL.refl _ | exact HeldL.append _ _ | simp [HeldL]) ?_
   refine any_skip 21 rfl (by first | rfl | decide +kernel) rfl (by first | exact HeldL.refl _ | exact HeldL.append _ _ | simp [HeldL]) ?_
   refine any_skip 22 rfl (by first | rfl | decide +kernel) rfl (by first | exact HeldL.refl _ | exact HeldL.append _ _ | simp [HeldL]) ?_
   refine any_skip 23 rfl (by first | rfl | decide +kernel) rfl (by first | exact HeldL.refl _ | exact HeldL.append _ _ | simp [HeldL]) ?_
   refine any_skip 24 rfl (by first | rfl | decide +kernel) rfl (by first | exact HeldL.refl _ | exact HeldL.append _ _ | simp [HeldL]) ?_
   refine any_skip 25 rfl (by first | rfl | decide +kernel) rfl (by first | exact HeldL.refl _ | exact HeldL.append _ _ | simp [HeldL]) ?_
   refine any_skip 26 rfl (by first | rfl | decide +kernel) rfl (by first | exact HeldL.refl _ | exact HeldL.append _ _ | simp [HeldL]) ?_
   refine any_take 27 rfl (by first | rfl | decide +kernel) rfl (by first | exact HeldL.refl _ | exact HeldL.append _ _ | simp [HeldL]) (fun H' hH => OpOk.step (ok_pickb (t := true) (d := true) rfl rfl rfl)) ?_
   refine any_done rfl ?_
   refine keepK hK4 [0, 3, 44] (by dsimp) (by dsimp) ?_
   refine T.cond_true rfl ?_
   refine T.seq fun K6 hK6 => ?_
   refine T.region ?_
   refine rs rfl rfl (ok_moveb (c := false) (.inr rfl) rfl) ?_
   refine ro_nil ?_
   refine keepK hK6 [4] (by dsimp) (by dsimp) ?_
   refine T.ret (hQ _ _ _ rfl ?_).1 -- ret 2
   have hno : ¬ StOk s.st x := fun h => by obtain ⟨⟨h1, h2⟩, ⟨h3, h4⟩, h5⟩ := h; first | omega | exact absurd (h5 (by assumption)) (by assumption)
   rw [decide_eq_false hno, if_neg hno, if_neg hno]
   exact TEnt.fin [0, 1, 2] (by decide) src3 (heap3 (SB_ren (by decide) (by decide)) (ib_ren _ _) (znb_ren _ _)) ⟨rfl, trivial⟩
  ·(try simp only [dE] at hb)
   refine any_take 14 rfl (by first | rfl | decide +kernel) rfl (HeldL.refl _) (fun H' hH => OpOk.step (ok_fieldAddr rfl ti_api_Rec rfl rfl ti_int (by decide) rfl)) ?_
   refine any_take 15 rfl (by first | rfl | decide +kernel) rfl (HeldL.refl _) (fun H' hH => OpOk.step (ok_load rfl ti_int (locA_held hH rfl) rfl)) ?_
   refine any_one 16 rfl (by first | rfl | decide +kernel) rfl rfl (ok_call rfl rfl rfl ((sin_ok x.status 0 2).plain rfl rfl)) (.inr (by first | (simp [HeldL]; done) | (simp only [dH]; (repeat' first | trivial | rfl | constructor)))) ?_
   refine any_take 17 rfl (by first | rfl | decide +kernel) rfl (by first | exact HeldL.refl _ | exact HeldL.append _ _ | simp [HeldL]) (fun H' hH => OpOk.step (ok_unOp rfl rfl)) ?_
   refine any_take 18 rfl (by first | rfl | decide +kernel) rfl (by first | exact HeldL.refl _ | exact HeldL.append _ _ | simp [HeldL]) (fun H' hH => OpOk.step (ok_pick rfl rfl)) ?_
   refine any_take_case 19 rfl (by first | rfl | decide +kernel) rfl (by first | exact HeldL.refl _ | exact HeldL.append _ _ | simp [HeldL]) (fun H' hH => OpOk.step (ok_moveb (.inl rfl) rfl)) (fun hb => ?_) (fun hb => ?_)
   ·(try simp only [dE] at hb)
    refine any_skip 20 rfl (by first | rfl | decide +kernel) rfl (by first | exact HeldL.refl _ | exact HeldL.append _ _ | simp [HeldL]) ?_
    refine any_skip 21 rfl (by first | rfl | decide +kernel) rfl (by first | exact HeldL.refl _ | exact HeldL.append _ _ | simp [HeldL]) ?_
    refine any_skip 22 rfl (by first | rfl | decide +kernel) rfl (by first | exact HeldL.refl _ | exact HeldL.append _ _ | simp [HeldL]) ?_
    refine any_skip 23 rfl (by first | rfl | decide +kernel) rfl (by first | exact HeldL.refl _ | exact HeldL.append _ _ | simp [HeldL]) ?_
    refine any_skip 24 rfl (by first | rfl | decide +kernel) rfl (by first | exact HeldL.refl _ | exact HeldL.append _ _ | simp [HeldL]) ?_
    refine any_skip 25 rfl (by first | rfl | decide +kernel) rfl (by first | exact HeldL.refl _ | exact HeldL.append _ _ | simp [HeldL]) ?_
    refine any_skip 26 rfl (by first | rfl | decide +kernel) rfl (by first | exact HeldL.refl _ | exact HeldL.append _ _ | simp [HeldL]) ?_
    refine any_take 27 rfl (by first | rfl | decide +kernel) rfl (by first | exact HeldL.refl _ | exact HeldL.append _ _ | simp [HeldL]) (fun H' hH => OpOk.step (ok_pickb (t := true) (d := true) rfl rfl rfl)) ?_
    refine any_done rfl ?_
    refine keepK hK4 [0, 3, 44] (by dsimp) (by dsimp) ?_
    refine T.cond_true rfl ?_
    refine T.seq fun K7 hK7 => ?_
    refine T.region ?_
    refine rs rfl rfl (ok_moveb (c := false) (.inr rfl) rfl) ?_
    refine ro_nil ?_
    refine keepK hK7 [4] (by dsimp) (by dsimp) ?_
    refine T.ret (hQ _ _ _ rfl ?_).1 -- ret 3
    have hno : ¬ StOk s.st x := fun h => by obtain ⟨⟨h1, h2⟩, ⟨h3, h4⟩, h5⟩ := h; first | omega | exact absurd (h5 (by assumption)) (by assumption)
    rw [decide_eq_false hno, if_neg hno, if_neg hno]
    exact TEnt.fin [0, 1, 2] (by decide) src3 (heap3 (SB_ren (by decide) (by decide)) (ib_ren _ _) (znb_ren _ _)) ⟨rfl, trivial⟩
   ·(try simp only [dE] at hb)
    refine any_take 20 rfl (by first | rfl | decide +kernel) rfl (by first | exact HeldL.refl _ | exact HeldL.append _ _ | simp [HeldL]) (fun H' hH => OpOk.step (ok_move (.inl rfl))) ?_
    refine any_take_case 21 rfl (by first | rfl | decide +kernel) rfl (by first | exact HeldL.refl _ | exact HeldL.append _ _ | simp [HeldL]) (fun H' hH => OpOk.step (ok_moveb (.inl rfl) rfl)) (fun hb => ?_) (fun hb => ?_)
    ·(try simp only [dE] at hb)
     refine any_take 22 rfl (by first | rfl | decide +kernel) rfl (by first | exact HeldL.refl _ | exact HeldL.append _ _ | simp [HeldL]) (fun H' hH => OpOk.step (ok_move (.inl rfl))) ?_
     refine any_take 23 rfl (by first | rfl | decide +kernel) rfl (by first | exact HeldL.refl _ | exact HeldL.append _ _ | simp [HeldL]) (fun H' hH => OpOk.step (ok_fieldAddr rfl ti_api_Rec rfl rfl ti_int (by decide) rfl)) ?_
     refine any_take 24 rfl (by first | rfl | decide +kernel) rfl (by first | exact HeldL.refl _ | exact HeldL.append _ _ | simp [HeldL]) (fun H' hH => OpOk.step (ok_load rfl ti_int (locA_held hH rfl) rfl)) ?_
     refine any_take 25 rfl (by first | rfl | decide +kernel) rfl (by first | exact HeldL.refl _ | exact HeldL.append _ _ | simp [HeldL]) (fun H' hH => OpOk.step (ok_binOp rfl ti_int rfl)) ?_
     refine any_take 26 rfl (by first | rfl | decide +kernel) rfl (by first | exact HeldL.refl _ | exact HeldL.append _ _ | simp [HeldL]) (fun H' hH => OpOk.step (ok_pick rfl rfl)) ?_
     refine any_take 27 rfl (by first | rfl | decide +kernel) rfl (by first | exact HeldL.refl _ | exact HeldL.append _ _ | simp [HeldL]) (fun H' hH => OpOk.step (ok_pick rfl rfl)) ?_
     refine any_done rfl ?_
     refine keepK hK4 [0, 3, 44] (by dsimp) (by dsimp) ?_
     refine T.cond rfl (fun hc => ?_) (fun hc => ?_) -- cond 1
     ·(try simp only [dE] at hc)
      refine T.seq fun K8 hK8 => ?_
      refine T.region ?_
      refine rs rfl rfl (ok_moveb (c := false) (.inr rfl) rfl) ?_
      refine ro_nil ?_
      refine keepK hK8 [4] (by dsimp) (by dsimp) ?_
      refine T.ret (hQ _ _ _ rfl ?_).1 -- ret 4
      have hno : ¬ StOk s.st x := fun h => by obtain ⟨⟨h1, h2⟩, ⟨h3, h4⟩, h5⟩ := h; first | omega | exact absurd (h5 (by assumption)) (by assumption)
      rw [decide_eq_false hno, if_neg hno, if_neg hno]
      exact TEnt.fin [0, 1, 2] (by decide) src3 (heap3 (SB_ren (by decide) (by decide)) (ib_ren _ _) (znb_ren _ _)) ⟨rfl, trivial⟩
     ·(try simp only [dE] at hc)
      refine T.skip ?_
      refine keepK hK3 [0, 3] (by dsimp) (by dsimp) ?_
      refine T.seq fun K9 hK9 => ?_
      refine T.drawH mixed [9] ?_
      refine any_take 0 rfl (by first | rfl | decide +kernel) rfl (HeldL.refl _) (fun H' hH => OpOk.step (ok_move (.inl rfl))) ?_
      refine any_take 1 rfl (by first | rfl | decide +kernel) rfl (HeldL.refl _) (fun H' hH => OpOk.step (ok_nilCheck rfl rfl)) ?_
      refine any_take 2 rfl (by first | rfl | decide +kernel) rfl (HeldL.refl _) (fun H' hH => OpOk.step (ok_fieldAddr rfl ti_api_State rfl rfl ti_Lint (by decide) rfl)) ?_
      refine any_take 3 rfl (by first | rfl | decide +kernel) rfl (HeldL.refl _) (fun H' hH => OpOk.step (ok_load rfl ti_Lint (locA_held hH rfl) rfl)) ?_
      refine any_take 4 rfl (by first | rfl | decide +kernel) rfl (HeldL.refl _) (fun H' hH => OpOk.step (ok_fieldAddr rfl ti_api_Rec rfl rfl ti_int (by decide) rfl)) ?_
      refine any_take 5 rfl (by first | rfl | decide +kernel) rfl (HeldL.refl _) (fun H' hH => OpOk.step (ok_load rfl ti_int (locA_held hH rfl) rfl)) ?_
      refine any_take 6 rfl (by first | rfl | decide +kernel) rfl (HeldL.refl _) (fun H' hH => OpOk.step (ok_fieldAddr rfl ti_api_Rec rfl rfl ti_int (by decide) rfl)) ?_
      refine any_take 7 rfl (by first | rfl | decide +kernel) rfl (HeldL.refl _) (fun H' hH => OpOk.step (ok_load rfl ti_int (locA_held hH rfl) rfl)) ?_
      refine any_take 8 rfl (by first | rfl | decide +kernel) rfl (HeldL.refl _) (fun H' hH => OpOk.step (by exact ok_index_sl (b := ⟨1, true, ints .i64 s.st⟩) rfl ti_Lint rfl ti_int rfl (hH.get rfl) rfl rfl (by omega) (by omega))) ?_
      refine any_one 9 rfl (by first | rfl | decide +kernel) rfl rfl (OpOk.step ((ok_store rfl ti_int (by decide) (id := 1) (j := 0 + x.member.toNat) (f := 0) rfl rfl rfl (List.getElem?_eq_getElem (by simp; omega)) rfl (by show 0 + 1 ≤ 1; decide) (.inl ⟨rfl, rfl⟩)).eq (x' := .any) (H'' := [some (SB s (.sl 1 0 s.st.length) (.sl 2 0 s.zs.length)), some ⟨1, true, ints .i64 (s.st.set x.member.toNat x.status)⟩, some ⟨6, true, Zns s.zs⟩, some (RcB x)]) rfl (by show [_, some (⟨1, true, (ints .i64 s.st).set (0 + x.member.toNat) (.int x.status)⟩ : Blk), _, _] = _; rw [Nat.zero_add, ints_set]; rfl))) (.inl (by simp)) ?_
      refine any_done rfl ?_
      refine keepK hK9 [0] (by dsimp) (by dsimp) ?_
      refine T.seq fun K10 hK10 => ?_
      refine T.seq fun K11 hK11 => ?_
      refine T.region ?_
      refine rs rfl rfl (ok_move (.inl rfl)) ?_
      refine rs rfl rfl (ok_nilCheck rfl rfl) ?_
      refine rs rfl rfl (ok_fieldAddr rfl ti_api_State rfl rfl ti_Lapi_Zone (by decide) rfl) ?_
      refine rs rfl rfl (ok_load rfl ti_Lapi_Zone rfl rfl) ?_
      refine rs rfl rfl (ok_len' rfl rfl ti_Lapi_Zone rfl (by first | exact ints_length _ _ | exact rowsA_length _ _ | exact Cms_len _ | exact mapLen _ | rfl)) ?_
      refine rs rfl rfl (ok_move (.inl rfl)) ?_
      refine ro_nil ?_
      refine keepK hK11 [0, 58, 59] (by dsimp) (by dsimp) ?_
      refine T.block ?_
      refine T.loopI (ι := Nat) (fun i => i ≤ s.zs.length) (fun i => s.zs.length - i) (fun i => ([(0, .ref 0 0 0), (58, .int s.zs.length), (59, .int i)], [some (SB s (.sl 1 0 s.st.length) (.sl 2 0 s.zs.length)), some ⟨1, true, ints .i64 (s.st.set x.member.toNat x.status)⟩, some ⟨6, true, Zns (unwK s.zs i)⟩, some (RcB x)])) 0 (Nat.zero_le _) (TEnt.toH (by rw [unwK_0]) ⟨rfl, rfl, rfl, trivial⟩) (fun i hi => ?_) -- loop 1
      have hul := unwK_len s.zs i hi
      refine T.seq fun K12 hK12 => ?_
      refine T.region ?_
      refine rs rfl rfl (ok_binOp rfl ti_int rfl) ?_
      refine ro_nil ?_
      refine keepK hK12 [0, 58, 59, 60] (by dsimp) (by dsimp) ?_
      refine T.seq fun K13 hK13 => ?_
      refine T.cond rfl (fun hc => ?_) (fun hc => ?_) -- cond 2
      ·(try simp only [dE] at hc)
       obtain ⟨z, hz⟩ : ∃ z, s.zs[i]? = some z := ⟨_, List.getElem?_eq_getElem (by omega)⟩
       refine T.skip ?_
       refine keepK hK13 [0, 58, 59] (by dsimp) (by dsimp) ?_
       refine T.seq fun K14 hK14 => ?_
       refine T.block ?_
       refine T.seq fun K15 hK15 => ?_
       refine T.region ?_
       refine rs rfl rfl (ok_move (.inl rfl)) ?_
       refine rs rfl rfl (ok_move (.inr rfl)) ?_
       refine ro_nil ?_
       refine keepK hK15 [0, 8, 58, 59] (by dsimp) (by dsimp) ?_
       refine T.region ?_
       refine rs rfl rfl (ok_move (.inl rfl)) ?_
       refine rs rfl rfl (ok_nilCheck rfl rfl) ?_
       refine rs rfl rfl (ok_fieldAddr rfl ti_api_State rfl rfl ti_Lapi_Zone (by decide) rfl) ?_
       refine rs rfl rfl (ok_load rfl ti_Lapi_Zone rfl rfl) ?_
       refine rs rfl rfl (ok_move (.inl rfl)) ?_
       refine rs rfl rfl (by exact ok_index_sl (b := ⟨6, true, Zns (unwK s.zs i)⟩) rfl ti_Lapi_Zone rfl ti_api_Zone rfl rfl rfl rfl (by omega) (by omega)) ?_
       refine rs rfl rfl (ok_fieldAddr rfl ti_api_Zone rfl rfl ti_bool (by decide) rfl) ?_
       refine rs rfl rfl ((ok_store rfl ti_bool (by decide) (id := 2) (j := 0 + i) (f := 4) rfl rfl rfl (by rw [Nat.zero_add]; exact Zns_get (unwK_get hz)) rfl (by show 4 + 1 ≤ 6; decide) (.inr rfl)).eq (x' := .any) (H'' := [some (SB s (.sl 1 0 s.st.length) (.sl 2 0 s.zs.length)), some ⟨1, true, ints .i64 (s.st.set x.member.toNat x.status)⟩, some ⟨6, true, Zns (unwK s.zs (i + 1))⟩, some (RcB x)]) rfl (by show [_, _, some (⟨6, true, (Zns (unwK s.zs i)).set (0 + i) (.agg (ZnC (unw z)))⟩ : Blk), _] = _; rw [Nat.zero_add, Zns_set, unwK_set hz])) ?_
       refine ro_nil ?_
       refine keepK hK14 [0, 58, 59] (by dsimp) (by dsimp) ?_
       refine T.region ?_
       refine rs rfl rfl (ok_add64 rfl ti_int rfl rfl (by omega) (by omega)) ?_
       refine rs rfl rfl (ok_move (.inl rfl)) ?_
       refine ro_nil ?_
       exact ⟨i + 1, by omega, by omega, TEnt.toH rfl ⟨rfl, rfl, rfl, trivial⟩⟩
      ·(try simp only [dE] at hc)
       have hin : i = s.zs.length := by omega
       subst hin
       refine T.exit ?_
       refine keepK hK10 [] (by dsimp) (by dsimp) ?_
       refine T.seq fun K16 hK16 => ?_
       refine T.region ?_
       refine rs rfl rfl (ok_moveb (c := true) (.inr rfl) rfl) ?_
       refine ro_nil ?_
       refine keepK hK16 [4] (by dsimp) (by dsimp) ?_
       refine T.ret (hQ _ _ _ rfl ?_).1 -- ret 5
       have hyes : StOk s.st x := ⟨by omega, by assumption, fun h => by first | assumption | (rw [show (oddS s.st).2.2 = false by assumption] at h; cases h)⟩
       rw [decide_eq_true hyes, if_pos hyes, if_pos hyes, unwK_all]
       exact TEnt.fin [0, 1, 2] (by decide) src3 (heap3 (SB_ren (by decide) (by decide)) (ib_ren _ _) (znb_ren _ _)) ⟨rfl, trivial⟩
    ·(try simp only [dE] at hb)
     refine any_skip 22 rfl (by first | rfl | decide +kernel) rfl (by first | exact HeldL.refl _ | exact HeldL.append _ _ | simp [HeldL]) ?_
     refine any_skip 23 rfl (by first | rfl | decide +kernel) rfl (by first | exact HeldL.refl _ | exact HeldL.append _ _ | simp [HeldL]) ?_
     refine any_skip 24 rfl (by first | rfl | decide +kernel) rfl (by first | exact HeldL.refl _ | exact HeldL.append _ _ | simp [HeldL]) ?_
     refine any_skip 25 rfl (by first | rfl | decide +kernel) rfl (by first | exact HeldL.refl _ | exact HeldL.append _ _ | simp [HeldL]) ?_
     refine any_take 26 rfl (by first | rfl | decide +kernel) rfl (by first | exact HeldL.refl _ | exact HeldL.append _ _ | simp [HeldL]) (fun H' hH => OpOk.step (ok_pickb (t := false) (d := false) rfl rfl rfl)) ?_
     refine any_take 27 rfl (by first | rfl | decide +kernel) rfl (by first | exact HeldL.refl _ | exact HeldL.append _ _ | simp [HeldL]) (fun H' hH => OpOk.step (ok_pickb (t := false) (d := false) rfl rfl rfl)) ?_
     refine any_done rfl ?_
     refine keepK hK4 [0, 3, 44] (by dsimp) (by dsimp) ?_
     refine T.cond_false rfl ?_
     refine T.skip ?_
     refine keepK hK3 [0, 3] (by dsimp) (by dsimp) ?_
     refine T.seq fun K17 hK17 => ?_
     refine T.drawH mixed [9] ?_
     refine any_take 0 rfl (by first | rfl | decide +kernel) rfl (HeldL.refl _) (fun H' hH => OpOk.step (ok_move (.inl rfl))) ?_
     refine any_take 1 rfl (by first | rfl | decide +kernel) rfl (HeldL.refl _) (fun H' hH => OpOk.step (ok_nilCheck rfl rfl)) ?_
     refine any_take 2 rfl (by first | rfl | decide +kernel) rfl (HeldL.refl _) (fun H' hH => OpOk.step (ok_fieldAddr rfl ti_api_State rfl rfl ti_Lint (by decide) rfl)) ?_
     refine any_take 3 rfl (by first | rfl | decide +kernel) rfl (HeldL.refl _) (fun H' hH => OpOk.step (ok_load rfl ti_Lint (locA_held hH rfl) rfl)) ?_
     refine any_take 4 rfl (by first | rfl | decide +kernel) rfl (HeldL.refl _) (fun H' hH => OpOk.step (ok_fieldAddr rfl ti_api_Rec rfl rfl ti_int (by decide) rfl)) ?_
     refine any_take 5 rfl (by first | rfl | decide +kernel) rfl (HeldL.refl _) (fun H' hH => OpOk.step (ok_load rfl ti_int (locA_held hH rfl) rfl)) ?_
     refine any_take 6 rfl (by first | rfl | decide +kernel) rfl (HeldL.refl _) (fun H' hH => OpOk.step (ok_fieldAddr rfl ti_api_Rec rfl rfl ti_int (by decide) rfl)) ?_
     refine any_take 7 rfl (by first | rfl | decide +kernel) rfl (HeldL.refl _) (fun H' hH => OpOk.step (ok_load rfl ti_int (locA_held hH rfl) rfl)) ?_
     refine any_take 8 rfl (by first | rfl | decide +kernel) rfl (HeldL.refl _) (fun H' hH => OpOk.step (by exact ok_index_sl (b := ⟨1, true, ints .i64 s.st⟩) rfl ti_Lint rfl ti_int rfl (hH.get rfl) rfl rfl (by omega) (by omega))) ?_
     refine any_one 9 rfl (by first | rfl | decide +kernel) rfl rfl (OpOk.step ((ok_store rfl ti_int (by decide) (id := 1) (j := 0 + x.member.toNat) (f := 0) rfl rfl rfl (List.getElem?_eq_getElem (by simp; omega)) rfl (by show 0 + 1 ≤ 1; decide) (.inl ⟨rfl, rfl⟩)).eq (x' := .any) (H'' := [some (SB s (.sl 1 0 s.st.length) (.sl 2 0 s.zs.length)), some ⟨1, true, ints .i64 (s.st.set x.member.toNat x.status)⟩, some ⟨6, true, Zns s.zs⟩, some (RcB x)]) rfl (by show [_, some (⟨1, true, (ints .i64 s.st).set (0 + x.member.toNat) (.int x.status)⟩ : Blk), _, _] = _; rw [Nat.zero_add, ints_set]; rfl))) (.inl (by simp)) ?_
     refine any_done rfl ?_
     refine keepK hK17 [0] (by dsimp) (by dsimp) ?_
     refine T.seq fun K18 hK18 => ?_
     refine T.seq fun K19 hK19 => ?_
     refine T.region ?_
     refine rs rfl rfl (ok_move (.inl rfl)) ?_
     refine rs rfl rfl (ok_nilCheck rfl rfl) ?_
     refine rs rfl rfl (ok_fieldAddr rfl ti_api_State rfl rfl ti_Lapi_Zone (by decide) rfl) ?_
     refine rs rfl rfl (ok_load rfl ti_Lapi_Zone rfl rfl) ?_
     refine rs rfl rfl (ok_len' rfl rfl ti_Lapi_Zone rfl (by first | exact ints_length _ _ | exact rowsA_length _ _ | exact Cms_len _ | exact mapLen _ | rfl)) ?_
     refine rs rfl rfl (ok_move (.inl rfl)) ?_
     refine ro_nil ?_
     refine keepK hK19 [0, 58, 59] (by dsimp) (by dsimp) ?_
     refine T.block ?_
     refine T.loopI (ι := Nat) (fun i => i ≤ s.zs.length) (fun i => s.zs.length - i) (fun i => ([(0, .ref 0 0 0), (58, .int s.zs.length), (59, .int i)], [some (SB s (.sl 1 0 s.st.length) (.sl 2 0 s.zs.length)), some ⟨1, true, ints .i64 (s.st.set x.member.toNat x.status)⟩, some ⟨6, true, Zns (unwK s.zs i)⟩, some (RcB x)])) 0 (Nat.zero_le _) (TEnt.toH (by rw [unwK_0]) ⟨rfl, rfl, rfl, trivial⟩) (fun i hi => ?_) -- loop 2
     have hul := unwK_len s.zs i hi
     refine T.seq fun K20 hK20 => ?_
     refine T.region ?_
     refine rs rfl rfl (ok_binOp rfl ti_int rfl) ?_
     refine ro_nil ?_
     refine keepK hK20 [0, 58, 59, 60] (by dsimp) (by dsimp) ?_
     refine T.seq fun K21 hK21 => ?_
     refine T.cond rfl (fun hc => ?_) (fun hc => ?_) -- cond 3
     ·(try simp only [dE] at hc)
      obtain ⟨z, hz⟩ : ∃ z, s.zs[i]? = some z := ⟨_, List.getElem?_eq_getElem (by omega)⟩
      refine T.skip ?_
      refine keepK hK21 [0, 58, 59] (by dsimp) (by dsimp) ?_
      refine T.seq fun K22 hK22 => ?_
      refine T.block ?_
      refine T.seq fun K23 hK23 => ?_
      refine T.region ?_
      refine rs rfl rfl (ok_move (.inl rfl)) ?_
      refine rs rfl rfl (ok_move (.inr rfl)) ?_
      refine ro_nil ?_
      refine keepK hK23 [0, 8, 58, 59] (by dsimp) (by dsimp) ?_
      refine T.region ?_
      refine rs rfl rfl (ok_move (.inl rfl)) ?_
      refine rs rfl rfl (ok_nilCheck rfl rfl) ?_
      refine rs rfl rfl (ok_fieldAddr rfl ti_api_State rfl rfl ti_Lapi_Zone (by decide) rfl) ?_
      refine rs rfl rfl (ok_load rfl ti_Lapi_Zone rfl rfl) ?_
      refine rs rfl rfl (ok_move (.inl rfl)) ?_
      refine rs rfl rfl (by exact ok_index_sl (b := ⟨6, true, Zns (unwK s.zs i)⟩) rfl ti_Lapi_Zone rfl ti_api_Zone rfl rfl rfl rfl (by omega) (by omega)) ?_
      refine rs rfl rfl (ok_fieldAddr rfl ti_api_Zone rfl rfl ti_bool (by decide) rfl) ?_
      refine rs rfl rfl ((ok_store rfl ti_bool (by decide) (id := 2) (j := 0 + i) (f := 4) rfl rfl rfl (by rw [Nat.zero_add]; exact Zns_get (unwK_get hz)) rfl (by show 4 + 1 ≤ 6; decide) (.inr rfl)).eq (x' := .any) (H'' := [some (SB s (.sl 1 0 s.st.length) (.sl 2 0 s.zs.length)), some ⟨1, true, ints .i64 (s.st.set x.member.toNat x.status)⟩, some ⟨6, true, Zns (unwK s.zs (i + 1))⟩, some (RcB x)]) rfl (by show [_, _, some (⟨6, true, (Zns (unwK s.zs i)).set (0 + i) (.agg (ZnC (unw z)))⟩ : Blk), _] = _; rw [Nat.zero_add, Zns_set, unwK_set hz])) ?_
      refine ro_nil ?_
      refine keepK hK22 [0, 58, 59] (by dsimp) (by dsimp) ?_
      refine T.region ?_
      refine rs rfl rfl (ok_add64 rfl ti_int rfl rfl (by omega) (by omega)) ?_
      refine rs rfl rfl (ok_move (.inl rfl)) ?_
      refine ro_nil ?_
      exact ⟨i + 1, by omega, by omega, TEnt.toH rfl ⟨rfl, rfl, rfl, trivial⟩⟩
     ·(try simp only [dE] at hc)
      have hin : i = s.zs.length := by omega
      subst hin
      refine T.exit ?_
      refine keepK hK18 [] (by dsimp) (by dsimp) ?_
      refine T.seq fun K24 hK24 => ?_
      refine T.region ?_
      refine rs rfl rfl (ok_moveb (c := true) (.inr rfl) rfl) ?_
      refine ro_nil ?_
      refine keepK hK24 [4] (by dsimp) (by dsimp) ?_
      refine T.ret (hQ _ _ _ rfl ?_).1 -- ret 6
      have hyes : StOk s.st x := ⟨by omega, by assumption, fun h => by first | assumption | (rw [show (oddS s.st).2.2 = false by assumption] at h; cases h)⟩
      rw [decide_eq_true hyes, if_pos hyes, if_pos hyes, unwK_all]
      exact TEnt.fin [0, 1, 2] (by decide) src3 (heap3 (SB_ren (by decide) (by decide)) (ib_ren _ _) (znb_ren _ _)) ⟨rfl, trivial⟩
end Go.Proofs.YtjklgbafnfoolaaGreat.AmF
namespace Go.Proofs.YtjklgbafnfoolaaGreat.AmF
open Go Go.AM
set_option maxRecDepth 100000
set_option maxHeartbeats 4000000
set_option linter.unusedSimpArgs false
set_option linter.unusedVariables false
attribute [local simp] tkeep tget tput ev cav argsTM pickA normT putA splice AV.cells ints_length rowsA_length Prs_len Zns_len
def Z1 (c : Cf) (zs : List Zn) (z : Zn) (x : Rc) : Prop := z.slot = -1 ∧ z.full = false ∧ z.gen = x.gen ∧ x.slot ∈ freeZ c zs
def Z2 (z : Zn) (x : Rc) : Prop := x.gen = z.gen + 1 ∧ x.gen ≤ 1099511627776
def Z3 (c : Cf) (z : Zn) (x : Rc) : Prop := z.full = false ∧ (0 ≤ x.w ∧ x.w ≤ sizeC c) ∧ (z.slot = -1 → x.w = 0)
def Z4 (c : Cf) (z : Zn) (x : Rc) : Prop := z.slot ≠ -1 ∧ z.full = false ∧ z.gen = x.gen ∧ (1 ≤ x.w ∧ x.w ≤ sizeC c) ∧ (x.body.length : Int) = c.unit * c.blk
def Z5 (rb : Bool) (z : Zn) : Prop := z.slot ≠ -1 ∧ rb = true
instance (c : Cf) (zs : List Zn) (z : Zn) (x : Rc) : Decidable (Z1 c zs z x) := by unfold Z1; infer_instance
instance (z : Zn) (x : Rc) : Decidable (Z2 z x) := by unfold Z2; infer_instance
instance (c : Cf) (z : Zn) (x : Rc) : Decidable (Z3 c z x) := by unfold Z3; infer_instance
instance (c : Cf) (z : Zn) (x : Rc) : Decidable (Z4 c z x) := by unfold Z4; infer_instance
instance (rb : Bool) (z : Zn) : Decidable (Z5 rb z) := by unfold Z5; infer_instance
/-- The last two. -/
def last2 (l : List Pr) : List Pr := l.drop (l.length - 2)
/-- A zone, by a record. -/
def stepZ (c : Cf) (zs : List Zn) (rb : Bool) (z : Zn) (x : Rc) : Option Zn :=
  if x.kind = 1 then (if Z1 c zs z x then some { z with slot := x.slot, whole := rb } else none)
  else if x.kind = 2 then (if Z2 z x then some ⟨x.gen, -1, false, 0, false, []⟩ else none)
  else if x.kind = 3 then (if Z3 c z x then some { z with full := true, w := x.w } else none)
  else if x.kind = 4 then (if Z4 c z x then some { z with pars := last2 (z.pars ++ [⟨x.w, x.body⟩]) } else none)
  else if x.kind = 5 then (if Z5 rb z then some { z with whole := true } else none)
  else none
section
variable {c : Cf} {zs : List Zn} {rb : Bool} {z : Zn} {x : Rc}
theorem stepZ_1 (h : x.kind = 1) : stepZ c zs rb z x = if Z1 c zs z x then some { z with slot := x.slot, whole := rb } else none := if_pos h
theorem stepZ_2 (h : x.kind = 2) : stepZ c zs rb z x = if Z2 z x then some ⟨x.gen, -1, false, 0, false, []⟩ else none := by unfold stepZ; rw [if_neg (by omega), if_pos h]
theorem stepZ_3 (h : x.kind = 3) : stepZ c zs rb z x = if Z3 c z x then some { z with full := true, w := x.w } else none := by unfold stepZ; rw [if_neg (by omega), if_neg (by omega), if_pos h]
theorem stepZ_4 (h : x.kind = 4) : stepZ c zs rb z x = if Z4 c z x then some { z with pars := last2 (z.pars ++ [⟨x.w, x.body⟩]) } else none := by unfold stepZ; rw [if_neg (by omega), if_neg (by omega), if_neg (by omega), if_pos h]
theorem stepZ_5 (h : x.kind = 5) : stepZ c zs rb z x = if Z5 rb z then some { z with whole := true } else none := by unfold stepZ; rw [if_neg (by omega), if_neg (by omega), if_neg (by omega), if_neg (by omega), if_pos h]
theorem stepZ_no (h : ¬ x.kind = 1) (h2 : ¬ x.kind = 2) (h3 : ¬ x.kind = 3) (h4 : ¬ x.kind = 4) (h5 : ¬ x.kind = 5) : stepZ c zs rb z x = none := by unfold stepZ; rw [if_neg h, if_neg h2, if_neg h3, if_neg h4, if_neg h5]
end
/-- The zones' row, of which one is told in another way. -/
def ZR (zs : List Zn) (j : Nat) (c : List AV) : Blk := ⟨6, true, (Zns zs).set j (.agg c)⟩
theorem ZR_get {zs : List Zn} {j : Nat} {c : List AV} (hj : j < zs.length) : (ZR zs j c).els[j]? = some (.agg c) := by
  show ((Zns zs).set j (.agg c))[j]? = _
  rw [List.getElem?_set, if_pos rfl, if_pos (by simpa using hj)]
theorem ZR_loc {H : Heap} {zs : List Zn} {j f : Nat} {x : AV} {c : List AV} (hj : j < zs.length) (hb : hget H 1 = some (ZR zs j (x :: c))) : locA H (.ref 1 j f) = some (x :: c, f) := by
  simp [locA, hb, ZR_get hj, AV.cells]
theorem ZR_set {zs : List Zn} {j : Nat} {c c' : List AV} : some (⟨6, true, (ZR zs j c).els.set j (.agg c')⟩ : Blk) = some (ZR zs j c') := by
  simp [ZR, List.set_set]
theorem Ent_last2 {H : Heap} {p : Nat} {l : List Pr} (hb : hget H p = some ⟨2, false, Prs l⟩) : Ent H (.sl p (l.length - 2) (l.length - (l.length - 2))) (.fz 2 (Prs (last2 l))) := by
  have h := Ent.sl (H := H) (id := p) (off := l.length - 2) (len := l.length - (l.length - 2)) (b := ⟨2, false, Prs l⟩) hb rfl (by simp)
  rw [show Prs (last2 l) = ((Prs l).drop (l.length - 2)).take (l.length - (l.length - 2)) by
    unfold last2 Prs
    rw [List.map_drop, List.take_of_length_le (by simp)]]
  exact h
theorem freeZ_len (c : Cf) (zs : List Zn) : (freeZ c zs).length ≤ 140737488355328 := by
  have h1 := slots_bd c
  have h2 : freeZ c zs = freeK zs (slotsC c).toNat := rfl
  rw [h2]
  have := freeK_len zs (slotsC c).toNat
  omega
theorem ch_end {tm tm' : TM} {H : Heap} {st : List Int} {zs : List Zn} {j p : Nat} {z' : Zn} {P : AV} {l : List Pr} (hj : j < zs.length) (h0 : hget H 0 = some ⟨1, true, ints .i64 st⟩) (h1 : hget H 1 = some (ZR zs j (ZnS z' P))) (hp : hget H p = some ⟨2, true, Prs l⟩) (hp2 : 2 ≤ p) (hP : Ent (H.set p (some ⟨2, false, Prs l⟩)) P (.fz 2 (Prs z'.pars))) (hT : AllGet (normT [0, 1, 2] tm) tm') : TEnt 3 tm H tm' [some ⟨1, true, ints .i64 st⟩, some ⟨6, true, Zns (zs.set j z')⟩, none] := by
  have hpl := hget_lt hp
  have h1l := hget_lt h1
  refine (TEnt.freeze p hp).trans ?_
  have h1' : hget (H.set p (some ⟨2, false, Prs l⟩)) 1 = some (ZR zs j (ZnS z' P)) := by rw [hget_set, if_neg (by omega)]; exact h1
  have h0' : hget (H.set p (some ⟨2, false, Prs l⟩)) 0 = some ⟨1, true, ints .i64 st⟩ := by rw [hget_set, if_neg (by omega)]; exact h0
  have hE : EntL (H.set p (some ⟨2, false, Prs l⟩)) (ZR zs j (ZnS z' P)).els (Zns (zs.set j z')) := by
    have h2 : EntL (H.set p (some ⟨2, false, Prs l⟩)) (ZR zs j (ZnS z' P)).els ((ZR zs j (ZnS z' P)).els.set j (.agg (ZnC z'))) := EntL.set j (ZR_get hj) (Ent.agg (EntL.cons (Ent.refl _) (EntL.cons (Ent.refl _) (EntL.cons (Ent.refl _) (EntL.cons (Ent.refl _) (EntL.cons (Ent.refl _) (EntL.cons hP EntL.nil)))))))
    rw [show (ZR zs j (ZnS z' P)).els.set j (.agg (ZnC z')) = Zns (zs.set j z') by show ((Zns zs).set j _).set j _ = _; rw [List.set_set, Zns_set]] at h2
    exact h2
  refine (TEnt.blk 1 (l' := Zns (zs.set j z')) h1' (by simp [ZR]) hE).trans ((TEnt.forget 2).trans (TEnt.fin [0, 1, 2] (by decide) src3 ?_ hT))
  simp only [normH, List.map_cons, List.map_nil]
  refine heap3 ?_ ?_ ?_
  · rw [hget_set, if_neg (by omega), hget_set, if_neg (by omega), h0']; exact ib_ren _ _
  · rw [hget_set, if_neg (by omega), hget_set, if_pos ⟨rfl, by simpa using h1l⟩]; exact znb_ren _ _
  · by_cases h3 : 2 < H.length
    · rw [hget_set, if_pos ⟨rfl, by simpa using h3⟩]; rfl
    · rw [hget_set, if_neg (by simp; omega), hget_set, if_neg (by omega), hget_set, if_neg (by omega)]
      cases h4 : hget H 2 with
      | none => rfl
      | some b => exact absurd (hget_lt h4) h3
end Go.Proofs.YtjklgbafnfoolaaGreat.AmF
namespace Go.Proofs.YtjklgbafnfoolaaGreat.AmF
open Go Go.AM
set_option maxRecDepth 100000
set_option maxHeartbeats 4000000
set_option linter.unusedSimpArgs false
set_option linter.unusedVariables false
attribute [local simp] tkeep tget tput ev cav argsTM pickA normT putA splice AV.cells ints_length rowsA_length Prs_len Zns_len
def cfz : Cf := ⟨0, 0, 0, 0, 0, 0, 0, 0, 0, 0, 0⟩
/-- No state. -/
def St0 : St := ⟨cfz, 0, 0, [], []⟩
/-- What a record makes of a state. -/
def stepS (s : St) (x : Rc) : Option St :=
  if x.kind = 6 then (if StOk s.st x then some { s with st := s.st.set x.member.toNat x.status, zs := s.zs.map unw, sq := x.seq } else none)
  else if 0 ≤ x.zone ∧ x.zone < s.zs.length then
    match s.zs[x.zone.toNat]? with
    | some z => (stepZ s.c s.zs (decide (2 ∈ s.st)) z x).map fun z' => { s with zs := s.zs.set x.zone.toNat z', sq := x.seq }
    | none => none
  else none
def Goes (s : St) (x : Rc) : Prop := x.epoch = s.ep ∧ x.seq = s.sq + 1 ∧ x.seq ≤ 1099511627776
instance (s : St) (x : Rc) : Decidable (Goes s x) := by unfold Goes; infer_instance
/-- The new state, and the error. -/
def applyS (s : St) (x : Rc) : St × Int :=
  if RS s then (if Goes s x then (match stepS s x with | some t => (t, 0) | none => (St0, 13)) else (St0, 13)) else (St0, 1)
theorem applyS_no {s : St} {x : Rc} (h : ¬ RS s) : applyS s x = (St0, 1) := if_neg h
theorem applyS_form {s : St} {x : Rc} (h : RS s) (h' : ¬ Goes s x) : applyS s x = (St0, 13) := by unfold applyS; rw [if_pos h, if_neg h']
theorem applyS_bad {s : St} {x : Rc} (h : RS s) (h' : Goes s x) (h2 : stepS s x = none) : applyS s x = (St0, 13) := by unfold applyS; rw [if_pos h, if_pos h', h2]
theorem applyS_ok {s t : St} {x : Rc} (h : RS s) (h' : Goes s x) (h2 : stepS s x = some t) : applyS s x = (t, 0) := by unfold applyS; rw [if_pos h, if_pos h', h2]
theorem stepS_st {s : St} {x : Rc} (h : x.kind = 6) : stepS s x = if StOk s.st x then some { s with st := s.st.set x.member.toNat x.status, zs := s.zs.map unw, sq := x.seq } else none := if_pos h
theorem stepS_no {s : St} {x : Rc} (h : ¬ x.kind = 6) (h' : ¬ (0 ≤ x.zone ∧ x.zone < s.zs.length)) : stepS s x = none := by unfold stepS; rw [if_neg h, if_neg h']
theorem stepS_zn {s : St} {x : Rc} {z : Zn} (h : ¬ x.kind = 6) (h' : 0 ≤ x.zone ∧ x.zone < s.zs.length) (hz : s.zs[x.zone.toNat]? = some z) : stepS s x = (stepZ s.c s.zs (decide (2 ∈ s.st)) z x).map fun z' => { s with zs := s.zs.set x.zone.toNat z', sq := x.seq } := by
  unfold stepS; rw [if_neg h, if_pos h', hz]
/-- The clone, of which a zone is told apart. -/
theorem sclone_at (s : St) (j : Nat) (z : Zn) (hz : s.zs[j]? = some z) (hn : s.st.length ≤ 1000000000) (hm : s.zs.length ≤ 1000000000) (hl : ∀ z ∈ s.zs, z.pars.length ≤ 1000000000) (hb : ∀ z ∈ s.zs, ∀ p ∈ z.pars, p.b.length ≤ 140737488355328) : CSpec Tryz.prog 67 [] [.agg (StC s)] [some ⟨1, true, ints .i64 s.st⟩, some (ZR s.zs j (ZnS z (.sl 2 0 z.pars.length))), some ⟨2, true, Prs z.pars⟩] (.agg (StS s (.sl 0 0 s.st.length) (.sl 1 0 s.zs.length))) := by
  have h := sclone_ok s j hn hm hl hb
  have hj : j < s.zs.length := (List.getElem?_eq_some_iff.1 hz).1
  have e1 : zsJ s.zs j 2 s.zs.length = (Zns s.zs).set j (.agg (ZnS z (.sl 2 0 z.pars.length))) := by unfold zsJ; rw [hz]; exact if_pos hj
  have e2 : pbJ s.zs j s.zs.length = some ⟨2, true, Prs z.pars⟩ := by unfold pbJ; rw [hz]; exact if_pos hj
  rw [e1, e2] at h
  exact h
theorem RcC_take (x : Rc) : List.take 10 (RcC x) = RcC x := rfl
theorem StS_take (s : St) (A B : AV) : List.take 15 (StS s A B) = StS s A B := rfl
theorem pos345 : pos [3, 4, 5] 3 = some 0 ∧ pos [3, 4, 5] 4 = some 1 := by decide
theorem ZR_ren {ρ : Nat → Option Nat} {p q : Nat} (hρ : ρ p = some q) (zs : List Zn) (w : Nat) (z : Zn) (n : Nat) : some (Blk.ren ρ (ZR zs w (ZnS z (.sl p 0 n)))) = some (ZR zs w (ZnS z (.sl q 0 n))) := zset_ren hρ zs w z n
theorem Ent.st0 {H : Heap} : Ent H (.agg (List.map .v [.int .i64 0, .int .i64 0, .int .i64 0, .int .i64 0, .int .i64 0, .int .i64 0, .int .i64 0, .int .i64 0, .int .i64 0, .int .i64 0, .int .i64 0, .int .i64 0, .int .i64 0, .slice none 0 0, .slice none 0 0])) (.agg (StC St0)) :=
  Ent.agg (EntL.append (l := CC cfz) (EntL.refl _) (EntL.cons (Ent.refl _) (EntL.cons (Ent.refl _) (EntL.cons (Ent.nil 1) (EntL.cons (Ent.nil 6) EntL.nil)))))
theorem Ent.st' {H : Heap} {a b n m : Nat} (s : St) (hn : n = s.st.length) (hm : m = s.zs.length) (ha : hget H a = some ⟨1, false, ints .i64 s.st⟩) (hb : hget H b = some ⟨6, false, Zns s.zs⟩) : Ent H (.agg (StS s (.sl a 0 n) (.sl b 0 m))) (.agg (StC s)) := by subst hn hm; exact Ent.st s ha hb
theorem heap6 {a a' b b' c c' d d' e e' f f' : Option Blk} (h1 : a = a') (h2 : b = b') (h3 : c = c') (h4 : d = d') (h5 : e = e') (h6 : f = f') : [a, b, c, d, e, f] = [a', b', c', d', e', f'] := by subst h1 h2 h3 h4 h5 h6; rfl
theorem ap_no {k : Nat} {tm : TM} {H : Heap} {e : Int} (hk : k = 0) (h : tget tm 0 = .tup [.agg (List.map .v [.int .i64 0, .int .i64 0, .int .i64 0, .int .i64 0, .int .i64 0, .int .i64 0, .int .i64 0, .int .i64 0, .int .i64 0, .int .i64 0, .int .i64 0, .int .i64 0, .int .i64 0, .slice none 0 0, .slice none 0 0]), .int e]) : TEnt k tm H [(0, .tup [.agg (StC St0), .int e])] [] := by
  subst hk
  exact (TEnt.put1 0 (x' := .tup [.agg (StC St0), .int e]) (by rw [h]; exact Ent.tup (EntL.cons Ent.st0 (EntL.refl _)))).trans (TEnt.fin [] (by decide) (by simp) rfl ⟨by simp [AV.ren, renL, StC_ren], trivial⟩)
theorem ap_ok {k : Nat} {tm : TM} {H : Heap} {n m : Nat} (s : St) (hk : k = 0) (h : tget tm 0 = .tup [.agg (StS s (.sl 3 0 n) (.sl 4 0 m)), .int 0]) (hn : n = s.st.length) (hm : m = s.zs.length) (ha : hget H 3 = some ⟨1, true, ints .i64 s.st⟩) (hb : hget H 4 = some ⟨6, true, Zns s.zs⟩) : TEnt k tm H [(0, .tup [.agg (StC s), .int 0])] [] := by
  subst hk
  have h3 := hget_lt ha
  have h4 := hget_lt hb
  refine (TEnt.freeze 3 ha).trans ((TEnt.freeze 4 (b := ⟨6, true, Zns s.zs⟩) (by rw [hget_set, if_neg (by omega)]; exact hb)).trans ((TEnt.put1 0 (x' := .tup [.agg (StC s), .int 0]) (by
    rw [h]
    refine Ent.tup (EntL.cons (Ent.st' s hn hm ?_ ?_) (EntL.refl _))
    · rw [hget_set, if_neg (by omega), hget_set, if_pos ⟨rfl, h3⟩]
    · rw [hget_set, if_pos ⟨rfl, by simpa using h4⟩])).trans (TEnt.fin [] (by decide) (by simp) rfl ⟨by simp [AV.ren, renL, StC_ren], trivial⟩)))
end Go.Proofs.YtjklgbafnfoolaaGreat.AmF
namespace Go.Proofs.YtjklgbafnfoolaaGreat.AmF
open Go Go.AM
set_option maxRecDepth 100000
set_option maxHeartbeats 4000000
set_option linter.unusedSimpArgs false
set_option linter.unusedVariables false
attribute [local simp] tkeep tget tput ev cav argsTM pickA normT putA splice AV.cells ints_length rowsA_length Prs_len Zns_len
theorem emptyAt11 {k : Nat} {tm : TM} {H : Heap} (t i es : Nat) (he : 0 < es) {l : List AV} (h : tget tm t = .agg l) (hi : l[i]? = some (.v (.slice none 0 0))) : TEnt k tm H ((t, .agg (l.set i (.sl H.length 0 0))) :: tm) (H ++ [some ⟨es, true, []⟩]) := by
  intro g vs hH hk hg ht
  subst hH
  obtain ⟨hgv, hsv⟩ := vpush_ok he hg
  refine ⟨g.vpush es, rfl, rfl, hgv, fun t' => ?_, hsv.ext, hsv.pin hk⟩
  simp only [tget]
  by_cases ht' : t = t'
  · subst ht'
    rw [if_pos rfl]
    have hr := Rel.mono hsv.ren (ht t)
    rw [h] at hr
    simp only [Rel] at hr ⊢
    obtain ⟨cs, e1, hl⟩ := hr
    obtain ⟨y, hy, hyr⟩ := hl.get hi
    simp only [Rel] at hyr
    subst hyr
    have hset : cs.toList.set i (.slice none 0 0) = cs.toList := by
      apply List.ext_getElem?
      intro j
      rw [List.getElem?_set]
      by_cases hj : i = j
      · subst hj
        have := (List.getElem?_eq_some_iff.1 hy).1
        rw [if_pos rfl, if_pos this, hy]
      · rw [if_neg hj]
    refine ⟨cs, e1, ?_⟩
    rw [← hset]
    refine RelL.set i hl ?_
    simp only [Rel]
    refine ⟨by simp [G.vpush], none, 0, rfl, fun k' hk' => ⟨Nat.le_refl _, ?_, fun h => absurd rfl h⟩⟩
    have e1 : (g.vpush es).sz g.H.length = 0 := by simp [G.vpush]
    have e2 : (g.vpush es).bs g.H.length = 0 := by simp [G.vpush]
    rw [e1, e2]; simp
  · rw [if_neg ht']
    exact Rel.mono hsv.ren (ht t')
def z0 : Zn := ⟨0, -1, false, 0, false, []⟩
/-- The first state. -/
def newS (c : Cf) : St := ⟨c, 1, 0, List.replicate c.mem.toNat 0, List.replicate c.zon.toNat z0⟩
end Go.Proofs.YtjklgbafnfoolaaGreat.AmF
namespace Go.Proofs.YtjklgbafnfoolaaGreat.AmF
open Go Go.AM
set_option maxRecDepth 100000
set_option maxHeartbeats 4000000
set_option linter.unusedSimpArgs false
set_option linter.unusedVariables false
attribute [local simp] tkeep tget tput ev cav argsTM pickA normT putA splice AV.cells ints_length rowsA_length Prs_len Zns_len
theorem rreb_ok (s : St) (hn : s.st.length ≤ 1000000000) : CSpec Tryz.prog 85 [] [.agg (StC s)] [] (.b (decide (2 ∈ s.st))) := by
 refine CSpec.body Tryz.func85 rfl rfl rfl rfl rfl fun Q hQ => ?_
 refine T.seq fun K1 hK1 => ?_
 refine T.region ?_
 refine rs rfl rfl (ok_box (n := 15) rfl rfl (by decide)) ?_
 refine rs rfl rfl (ok_moveb (c := false) (.inr rfl) rfl) ?_
 refine ro_nil ?_
 refine keepK hK1 [1] (by dsimp) (by dsimp) ?_
 refine T.seq fun K2 hK2 => ?_
 refine T.seq fun K3 hK3 => ?_
 refine T.region ?_
 refine rs rfl rfl (ok_move (.inr rfl)) ?_
 refine ro_nil ?_
 refine keepK hK3 [1, 3] (by dsimp) (by dsimp) ?_
 refine T.block ?_
 refine T.loopI (ι := Nat) (fun i => i ≤ s.st.length ∧ ∀ y ∈ s.st.take i, decide (y = 2) = false) (fun i => s.st.length - i) (fun i => ([(1, .ref 0 0 0), (3, .int i)], [some (StB s)])) 0 ⟨Nat.zero_le _, fun y hy => by simp at hy⟩ (TEnt.toH rfl ⟨rfl, rfl, trivial⟩) (fun i hi => ?_) -- loop 1
 obtain ⟨hil, hno⟩ := hi
 refine T.seq fun K4 hK4 => ?_
 refine T.seq fun K5 hK5 => ?_
 refine T.region ?_
 refine rs rfl rfl (ok_move (.inl rfl)) ?_
 refine rs rfl rfl (ok_fieldAddr rfl ti_api_State rfl rfl ti_Lint (by decide) rfl) ?_
 refine rs rfl rfl (ok_load rfl ti_Lint rfl rfl) ?_
 refine rs rfl rfl (ok_len' rfl rfl ti_Lint rfl (by first | exact ints_length _ _ | exact rowsA_length _ _ | exact Cms_len _ | exact mapLen _ | rfl)) ?_
 refine rs rfl rfl (ok_binOp rfl ti_int rfl) ?_
 refine ro_nil ?_
 refine keepK hK5 [1, 3, 8] (by dsimp) (by dsimp) ?_
 refine T.cond rfl (fun hc => ?_) (fun hc => ?_) -- cond 1
 ·(try simp only [dE] at hc)
  obtain ⟨y, hy⟩ : ∃ y, s.st[i]? = some y := ⟨_, List.getElem?_eq_getElem (by omega)⟩
  refine T.skip ?_
  refine keepK hK4 [1, 3] (by dsimp) (by dsimp) ?_
  refine T.seq fun K6 hK6 => ?_
  refine T.block ?_
  refine T.seq fun K7 hK7 => ?_
  refine T.region ?_
  refine rs rfl rfl (ok_fieldAddr rfl ti_api_State rfl rfl ti_Lint (by decide) rfl) ?_
  refine rs rfl rfl (ok_load rfl ti_Lint rfl rfl) ?_
  refine rs rfl rfl (ok_move (.inl rfl)) ?_
  refine rs rfl rfl (by exact ok_index_ints rfl ti_Lint rfl ti_int rfl rfl rfl (by omega) (by simpa using hy)) ?_
  refine rs rfl rfl (ok_load rfl ti_int rfl rfl) ?_
  refine rs rfl rfl (ok_binOp rfl ti_int rfl) ?_
  refine ro_nil ?_
  refine keepK hK7 [1, 3, 16] (by dsimp) (by dsimp) ?_
  refine T.cond rfl (fun hc => ?_) (fun hc => ?_) -- cond 2
  ·(try simp only [dE] at hc)
   rw [decide_eq_true (by rw [← hc]; exact List.mem_of_getElem? hy)] at hQ
   refine T.seq fun K8 hK8 => ?_
   refine T.region ?_
   refine rs rfl rfl (ok_moveb (c := true) (.inr rfl) rfl) ?_
   refine ro_nil ?_
   refine keepK hK8 [2] (by dsimp) (by dsimp) ?_
   refine T.ret (hQ _ _ _ rfl ?_).1 -- ret 1
   exact TEnt.fin [] (by decide) (by simp) rfl ⟨rfl, trivial⟩
  ·(try simp only [dE] at hc)
   refine T.skip ?_
   refine keepK hK6 [1, 3] (by dsimp) (by dsimp) ?_
   refine T.region ?_
   refine rs rfl rfl (ok_move (.inl rfl)) ?_
   refine rs rfl rfl (ok_add64 rfl ti_int rfl rfl (by omega) (by omega)) ?_
   refine rs rfl rfl (ok_move (.inr rfl)) ?_
   refine ro_nil ?_
   exact ⟨i + 1, ⟨by omega, take_snoc_all hy hno (decide_eq_false hc)⟩, by omega, TEnt.toH rfl ⟨rfl, rfl, trivial⟩⟩
 ·(try simp only [dE] at hc)
  have hin : i = s.st.length := by omega
  rw [hin, List.take_length] at hno
  rw [decide_eq_false (fun h => by have := hno 2 h; simp at this)] at hQ
  refine T.exit ?_
  refine keepK hK2 [] (by dsimp) (by dsimp) ?_
  refine T.seq fun K9 hK9 => ?_
  refine T.region ?_
  refine rs rfl rfl (ok_moveb (c := false) (.inr rfl) rfl) ?_
  refine ro_nil ?_
  refine keepK hK9 [2] (by dsimp) (by dsimp) ?_
  refine T.ret (hQ _ _ _ rfl ?_).1 -- ret 2
  exact TEnt.fin [] (by decide) (by simp) rfl ⟨rfl, trivial⟩
/-- What a zone without a slot lacks, and what needs its end or a rebuild. -/
def Q4 (rb : Bool) (z : Zn) : Prop := (z.slot = -1 → ¬ 0 < z.w ∧ z.whole = false ∧ ¬ 0 < z.pars.length) ∧ (z.full = false → ¬ 0 < z.w) ∧ (z.whole = true → rb = true)
instance (rb : Bool) (z : Zn) : Decidable (Q4 rb z) := by unfold Q4; infer_instance
theorem RZ_no4 {c : Cf} {rb : Bool} {z : Zn} (h : ¬ Q4 rb z) : ¬ RZ c rb z := by
  rintro ⟨_, _, h3, h4, h5, _, h7, _⟩
  refine h ⟨fun e => ⟨fun h' => (h4 h').2 e, ?_, fun h' => h7 (by simpa using h') e⟩, fun e h' => ?_, fun e => (h5 e).2⟩
  · cases hw : z.whole with
    | true => exact absurd e (h5 hw).1
    | false => rfl
  · rw [(h4 h').1] at e; cases e
theorem RZ_iff {c : Cf} {rb : Bool} {z : Zn} (h1 : (0 ≤ z.gen ∧ z.gen ≤ 1099511627776) ∧ (-1 ≤ z.slot ∧ z.slot < slotsC c) ∧ (0 ≤ z.w ∧ z.w ≤ sizeC c) ∧ z.pars.length ≤ 2) (h : Q4 rb z) (hp : ∀ p ∈ z.pars, PG c p) : RZ c rb z := by
  obtain ⟨a, b, c', d⟩ := h1
  obtain ⟨q1, q2, q3⟩ := h
  refine ⟨a, b, c', fun h => ⟨?_, fun e => (q1 e).1 h⟩, fun h => ⟨fun e => ?_, q3 h⟩, d, fun h e => (q1 e).2.2 h, hp⟩
  · cases hf : z.full with
    | true => rfl
    | false => exact absurd h (q2 hf)
  · rw [(q1 e).2.1] at h; cases h
theorem rrzone_ok (s : St) (z : Zn) (hck : chkC s.c = 0) (hn : s.st.length ≤ 1000000000) : CSpec Tryz.prog 46 [] [.agg (StC s), .agg (ZnC z)] [] (.b (decide (RZ s.c (decide (2 ∈ s.st)) z))) := by
 have hk := chkC_ok hck
 have hm := mul_bd (a := s.c.unit) (b := s.c.blk) (A := 64) (B := 4096) (by have := hk.2.2.1; omega) (by have := hk.2.2.1; omega) (by have := hk.2.2.2.1; omega) (by have := hk.2.2.2.1; omega)
 refine CSpec.body Tryz.func46 rfl rfl rfl rfl rfl fun Q hQ => ?_
 refine T.seq fun K1 hK1 => ?_
 refine T.region ?_
 refine rs rfl rfl (ok_box (n := 15) rfl rfl (by decide)) ?_
 refine rs rfl rfl (ok_box (n := 6) rfl rfl (by decide)) ?_
 refine rs rfl rfl (ok_moveb (c := false) (.inr rfl) rfl) ?_
 refine ro_nil ?_
 refine keepK hK1 [2, 3] (by dsimp) (by dsimp) ?_
 refine T.seq fun K2 hK2 => ?_
 refine T.drawH mixed [] ?_
 refine any_take 0 rfl (by first | rfl | decide +kernel) rfl (HeldL.refl _) (fun H' hH => OpOk.step (ok_fieldAddr rfl ti_api_State rfl rfl ti_api_Conf (by decide) rfl)) ?_
 refine any_take 1 rfl (by first | rfl | decide +kernel) rfl (HeldL.refl _) (fun H' hH => OpOk.step (ok_load rfl ti_api_Conf (locA_held hH rfl) rfl)) ?_
 refine any_take 3 rfl (by first | rfl | decide +kernel) rfl (HeldL.refl _) (fun H' hH => OpOk.step (ok_fieldAddr rfl ti_api_State rfl rfl ti_api_Conf (by decide) rfl)) ?_
 refine any_take 4 rfl (by first | rfl | decide +kernel) rfl (HeldL.refl _) (fun H' hH => OpOk.step (ok_load rfl ti_api_Conf (locA_held hH rfl) rfl)) ?_
 refine any_one 2 rfl (by first | rfl | decide +kernel) rfl rfl (ok_call rfl rfl rfl ((rsize_ok s.c).plain (by show renL _ [.agg (CC s.c)] = _; simp [renL, AV.ren, CC_ren]) rfl)) (.inr (by first | (simp [HeldL]; done) | (simp only [dH]; (repeat' first | trivial | rfl | constructor)))) ?_
 refine any_one 5 rfl (by first | rfl | decide +kernel) rfl rfl (ok_call rfl rfl rfl ((nums_ok s.c).plain (by show renL _ [.agg (CC s.c)] = _; simp [renL, AV.ren, CC_ren]) (by simp [AV.ren, renL_ints]))) (.inr (by first | (simp [HeldL]; done) | (simp only [dH]; (repeat' first | trivial | rfl | constructor)))) ?_
 refine any_take 6 rfl (by first | rfl | decide +kernel) rfl (by first | exact HeldL.refl _ | exact HeldL.append _ _ | simp [HeldL]) (fun H' hH => OpOk.step (ok_index rfl ti_A7int rfl ti_int rfl rfl (by omega) (by omega) rfl)) ?_
 refine any_take 7 rfl (by first | rfl | decide +kernel) rfl (by first | exact HeldL.refl _ | exact HeldL.append _ _ | simp [HeldL]) (fun H' hH => OpOk.step (ok_move (.inr rfl))) ?_
 refine any_take 8 rfl (by first | rfl | decide +kernel) rfl (by first | exact HeldL.refl _ | exact HeldL.append _ _ | simp [HeldL]) (fun H' hH => OpOk.step (ok_move (.inr rfl))) ?_
 refine any_done rfl ?_
 refine keepK hK2 [2, 3, 5, 6] (by dsimp) (by dsimp) ?_
 refine T.seq fun K3 hK3 => ?_
 refine T.seq fun K4 hK4 => ?_
 refine T.region ?_
 refine rs rfl rfl (ok_fieldAddr rfl ti_api_Zone rfl rfl ti_int (by decide) rfl) ?_
 refine rs rfl rfl (ok_load rfl ti_int rfl rfl) ?_
 refine rs rfl rfl (ok_binOp rfl ti_int rfl) ?_
 refine ro_case rfl rfl (OpOk.step (ok_moveb (.inl rfl) rfl)) (fun hb => ?_) (fun hb => ?_)
 ·(try simp only [dE] at hb)
  refine ro_skip rfl rfl ?_
  refine ro_skip rfl rfl ?_
  refine ro_skip rfl rfl ?_
  refine rs rfl rfl (ok_pickb (t := true) (d := true) rfl rfl rfl) ?_
  refine rs rfl rfl (ok_moveb (c := true) (.inl rfl) rfl) ?_
  refine ro_skip rfl rfl ?_
  refine ro_skip rfl rfl ?_
  refine ro_skip rfl rfl ?_
  refine rs rfl rfl (ok_pickb (t := true) (d := true) rfl rfl rfl) ?_
  refine rs rfl rfl (ok_moveb (c := true) (.inl rfl) rfl) ?_
  refine ro_skip rfl rfl ?_
  refine ro_skip rfl rfl ?_
  refine ro_skip rfl rfl ?_
  refine ro_skip rfl rfl ?_
  refine rs rfl rfl (ok_pickb (t := true) (d := true) rfl rfl rfl) ?_
  refine rs rfl rfl (ok_moveb (c := true) (.inl rfl) rfl) ?_
  refine ro_skip rfl rfl ?_
  refine ro_skip rfl rfl ?_
  refine ro_skip rfl rfl ?_
  refine rs rfl rfl (ok_pickb (t := true) (d := true) rfl rfl rfl) ?_
  refine rs rfl rfl (ok_moveb (c := true) (.inl rfl) rfl) ?_
  refine ro_skip rfl rfl ?_
  refine ro_skip rfl rfl ?_
  refine ro_skip rfl rfl ?_
  refine ro_skip rfl rfl ?_
  refine rs rfl rfl (ok_pickb (t := true) (d := true) rfl rfl rfl) ?_
  refine rs rfl rfl (ok_moveb (c := true) (.inl rfl) rfl) ?_
  refine ro_skip rfl rfl ?_
  refine ro_skip rfl rfl ?_
  refine ro_skip rfl rfl ?_
  refine ro_skip rfl rfl ?_
  refine rs rfl rfl (ok_pickb (t := true) (d := true) rfl rfl rfl) ?_
  refine ro_nil ?_
  refine keepK hK4 [2, 3, 5, 50] (by dsimp) (by dsimp) ?_
  refine T.cond_true rfl ?_
  refine T.seq fun K5 hK5 => ?_
  refine T.region ?_
  refine rs rfl rfl (ok_moveb (c := false) (.inr rfl) rfl) ?_
  refine ro_nil ?_
  refine keepK hK5 [4] (by dsimp) (by dsimp) ?_
  refine T.ret (hQ _ _ _ rfl ?_).1 -- ret 1
  exact by (rw [decide_eq_false (fun h => by obtain ⟨⟨h1, h2⟩, ⟨h3, h4⟩, ⟨h5, h6⟩, h7, h8, h9, h10, h11⟩ := h; omega)]; exact TEnt.fin [] (by decide) (by simp) rfl ⟨rfl, trivial⟩)
 ·(try simp only [dE] at hb)
  refine rs rfl rfl (ok_fieldAddr rfl ti_api_Zone rfl rfl ti_int (by decide) rfl) ?_
  refine rs rfl rfl (ok_load rfl ti_int rfl rfl) ?_
  refine rs rfl rfl (ok_binOp rfl ti_int rfl) ?_
  refine rs rfl rfl (ok_pick rfl rfl) ?_
  refine ro_case rfl rfl (OpOk.step (ok_moveb (.inl rfl) rfl)) (fun hb => ?_) (fun hb => ?_)
  ·(try simp only [dE] at hb)
   refine ro_skip rfl rfl ?_
   refine ro_skip rfl rfl ?_
   refine ro_skip rfl rfl ?_
   refine rs rfl rfl (ok_pickb (t := true) (d := true) rfl rfl rfl) ?_
   refine rs rfl rfl (ok_moveb (c := true) (.inl rfl) rfl) ?_
   refine ro_skip rfl rfl ?_
   refine ro_skip rfl rfl ?_
   refine ro_skip rfl rfl ?_
   refine ro_skip rfl rfl ?_
   refine rs rfl rfl (ok_pickb (t := true) (d := true) rfl rfl rfl) ?_
   refine rs rfl rfl (ok_moveb (c := true) (.inl rfl) rfl) ?_
   refine ro_skip rfl rfl ?_
   refine ro_skip rfl rfl ?_
   refine ro_skip rfl rfl ?_
   refine rs rfl rfl (ok_pickb (t := true) (d := true) rfl rfl rfl) ?_
   refine rs rfl rfl (ok_moveb (c := true) (.inl rfl) rfl) ?_
   refine ro_skip rfl rfl ?_
   refine ro_skip rfl rfl ?_
   refine ro_skip rfl rfl ?_
   refine ro_skip rfl rfl ?_
   refine rs rfl rfl (ok_pickb (t := true) (d := true) rfl rfl rfl) ?_
   refine rs rfl rfl (ok_moveb (c := true) (.inl rfl) rfl) ?_
   refine ro_skip rfl rfl ?_
   refine ro_skip rfl rfl ?_
   refine ro_skip rfl rfl ?_
   refine ro_skip rfl rfl ?_
   refine rs rfl rfl (ok_pickb (t := true) (d := true) rfl rfl rfl) ?_
   refine ro_nil ?_
   refine keepK hK4 [2, 3, 5, 50] (by dsimp) (by dsimp) ?_
   refine T.cond_true rfl ?_
   refine T.seq fun K6 hK6 => ?_
   refine T.region ?_
   refine rs rfl rfl (ok_moveb (c := false) (.inr rfl) rfl) ?_
   refine ro_nil ?_
   refine keepK hK6 [4] (by dsimp) (by dsimp) ?_
   refine T.ret (hQ _ _ _ rfl ?_).1 -- ret 2
   exact by (rw [decide_eq_false (fun h => by obtain ⟨⟨h1, h2⟩, ⟨h3, h4⟩, ⟨h5, h6⟩, h7, h8, h9, h10, h11⟩ := h; omega)]; exact TEnt.fin [] (by decide) (by simp) rfl ⟨rfl, trivial⟩)
  ·(try simp only [dE] at hb)
   refine rs rfl rfl (ok_fieldAddr rfl ti_api_Zone rfl rfl ti_int (by decide) rfl) ?_
   refine rs rfl rfl (ok_load rfl ti_int rfl rfl) ?_
   refine rs rfl rfl (ok_binOp rfl ti_int rfl) ?_
   refine rs rfl rfl (ok_pick rfl rfl) ?_
   refine ro_case rfl rfl (OpOk.step (ok_moveb (.inl rfl) rfl)) (fun hb => ?_) (fun hb => ?_)
   ·(try simp only [dE] at hb)
    refine ro_skip rfl rfl ?_
    refine ro_skip rfl rfl ?_
    refine ro_skip rfl rfl ?_
    refine ro_skip rfl rfl ?_
    refine rs rfl rfl (ok_pickb (t := true) (d := true) rfl rfl rfl) ?_
    refine rs rfl rfl (ok_moveb (c := true) (.inl rfl) rfl) ?_
    refine ro_skip rfl rfl ?_
    refine ro_skip rfl rfl ?_
    refine ro_skip rfl rfl ?_
    refine rs rfl rfl (ok_pickb (t := true) (d := true) rfl rfl rfl) ?_
    refine rs rfl rfl (ok_moveb (c := true) (.inl rfl) rfl) ?_
    refine ro_skip rfl rfl ?_
    refine ro_skip rfl rfl ?_
    refine ro_skip rfl rfl ?_
    refine ro_skip rfl rfl ?_
    refine rs rfl rfl (ok_pickb (t := true) (d := true) rfl rfl rfl) ?_
    refine rs rfl rfl (ok_moveb (c := true) (.inl rfl) rfl) ?_
    refine ro_skip rfl rfl ?_
    refine ro_skip rfl rfl ?_
    refine ro_skip rfl rfl ?_
    refine ro_skip rfl rfl ?_
    refine rs rfl rfl (ok_pickb (t := true) (d := true) rfl rfl rfl) ?_
    refine ro_nil ?_
    refine keepK hK4 [2, 3, 5, 50] (by dsimp) (by dsimp) ?_
    refine T.cond_true rfl ?_
    refine T.seq fun K7 hK7 => ?_
    refine T.region ?_
    refine rs rfl rfl (ok_moveb (c := false) (.inr rfl) rfl) ?_
    refine ro_nil ?_
    refine keepK hK7 [4] (by dsimp) (by dsimp) ?_
    refine T.ret (hQ _ _ _ rfl ?_).1 -- ret 3
    exact by (rw [decide_eq_false (fun h => by obtain ⟨⟨h1, h2⟩, ⟨h3, h4⟩, ⟨h5, h6⟩, h7, h8, h9, h10, h11⟩ := h; omega)]; exact TEnt.fin [] (by decide) (by simp) rfl ⟨rfl, trivial⟩)
   ·(try simp only [dE] at hb)
    refine rs rfl rfl (ok_fieldAddr rfl ti_api_Zone rfl rfl ti_int (by decide) rfl) ?_
    refine rs rfl rfl (ok_load rfl ti_int rfl rfl) ?_
    refine rs rfl rfl (ok_move (.inl rfl)) ?_
    refine rs rfl rfl (ok_binOp rfl ti_int rfl) ?_
    refine rs rfl rfl (ok_pick rfl rfl) ?_
    refine ro_case rfl rfl (OpOk.step (ok_moveb (.inl rfl) rfl)) (fun hb => ?_) (fun hb => ?_)
    ·(try simp only [dE] at hb)
     refine ro_skip rfl rfl ?_
     refine ro_skip rfl rfl ?_
     refine ro_skip rfl rfl ?_
     refine rs rfl rfl (ok_pickb (t := true) (d := true) rfl rfl rfl) ?_
     refine rs rfl rfl (ok_moveb (c := true) (.inl rfl) rfl) ?_
     refine ro_skip rfl rfl ?_
     refine ro_skip rfl rfl ?_
     refine ro_skip rfl rfl ?_
     refine ro_skip rfl rfl ?_
     refine rs rfl rfl (ok_pickb (t := true) (d := true) rfl rfl rfl) ?_
     refine rs rfl rfl (ok_moveb (c := true) (.inl rfl) rfl) ?_
     refine ro_skip rfl rfl ?_
     refine ro_skip rfl rfl ?_
     refine ro_skip rfl rfl ?_
     refine ro_skip rfl rfl ?_
     refine rs rfl rfl (ok_pickb (t := true) (d := true) rfl rfl rfl) ?_
     refine ro_nil ?_
     refine keepK hK4 [2, 3, 5, 50] (by dsimp) (by dsimp) ?_
     refine T.cond_true rfl ?_
     refine T.seq fun K8 hK8 => ?_
     refine T.region ?_
     refine rs rfl rfl (ok_moveb (c := false) (.inr rfl) rfl) ?_
     refine ro_nil ?_
     refine keepK hK8 [4] (by dsimp) (by dsimp) ?_
     refine T.ret (hQ _ _ _ rfl ?_).1 -- ret 4
     exact by (rw [decide_eq_false (fun h => by obtain ⟨⟨h1, h2⟩, ⟨h3, h4⟩, ⟨h5, h6⟩, h7, h8, h9, h10, h11⟩ := h; omega)]; exact TEnt.fin [] (by decide) (by simp) rfl ⟨rfl, trivial⟩)
    ·(try simp only [dE] at hb)
     refine rs rfl rfl (ok_fieldAddr rfl ti_api_Zone rfl rfl ti_int (by decide) rfl) ?_
     refine rs rfl rfl (ok_load rfl ti_int rfl rfl) ?_
     refine rs rfl rfl (ok_binOp rfl ti_int rfl) ?_
     refine rs rfl rfl (ok_pick rfl rfl) ?_
     refine ro_case rfl rfl (OpOk.step (ok_moveb (.inl rfl) rfl)) (fun hb => ?_) (fun hb => ?_)
     ·(try simp only [dE] at hb)
      refine ro_skip rfl rfl ?_
      refine ro_skip rfl rfl ?_
      refine ro_skip rfl rfl ?_
      refine ro_skip rfl rfl ?_
      refine rs rfl rfl (ok_pickb (t := true) (d := true) rfl rfl rfl) ?_
      refine rs rfl rfl (ok_moveb (c := true) (.inl rfl) rfl) ?_
      refine ro_skip rfl rfl ?_
      refine ro_skip rfl rfl ?_
      refine ro_skip rfl rfl ?_
      refine ro_skip rfl rfl ?_
      refine rs rfl rfl (ok_pickb (t := true) (d := true) rfl rfl rfl) ?_
      refine ro_nil ?_
      refine keepK hK4 [2, 3, 5, 50] (by dsimp) (by dsimp) ?_
      refine T.cond_true rfl ?_
      refine T.seq fun K9 hK9 => ?_
      refine T.region ?_
      refine rs rfl rfl (ok_moveb (c := false) (.inr rfl) rfl) ?_
      refine ro_nil ?_
      refine keepK hK9 [4] (by dsimp) (by dsimp) ?_
      refine T.ret (hQ _ _ _ rfl ?_).1 -- ret 5
      exact by (rw [decide_eq_false (fun h => by obtain ⟨⟨h1, h2⟩, ⟨h3, h4⟩, ⟨h5, h6⟩, h7, h8, h9, h10, h11⟩ := h; omega)]; exact TEnt.fin [] (by decide) (by simp) rfl ⟨rfl, trivial⟩)
     ·(try simp only [dE] at hb)
      refine rs rfl rfl (ok_fieldAddr rfl ti_api_Zone rfl rfl ti_int (by decide) rfl) ?_
      refine rs rfl rfl (ok_load rfl ti_int rfl rfl) ?_
      refine rs rfl rfl (ok_move (.inl rfl)) ?_
      refine rs rfl rfl (ok_binOp rfl ti_int rfl) ?_
      refine rs rfl rfl (ok_pick rfl rfl) ?_
      refine ro_case rfl rfl (OpOk.step (ok_moveb (.inl rfl) rfl)) (fun hb => ?_) (fun hb => ?_)
      ·(try simp only [dE] at hb)
       refine ro_skip rfl rfl ?_
       refine ro_skip rfl rfl ?_
       refine ro_skip rfl rfl ?_
       refine ro_skip rfl rfl ?_
       refine rs rfl rfl (ok_pickb (t := true) (d := true) rfl rfl rfl) ?_
       refine ro_nil ?_
       refine keepK hK4 [2, 3, 5, 50] (by dsimp) (by dsimp) ?_
       refine T.cond_true rfl ?_
       refine T.seq fun K10 hK10 => ?_
       refine T.region ?_
       refine rs rfl rfl (ok_moveb (c := false) (.inr rfl) rfl) ?_
       refine ro_nil ?_
       refine keepK hK10 [4] (by dsimp) (by dsimp) ?_
       refine T.ret (hQ _ _ _ rfl ?_).1 -- ret 6
       exact by (rw [decide_eq_false (fun h => by obtain ⟨⟨h1, h2⟩, ⟨h3, h4⟩, ⟨h5, h6⟩, h7, h8, h9, h10, h11⟩ := h; omega)]; exact TEnt.fin [] (by decide) (by simp) rfl ⟨rfl, trivial⟩)
      ·(try simp only [dE] at hb)
       refine rs rfl rfl (ok_fieldAddr rfl ti_api_Zone rfl rfl ti_Lapi_Par (by decide) rfl) ?_
       refine rs rfl rfl (ok_load rfl ti_Lapi_Par rfl rfl) ?_
       refine rs rfl rfl (ok_len' rfl rfl ti_Lapi_Par rfl (by first | exact ints_length _ _ | exact rowsA_length _ _ | exact Cms_len _ | exact mapLen _ | rfl)) ?_
       refine rs rfl rfl (ok_binOp rfl ti_int rfl) ?_
       refine rs rfl rfl (ok_pick rfl rfl) ?_
       refine ro_nil ?_
       refine keepK hK4 [2, 3, 5, 50] (by dsimp) (by dsimp) ?_
       refine T.cond rfl (fun hc => ?_) (fun hc => ?_) -- cond 1
       ·(try simp only [dE] at hc)
        refine T.seq fun K11 hK11 => ?_
        refine T.region ?_
        refine rs rfl rfl (ok_moveb (c := false) (.inr rfl) rfl) ?_
        refine ro_nil ?_
        refine keepK hK11 [4] (by dsimp) (by dsimp) ?_
        refine T.ret (hQ _ _ _ rfl ?_).1 -- ret 7
        exact by (rw [decide_eq_false (fun h => by obtain ⟨⟨h1, h2⟩, ⟨h3, h4⟩, ⟨h5, h6⟩, h7, h8, h9, h10, h11⟩ := h; rw [Prs_len] at *; omega)]; exact TEnt.fin [] (by decide) (by simp) rfl ⟨rfl, trivial⟩)
       ·(try simp only [dE] at hc)
        try rw [Prs_len] at hc
        have h17 : (0 ≤ z.gen ∧ z.gen ≤ 1099511627776) ∧ (-1 ≤ z.slot ∧ z.slot < slotsC s.c) ∧ (0 ≤ z.w ∧ z.w ≤ sizeC s.c) ∧ z.pars.length ≤ 2 := by omega
        refine T.skip ?_
        refine keepK hK3 [2, 3, 5] (by dsimp) (by dsimp) ?_
        refine T.seq fun K12 hK12 => ?_
        refine T.seq fun K13 hK13 => ?_
        refine T.join hK13 [(2, .ref 0 0 0), (3, .ref 1 0 0), (5, .int (sizeC s.c)), (87, .b (decide (¬ Q4 (decide (2 ∈ s.st)) z)))] [some (StB s), some (ZnB z)] (fun hJ14 => ?_) ?_
        ·
         refine T.region ?_
         refine rs rfl rfl (ok_fieldAddr rfl ti_api_Zone rfl rfl ti_int (by decide) rfl) ?_
         refine rs rfl rfl (ok_load rfl ti_int rfl rfl) ?_
         refine rs rfl rfl (ok_binOp rfl ti_int rfl) ?_
         refine ro_case rfl rfl (OpOk.step (ok_moveb (.inl rfl) rfl)) (fun hb => ?_) (fun hb => ?_)
         ·(try simp only [dE] at hb)
          refine rs rfl rfl (ok_fieldAddr rfl ti_api_Zone rfl rfl ti_int (by decide) rfl) ?_
          refine rs rfl rfl (ok_load rfl ti_int rfl rfl) ?_
          refine rs rfl rfl (ok_binOp rfl ti_int rfl) ?_
          refine ro_case rfl rfl (OpOk.step (ok_moveb (.inl rfl) rfl)) (fun hb => ?_) (fun hb => ?_)
          ·(try simp only [dE] at hb)
           refine ro_skip rfl rfl ?_
           refine ro_skip rfl rfl ?_
           refine rs rfl rfl (ok_pickb (t := true) (d := true) rfl rfl rfl) ?_
           refine rs rfl rfl (ok_moveb (c := true) (.inl rfl) rfl) ?_
           refine ro_skip rfl rfl ?_
           refine ro_skip rfl rfl ?_
           refine ro_skip rfl rfl ?_
           refine ro_skip rfl rfl ?_
           refine rs rfl rfl (ok_pickb (t := true) (d := true) rfl rfl rfl) ?_
           refine rs rfl rfl (ok_pickb (t := true) (d := true) rfl rfl rfl) ?_
           refine rs rfl rfl (ok_moveb (c := true) (.inl rfl) rfl) ?_
           refine ro_skip rfl rfl ?_
           refine ro_skip rfl rfl ?_
           refine ro_skip rfl rfl ?_
           refine ro_skip rfl rfl ?_
           refine ro_skip rfl rfl ?_
           refine ro_skip rfl rfl ?_
           refine ro_skip rfl rfl ?_
           refine ro_skip rfl rfl ?_
           refine rs rfl rfl (ok_pickb (t := true) (d := true) rfl rfl rfl) ?_
           refine rs rfl rfl (ok_moveb (c := true) (.inl rfl) rfl) ?_
           refine ro_skip rfl rfl ?_
           refine ro_skip rfl rfl ?_
           refine ro_skip rfl rfl ?_
           refine ro_skip rfl rfl ?_
           refine ro_skip rfl rfl ?_
           refine ro_skip rfl rfl ?_
           refine ro_skip rfl rfl ?_
           refine rs rfl rfl (ok_pickb (t := true) (d := true) rfl rfl rfl) ?_
           refine ro_nil ?_
           exact hJ14 _ _ (TEnt.toH rfl ⟨rfl, rfl, rfl, by first | exact congrArg AV.b (decide_eq_true (show ¬ Q4 _ _ by unfold Q4; simp_all)).symm | exact congrArg AV.b (decide_eq_false (show ¬ ¬ Q4 _ _ by unfold Q4; simp_all)).symm | exact congrArg AV.b (show (!decide (2 ∈ s.st)) = decide (¬ Q4 _ _) by unfold Q4; simp_all) | exact congrArg AV.b (show z.whole = decide (¬ Q4 _ _) by unfold Q4; cases z.whole <;> simp_all), trivial⟩)
          ·(try simp only [dE] at hb)
           refine rs rfl rfl (ok_fieldAddr rfl ti_api_Zone rfl rfl ti_bool (by decide) rfl) ?_
           refine rs rfl rfl (ok_load rfl ti_bool rfl rfl) ?_
           refine rs rfl rfl (ok_pick rfl rfl) ?_
           refine ro_case rfl rfl (OpOk.step (ok_moveb (.inl rfl) rfl)) (fun hb => ?_) (fun hb => ?_)
           ·(try simp only [dE] at hb)
            refine ro_skip rfl rfl ?_
            refine ro_skip rfl rfl ?_
            refine ro_skip rfl rfl ?_
            refine ro_skip rfl rfl ?_
            refine rs rfl rfl (ok_pickb (t := true) (d := true) rfl rfl rfl) ?_
            refine rs rfl rfl (ok_pickb (t := true) (d := true) rfl rfl rfl) ?_
            refine rs rfl rfl (ok_moveb (c := true) (.inl rfl) rfl) ?_
            refine ro_skip rfl rfl ?_
            refine ro_skip rfl rfl ?_
            refine ro_skip rfl rfl ?_
            refine ro_skip rfl rfl ?_
            refine ro_skip rfl rfl ?_
            refine ro_skip rfl rfl ?_
            refine ro_skip rfl rfl ?_
            refine ro_skip rfl rfl ?_
            refine rs rfl rfl (ok_pickb (t := true) (d := true) rfl rfl rfl) ?_
            refine rs rfl rfl (ok_moveb (c := true) (.inl rfl) rfl) ?_
            refine ro_skip rfl rfl ?_
            refine ro_skip rfl rfl ?_
            refine ro_skip rfl rfl ?_
            refine ro_skip rfl rfl ?_
            refine ro_skip rfl rfl ?_
            refine ro_skip rfl rfl ?_
            refine ro_skip rfl rfl ?_
            refine rs rfl rfl (ok_pickb (t := true) (d := true) rfl rfl rfl) ?_
            refine ro_nil ?_
            exact hJ14 _ _ (TEnt.toH rfl ⟨rfl, rfl, rfl, by first | exact congrArg AV.b (decide_eq_true (show ¬ Q4 _ _ by unfold Q4; simp_all)).symm | exact congrArg AV.b (decide_eq_false (show ¬ ¬ Q4 _ _ by unfold Q4; simp_all)).symm | exact congrArg AV.b (show (!decide (2 ∈ s.st)) = decide (¬ Q4 _ _) by unfold Q4; simp_all) | exact congrArg AV.b (show z.whole = decide (¬ Q4 _ _) by unfold Q4; cases z.whole <;> simp_all), trivial⟩)
           ·(try simp only [dE] at hb)
            refine rs rfl rfl (ok_fieldAddr rfl ti_api_Zone rfl rfl ti_Lapi_Par (by decide) rfl) ?_
            refine rs rfl rfl (ok_load rfl ti_Lapi_Par rfl rfl) ?_
            refine rs rfl rfl (ok_len' rfl rfl ti_Lapi_Par rfl (by first | exact ints_length _ _ | exact rowsA_length _ _ | exact Cms_len _ | exact mapLen _ | rfl)) ?_
            refine rs rfl rfl (ok_binOp rfl ti_int rfl) ?_
            refine rs rfl rfl (ok_pick rfl rfl) ?_
            refine rs rfl rfl (ok_pick rfl rfl) ?_
            refine ro_case rfl rfl (OpOk.step (ok_moveb (.inl rfl) rfl)) (fun hb => ?_) (fun hb => ?_)
            ·(try simp only [dE] at hb)
             refine ro_skip rfl rfl ?_
             refine ro_skip rfl rfl ?_
             refine ro_skip rfl rfl ?_
             refine ro_skip rfl rfl ?_
             refine ro_skip rfl rfl ?_
             refine ro_skip rfl rfl ?_
             refine ro_skip rfl rfl ?_
             refine ro_skip rfl rfl ?_
             refine rs rfl rfl (ok_pickb (t := true) (d := true) rfl rfl rfl) ?_
             refine rs rfl rfl (ok_moveb (c := true) (.inl rfl) rfl) ?_
             refine ro_skip rfl rfl ?_
             refine ro_skip rfl rfl ?_
             refine ro_skip rfl rfl ?_
             refine ro_skip rfl rfl ?_
             refine ro_skip rfl rfl ?_
             refine ro_skip rfl rfl ?_
             refine ro_skip rfl rfl ?_
             refine rs rfl rfl (ok_pickb (t := true) (d := true) rfl rfl rfl) ?_
             refine ro_nil ?_
             exact hJ14 _ _ (TEnt.toH rfl ⟨rfl, rfl, rfl, by first | exact congrArg AV.b (decide_eq_true (show ¬ Q4 _ _ by unfold Q4; simp_all)).symm | exact congrArg AV.b (decide_eq_false (show ¬ ¬ Q4 _ _ by unfold Q4; simp_all)).symm | exact congrArg AV.b (show (!decide (2 ∈ s.st)) = decide (¬ Q4 _ _) by unfold Q4; simp_all) | exact congrArg AV.b (show z.whole = decide (¬ Q4 _ _) by unfold Q4; cases z.whole <;> simp_all), trivial⟩)
            ·(try simp only [dE] at hb)
             refine rs rfl rfl (ok_fieldAddr rfl ti_api_Zone rfl rfl ti_bool (by decide) rfl) ?_
             refine rs rfl rfl (ok_load rfl ti_bool rfl rfl) ?_
             refine rs rfl rfl (ok_unOp rfl rfl) ?_
             refine ro_case rfl rfl (OpOk.step (ok_moveb (.inl rfl) rfl)) (fun hb => ?_) (fun hb => ?_)
             ·(try simp only [dE] at hb)
              refine rs rfl rfl (ok_fieldAddr rfl ti_api_Zone rfl rfl ti_int (by decide) rfl) ?_
              refine rs rfl rfl (ok_load rfl ti_int rfl rfl) ?_
              refine rs rfl rfl (ok_binOp rfl ti_int rfl) ?_
              refine rs rfl rfl (ok_pick rfl rfl) ?_
              refine rs rfl rfl (ok_pick rfl rfl) ?_
              refine ro_case rfl rfl (OpOk.step (ok_moveb (.inl rfl) rfl)) (fun hb => ?_) (fun hb => ?_)
              ·(try simp only [dE] at hb)
               refine ro_skip rfl rfl ?_
               refine ro_skip rfl rfl ?_
               refine ro_skip rfl rfl ?_
               refine ro_skip rfl rfl ?_
               refine ro_skip rfl rfl ?_
               refine ro_skip rfl rfl ?_
               refine ro_skip rfl rfl ?_
               refine rs rfl rfl (ok_pickb (t := true) (d := true) rfl rfl rfl) ?_
               refine ro_nil ?_
               exact hJ14 _ _ (TEnt.toH rfl ⟨rfl, rfl, rfl, by first | exact congrArg AV.b (decide_eq_true (show ¬ Q4 _ _ by unfold Q4; simp_all)).symm | exact congrArg AV.b (decide_eq_false (show ¬ ¬ Q4 _ _ by unfold Q4; simp_all)).symm | exact congrArg AV.b (show (!decide (2 ∈ s.st)) = decide (¬ Q4 _ _) by unfold Q4; simp_all) | exact congrArg AV.b (show z.whole = decide (¬ Q4 _ _) by unfold Q4; cases z.whole <;> simp_all), trivial⟩)
              ·(try simp only [dE] at hb)
               refine rs rfl rfl (ok_fieldAddr rfl ti_api_Zone rfl rfl ti_bool (by decide) rfl) ?_
               refine rs rfl rfl (ok_load rfl ti_bool rfl rfl) ?_
               refine ro_case rfl rfl (OpOk.step (ok_moveb (.inl rfl) rfl)) (fun hb => ?_) (fun hb => ?_)
               ·(try simp only [dE] at hb)
                refine rs rfl rfl (ok_load rfl ti_api_State rfl rfl) ?_
                refine ro rfl rfl (ok_call rfl rfl rfl ((rreb_ok s hn).plain (by simp [renL, AV.ren, StC_take, StC_ren]) rfl)) ?_
                refine rs rfl rfl (ok_unOp rfl rfl) ?_
                refine rs rfl rfl (ok_pick rfl rfl) ?_
                refine rs rfl rfl (ok_pick rfl rfl) ?_
                refine ro_nil ?_
                exact hJ14 _ _ (TEnt.toH rfl ⟨rfl, rfl, rfl, by first | exact congrArg AV.b (decide_eq_true (show ¬ Q4 _ _ by unfold Q4; simp_all)).symm | exact congrArg AV.b (decide_eq_false (show ¬ ¬ Q4 _ _ by unfold Q4; simp_all)).symm | exact congrArg AV.b (show (!decide (2 ∈ s.st)) = decide (¬ Q4 _ _) by unfold Q4; simp_all) | exact congrArg AV.b (show z.whole = decide (¬ Q4 _ _) by unfold Q4; cases z.whole <;> simp_all), trivial⟩)
               ·(try simp only [dE] at hb)
                refine ro_skip rfl rfl ?_
                refine ro_skip rfl rfl ?_
                refine ro_skip rfl rfl ?_
                refine rs rfl rfl (ok_pickb (t := false) (d := false) rfl rfl rfl) ?_
                refine rs rfl rfl (ok_pickb (t := false) (d := false) rfl rfl rfl) ?_
                refine ro_nil ?_
                exact hJ14 _ _ (TEnt.toH rfl ⟨rfl, rfl, rfl, by first | exact congrArg AV.b (decide_eq_true (show ¬ Q4 _ _ by unfold Q4; simp_all)).symm | exact congrArg AV.b (decide_eq_false (show ¬ ¬ Q4 _ _ by unfold Q4; simp_all)).symm | exact congrArg AV.b (show (!decide (2 ∈ s.st)) = decide (¬ Q4 _ _) by unfold Q4; simp_all) | exact congrArg AV.b (show z.whole = decide (¬ Q4 _ _) by unfold Q4; cases z.whole <;> simp_all), trivial⟩)
             ·(try simp only [dE] at hb)
              refine ro_skip rfl rfl ?_
              refine ro_skip rfl rfl ?_
              refine ro_skip rfl rfl ?_
              refine rs rfl rfl (ok_pickb (t := false) (d := false) rfl rfl rfl) ?_
              refine rs rfl rfl (ok_pickb (t := false) (d := false) rfl rfl rfl) ?_
              refine rs rfl rfl (ok_moveb (c := false) (.inl rfl) rfl) ?_
              refine rs rfl rfl (ok_fieldAddr rfl ti_api_Zone rfl rfl ti_bool (by decide) rfl) ?_
              refine rs rfl rfl (ok_load rfl ti_bool rfl rfl) ?_
              refine ro_case rfl rfl (OpOk.step (ok_moveb (.inl rfl) rfl)) (fun hb => ?_) (fun hb => ?_)
              ·(try simp only [dE] at hb)
               refine rs rfl rfl (ok_load rfl ti_api_State rfl rfl) ?_
               refine ro rfl rfl (ok_call rfl rfl rfl ((rreb_ok s hn).plain (by simp [renL, AV.ren, StC_take, StC_ren]) rfl)) ?_
               refine rs rfl rfl (ok_unOp rfl rfl) ?_
               refine rs rfl rfl (ok_pick rfl rfl) ?_
               refine rs rfl rfl (ok_pick rfl rfl) ?_
               refine ro_nil ?_
               exact hJ14 _ _ (TEnt.toH rfl ⟨rfl, rfl, rfl, by first | exact congrArg AV.b (decide_eq_true (show ¬ Q4 _ _ by unfold Q4; simp_all)).symm | exact congrArg AV.b (decide_eq_false (show ¬ ¬ Q4 _ _ by unfold Q4; simp_all)).symm | exact congrArg AV.b (show (!decide (2 ∈ s.st)) = decide (¬ Q4 _ _) by unfold Q4; simp_all) | exact congrArg AV.b (show z.whole = decide (¬ Q4 _ _) by unfold Q4; cases z.whole <;> simp_all), trivial⟩)
              ·(try simp only [dE] at hb)
               refine ro_skip rfl rfl ?_
               refine ro_skip rfl rfl ?_
               refine ro_skip rfl rfl ?_
               refine rs rfl rfl (ok_pickb (t := false) (d := false) rfl rfl rfl) ?_
               refine rs rfl rfl (ok_pickb (t := false) (d := false) rfl rfl rfl) ?_
               refine ro_nil ?_
               exact hJ14 _ _ (TEnt.toH rfl ⟨rfl, rfl, rfl, by first | exact congrArg AV.b (decide_eq_true (show ¬ Q4 _ _ by unfold Q4; simp_all)).symm | exact congrArg AV.b (decide_eq_false (show ¬ ¬ Q4 _ _ by unfold Q4; simp_all)).symm | exact congrArg AV.b (show (!decide (2 ∈ s.st)) = decide (¬ Q4 _ _) by unfold Q4; simp_all) | exact congrArg AV.b (show z.whole = decide (¬ Q4 _ _) by unfold Q4; cases z.whole <;> simp_all), trivial⟩)
         ·(try simp only [dE] at hb)
          refine ro_skip rfl rfl ?_
          refine ro_skip rfl rfl ?_
          refine ro_skip rfl rfl ?_
          refine ro_skip rfl rfl ?_
          refine ro_skip rfl rfl ?_
          refine ro_skip rfl rfl ?_
          refine ro_skip rfl rfl ?_
          refine ro_skip rfl rfl ?_
          refine ro_skip rfl rfl ?_
          refine ro_skip rfl rfl ?_
          refine ro_skip rfl rfl ?_
          refine ro_skip rfl rfl ?_
          refine ro_skip rfl rfl ?_
          refine rs rfl rfl (ok_pickb (t := false) (d := false) rfl rfl rfl) ?_
          refine rs rfl rfl (ok_moveb (c := false) (.inl rfl) rfl) ?_
          refine rs rfl rfl (ok_fieldAddr rfl ti_api_Zone rfl rfl ti_bool (by decide) rfl) ?_
          refine rs rfl rfl (ok_load rfl ti_bool rfl rfl) ?_
          refine rs rfl rfl (ok_unOp rfl rfl) ?_
          refine ro_case rfl rfl (OpOk.step (ok_moveb (.inl rfl) rfl)) (fun hb => ?_) (fun hb => ?_)
          ·(try simp only [dE] at hb)
           refine rs rfl rfl (ok_fieldAddr rfl ti_api_Zone rfl rfl ti_int (by decide) rfl) ?_
           refine rs rfl rfl (ok_load rfl ti_int rfl rfl) ?_
           refine rs rfl rfl (ok_binOp rfl ti_int rfl) ?_
           refine rs rfl rfl (ok_pick rfl rfl) ?_
           refine rs rfl rfl (ok_pick rfl rfl) ?_
           refine ro_case rfl rfl (OpOk.step (ok_moveb (.inl rfl) rfl)) (fun hb => ?_) (fun hb => ?_)
           ·(try simp only [dE] at hb)
            refine ro_skip rfl rfl ?_
            refine ro_skip rfl rfl ?_
            refine ro_skip rfl rfl ?_
            refine ro_skip rfl rfl ?_
            refine ro_skip rfl rfl ?_
            refine ro_skip rfl rfl ?_
            refine ro_skip rfl rfl ?_
            refine rs rfl rfl (ok_pickb (t := true) (d := true) rfl rfl rfl) ?_
            refine ro_nil ?_
            exact hJ14 _ _ (TEnt.toH rfl ⟨rfl, rfl, rfl, by first | exact congrArg AV.b (decide_eq_true (show ¬ Q4 _ _ by unfold Q4; simp_all)).symm | exact congrArg AV.b (decide_eq_false (show ¬ ¬ Q4 _ _ by unfold Q4; simp_all)).symm | exact congrArg AV.b (show (!decide (2 ∈ s.st)) = decide (¬ Q4 _ _) by unfold Q4; simp_all) | exact congrArg AV.b (show z.whole = decide (¬ Q4 _ _) by unfold Q4; cases z.whole <;> simp_all), trivial⟩)
           ·(try simp only [dE] at hb)
            refine rs rfl rfl (ok_fieldAddr rfl ti_api_Zone rfl rfl ti_bool (by decide) rfl) ?_
            refine rs rfl rfl (ok_load rfl ti_bool rfl rfl) ?_
            refine ro_case rfl rfl (OpOk.step (ok_moveb (.inl rfl) rfl)) (fun hb => ?_) (fun hb => ?_)
            ·(try simp only [dE] at hb)
             refine rs rfl rfl (ok_load rfl ti_api_State rfl rfl) ?_
             refine ro rfl rfl (ok_call rfl rfl rfl ((rreb_ok s hn).plain (by simp [renL, AV.ren, StC_take, StC_ren]) rfl)) ?_
             refine rs rfl rfl (ok_unOp rfl rfl) ?_
             refine rs rfl rfl (ok_pick rfl rfl) ?_
             refine rs rfl rfl (ok_pick rfl rfl) ?_
             refine ro_nil ?_
             exact hJ14 _ _ (TEnt.toH rfl ⟨rfl, rfl, rfl, by first | exact congrArg AV.b (decide_eq_true (show ¬ Q4 _ _ by unfold Q4; simp_all)).symm | exact congrArg AV.b (decide_eq_false (show ¬ ¬ Q4 _ _ by unfold Q4; simp_all)).symm | exact congrArg AV.b (show (!decide (2 ∈ s.st)) = decide (¬ Q4 _ _) by unfold Q4; simp_all) | exact congrArg AV.b (show z.whole = decide (¬ Q4 _ _) by unfold Q4; cases z.whole <;> simp_all), trivial⟩)
            ·(try simp only [dE] at hb)
             refine ro_skip rfl rfl ?_
             refine ro_skip rfl rfl ?_
             refine ro_skip rfl rfl ?_
             refine rs rfl rfl (ok_pickb (t := false) (d := false) rfl rfl rfl) ?_
             refine rs rfl rfl (ok_pickb (t := false) (d := false) rfl rfl rfl) ?_
             refine ro_nil ?_
             exact hJ14 _ _ (TEnt.toH rfl ⟨rfl, rfl, rfl, by first | exact congrArg AV.b (decide_eq_true (show ¬ Q4 _ _ by unfold Q4; simp_all)).symm | exact congrArg AV.b (decide_eq_false (show ¬ ¬ Q4 _ _ by unfold Q4; simp_all)).symm | exact congrArg AV.b (show (!decide (2 ∈ s.st)) = decide (¬ Q4 _ _) by unfold Q4; simp_all) | exact congrArg AV.b (show z.whole = decide (¬ Q4 _ _) by unfold Q4; cases z.whole <;> simp_all), trivial⟩)
          ·(try simp only [dE] at hb)
           refine ro_skip rfl rfl ?_
           refine ro_skip rfl rfl ?_
           refine ro_skip rfl rfl ?_
           refine rs rfl rfl (ok_pickb (t := false) (d := false) rfl rfl rfl) ?_
           refine rs rfl rfl (ok_pickb (t := false) (d := false) rfl rfl rfl) ?_
           refine rs rfl rfl (ok_moveb (c := false) (.inl rfl) rfl) ?_
           refine rs rfl rfl (ok_fieldAddr rfl ti_api_Zone rfl rfl ti_bool (by decide) rfl) ?_
           refine rs rfl rfl (ok_load rfl ti_bool rfl rfl) ?_
           refine ro_case rfl rfl (OpOk.step (ok_moveb (.inl rfl) rfl)) (fun hb => ?_) (fun hb => ?_)
           ·(try simp only [dE] at hb)
            refine rs rfl rfl (ok_load rfl ti_api_State rfl rfl) ?_
            refine ro rfl rfl (ok_call rfl rfl rfl ((rreb_ok s hn).plain (by simp [renL, AV.ren, StC_take, StC_ren]) rfl)) ?_
            refine rs rfl rfl (ok_unOp rfl rfl) ?_
            refine rs rfl rfl (ok_pick rfl rfl) ?_
            refine rs rfl rfl (ok_pick rfl rfl) ?_
            refine ro_nil ?_
            exact hJ14 _ _ (TEnt.toH rfl ⟨rfl, rfl, rfl, by first | exact congrArg AV.b (decide_eq_true (show ¬ Q4 _ _ by unfold Q4; simp_all)).symm | exact congrArg AV.b (decide_eq_false (show ¬ ¬ Q4 _ _ by unfold Q4; simp_all)).symm | exact congrArg AV.b (show (!decide (2 ∈ s.st)) = decide (¬ Q4 _ _) by unfold Q4; simp_all) | exact congrArg AV.b (show z.whole = decide (¬ Q4 _ _) by unfold Q4; cases z.whole <;> simp_all), trivial⟩)
           ·(try simp only [dE] at hb)
            refine ro_skip rfl rfl ?_
            refine ro_skip rfl rfl ?_
            refine ro_skip rfl rfl ?_
            refine rs rfl rfl (ok_pickb (t := false) (d := false) rfl rfl rfl) ?_
            refine rs rfl rfl (ok_pickb (t := false) (d := false) rfl rfl rfl) ?_
            refine ro_nil ?_
            exact hJ14 _ _ (TEnt.toH rfl ⟨rfl, rfl, rfl, by first | exact congrArg AV.b (decide_eq_true (show ¬ Q4 _ _ by unfold Q4; simp_all)).symm | exact congrArg AV.b (decide_eq_false (show ¬ ¬ Q4 _ _ by unfold Q4; simp_all)).symm | exact congrArg AV.b (show (!decide (2 ∈ s.st)) = decide (¬ Q4 _ _) by unfold Q4; simp_all) | exact congrArg AV.b (show z.whole = decide (¬ Q4 _ _) by unfold Q4; cases z.whole <;> simp_all), trivial⟩)
        refine T.cond rfl (fun hc => ?_) (fun hc => ?_) -- cond 2
        ·(try simp only [dE] at hc)
         have hq4 : ¬ Q4 (decide (2 ∈ s.st)) z := by simpa using hc
         refine T.seq fun K15 hK15 => ?_
         refine T.region ?_
         refine rs rfl rfl (ok_moveb (c := false) (.inr rfl) rfl) ?_
         refine ro_nil ?_
         refine keepK hK15 [4] (by dsimp) (by dsimp) ?_
         refine T.ret (hQ _ _ _ rfl ?_).1 -- ret 8
         exact by (rw [decide_eq_false (RZ_no4 (by assumption))]; exact TEnt.fin [] (by decide) (by simp) rfl ⟨rfl, trivial⟩)
        ·(try simp only [dE] at hc)
         have hq4 : Q4 (decide (2 ∈ s.st)) z := by simpa using hc
         refine T.skip ?_
         refine keepK hK12 [2, 3, 5] (by dsimp) (by dsimp) ?_
         refine T.seq fun K16 hK16 => ?_
         refine T.seq fun K17 hK17 => ?_
         refine T.region ?_
         refine rs rfl rfl (ok_move (.inr rfl)) ?_
         refine ro_nil ?_
         refine keepK hK17 [2, 3, 5, 7] (by dsimp) (by dsimp) ?_
         refine T.block ?_
         refine T.loopI (ι := Nat) (fun i => i ≤ z.pars.length ∧ ∀ p ∈ z.pars.take i, PG s.c p) (fun i => z.pars.length - i) (fun i => ([(2, .ref 0 0 0), (3, .ref 1 0 0), (5, .int (sizeC s.c)), (7, .int i)], [some (StB s), some (ZnB z)])) 0 ⟨Nat.zero_le _, fun y hy => by simp at hy⟩ (TEnt.toH rfl ⟨rfl, rfl, rfl, rfl, trivial⟩) (fun i hi => ?_) -- loop 1
         obtain ⟨hil, hall⟩ := hi
         refine T.seq fun K18 hK18 => ?_
         refine T.seq fun K19 hK19 => ?_
         refine T.region ?_
         refine rs rfl rfl (ok_move (.inl rfl)) ?_
         refine rs rfl rfl (ok_fieldAddr rfl ti_api_Zone rfl rfl ti_Lapi_Par (by decide) rfl) ?_
         refine rs rfl rfl (ok_load rfl ti_Lapi_Par rfl rfl) ?_
         refine rs rfl rfl (ok_len' rfl rfl ti_Lapi_Par rfl (by first | exact ints_length _ _ | exact rowsA_length _ _ | exact Cms_len _ | exact mapLen _ | rfl)) ?_
         refine rs rfl rfl (ok_binOp rfl ti_int rfl) ?_
         refine ro_nil ?_
         refine keepK hK19 [2, 3, 5, 7, 92] (by dsimp) (by dsimp) ?_
         refine T.cond rfl (fun hc => ?_) (fun hc => ?_) -- cond 3
         ·(try simp only [dE] at hc)
          rw [Prs_len] at hc
          obtain ⟨p, hp⟩ : ∃ p, z.pars[i]? = some p := ⟨_, List.getElem?_eq_getElem (by omega)⟩
          refine T.skip ?_
          refine keepK hK18 [2, 3, 5, 7] (by dsimp) (by dsimp) ?_
          refine T.seq fun K20 hK20 => ?_
          refine T.block ?_
          refine T.seq fun K21 hK21 => ?_
          refine T.drawH mixed [] ?_
          refine any_take 0 rfl (by first | rfl | decide +kernel) rfl (HeldL.refl _) (fun H' hH => OpOk.step (ok_fieldAddr rfl ti_api_Zone rfl rfl ti_Lapi_Par (by decide) rfl)) ?_
          refine any_take 1 rfl (by first | rfl | decide +kernel) rfl (HeldL.refl _) (fun H' hH => OpOk.step (ok_load rfl ti_Lapi_Par (locA_held hH rfl) rfl)) ?_
          refine any_take 2 rfl (by first | rfl | decide +kernel) rfl (HeldL.refl _) (fun H' hH => OpOk.step (ok_move (.inl rfl))) ?_
          refine any_take 3 rfl (by first | rfl | decide +kernel) rfl (HeldL.refl _) (fun H' hH => OpOk.step (by exact ok_index_map (F := PrC) rfl ti_Lapi_Par rfl ti_api_Par rfl rfl rfl hp (by simp [PrC]))) ?_
          refine any_take 4 rfl (by first | rfl | decide +kernel) rfl (HeldL.refl _) (fun H' hH => OpOk.step (ok_fieldAddr rfl ti_api_Par rfl rfl ti_int (by decide) rfl)) ?_
          refine any_take 5 rfl (by first | rfl | decide +kernel) rfl (HeldL.refl _) (fun H' hH => OpOk.step (ok_load rfl ti_int (locA_held hH rfl) rfl)) ?_
          refine any_take 6 rfl (by first | rfl | decide +kernel) rfl (HeldL.refl _) (fun H' hH => OpOk.step (ok_binOp rfl ti_int rfl)) ?_
          refine any_take_case 7 rfl (by first | rfl | decide +kernel) rfl (HeldL.refl _) (fun H' hH => OpOk.step (ok_moveb (.inl rfl) rfl)) (fun hb => ?_) (fun hb => ?_)
          ·(try simp only [dE] at hb)
           refine any_skip 8 rfl (by first | rfl | decide +kernel) rfl (HeldL.refl _) ?_
           refine any_skip 9 rfl (by first | rfl | decide +kernel) rfl (HeldL.refl _) ?_
           refine any_skip 10 rfl (by first | rfl | decide +kernel) rfl (HeldL.refl _) ?_
           refine any_skip 11 rfl (by first | rfl | decide +kernel) rfl (HeldL.refl _) ?_
           refine any_skip 12 rfl (by first | rfl | decide +kernel) rfl (HeldL.refl _) ?_
           refine any_skip 13 rfl (by first | rfl | decide +kernel) rfl (HeldL.refl _) ?_
           refine any_skip 14 rfl (by first | rfl | decide +kernel) rfl (HeldL.refl _) ?_
           refine any_skip 15 rfl (by first | rfl | decide +kernel) rfl (HeldL.refl _) ?_
           refine any_take 16 rfl (by first | rfl | decide +kernel) rfl (HeldL.refl _) (fun H' hH => OpOk.step (ok_pickb (t := true) (d := true) rfl rfl rfl)) ?_
           refine any_take 17 rfl (by first | rfl | decide +kernel) rfl (HeldL.refl _) (fun H' hH => OpOk.step (ok_moveb (c := true) (.inl rfl) rfl)) ?_
           refine any_skip 18 rfl (by first | rfl | decide +kernel) rfl (HeldL.refl _) ?_
           refine any_skip 19 rfl (by first | rfl | decide +kernel) rfl (HeldL.refl _) ?_
           refine any_skip 20 rfl (by first | rfl | decide +kernel) rfl (HeldL.refl _) ?_
           refine any_skip 21 rfl (by first | rfl | decide +kernel) rfl (HeldL.refl _) ?_
           refine any_skip 22 rfl (by first | rfl | decide +kernel) rfl (HeldL.refl _) ?_
           refine any_skip 23 rfl (by first | rfl | decide +kernel) rfl (HeldL.refl _) ?_
           refine any_skip 24 rfl (by first | rfl | decide +kernel) rfl (HeldL.refl _) ?_
           refine any_skip 25 rfl (by first | rfl | decide +kernel) rfl (HeldL.refl _) ?_
           refine any_skip 26 rfl (by first | rfl | decide +kernel) rfl (HeldL.refl _) ?_
           refine any_skip 27 rfl (by first | rfl | decide +kernel) rfl (HeldL.refl _) ?_
           refine any_skip 28 rfl (by first | rfl | decide +kernel) rfl (HeldL.refl _) ?_
           refine any_skip 29 rfl (by first | rfl | decide +kernel) rfl (HeldL.refl _) ?_
           refine any_skip 30 rfl (by first | rfl | decide +kernel) rfl (HeldL.refl _) ?_
           refine any_skip 31 rfl (by first | rfl | decide +kernel) rfl (HeldL.refl _) ?_
           refine any_skip 32 rfl (by first | rfl | decide +kernel) rfl (HeldL.refl _) ?_
           refine any_take 33 rfl (by first | rfl | decide +kernel) rfl (HeldL.refl _) (fun H' hH => OpOk.step (ok_pickb (t := true) (d := true) rfl rfl rfl)) ?_
           refine any_done rfl ?_
           refine keepK hK21 [2, 3, 5, 7, 128] (by dsimp) (by dsimp) ?_
           refine T.cond_true rfl ?_
           refine T.seq fun K22 hK22 => ?_
           refine T.region ?_
           refine rs rfl rfl (ok_moveb (c := false) (.inr rfl) rfl) ?_
           refine ro_nil ?_
           refine keepK hK22 [4] (by dsimp) (by dsimp) ?_
           refine T.ret (hQ _ _ _ rfl ?_).1 -- ret 9
           exact by (rw [decide_eq_false (fun h => by have h' := h.2.2.2.2.2.2.2 p (List.mem_of_getElem? hp); unfold PG at h'; omega)]; exact TEnt.fin [] (by decide) (by simp) rfl ⟨rfl, trivial⟩)
          ·(try simp only [dE] at hb)
           refine any_take 8 rfl (by first | rfl | decide +kernel) rfl (HeldL.refl _) (fun H' hH => OpOk.step (ok_fieldAddr rfl ti_api_Zone rfl rfl ti_Lapi_Par (by decide) rfl)) ?_
           refine any_take 9 rfl (by first | rfl | decide +kernel) rfl (HeldL.refl _) (fun H' hH => OpOk.step (ok_load rfl ti_Lapi_Par (locA_held hH rfl) rfl)) ?_
           refine any_take 10 rfl (by first | rfl | decide +kernel) rfl (HeldL.refl _) (fun H' hH => OpOk.step (ok_move (.inl rfl))) ?_
           refine any_take 11 rfl (by first | rfl | decide +kernel) rfl (HeldL.refl _) (fun H' hH => OpOk.step (by exact ok_index_map (F := PrC) rfl ti_Lapi_Par rfl ti_api_Par rfl rfl rfl hp (by simp [PrC]))) ?_
           refine any_take 12 rfl (by first | rfl | decide +kernel) rfl (HeldL.refl _) (fun H' hH => OpOk.step (ok_fieldAddr rfl ti_api_Par rfl rfl ti_int (by decide) rfl)) ?_
           refine any_take 13 rfl (by first | rfl | decide +kernel) rfl (HeldL.refl _) (fun H' hH => OpOk.step (ok_load rfl ti_int (locA_held hH rfl) rfl)) ?_
           refine any_take 14 rfl (by first | rfl | decide +kernel) rfl (HeldL.refl _) (fun H' hH => OpOk.step (ok_move (.inl rfl))) ?_
           refine any_take 15 rfl (by first | rfl | decide +kernel) rfl (HeldL.refl _) (fun H' hH => OpOk.step (ok_binOp rfl ti_int rfl)) ?_
           refine any_take 16 rfl (by first | rfl | decide +kernel) rfl (HeldL.refl _) (fun H' hH => OpOk.step (ok_pick rfl rfl)) ?_
           refine any_take_case 17 rfl (by first | rfl | decide +kernel) rfl (HeldL.refl _) (fun H' hH => OpOk.step (ok_moveb (.inl rfl) rfl)) (fun hb => ?_) (fun hb => ?_)
           ·(try simp only [dE] at hb)
            refine any_skip 18 rfl (by first | rfl | decide +kernel) rfl (HeldL.refl _) ?_
            refine any_skip 19 rfl (by first | rfl | decide +kernel) rfl (HeldL.refl _) ?_
            refine any_skip 20 rfl (by first | rfl | decide +kernel) rfl (HeldL.refl _) ?_
            refine any_skip 21 rfl (by first | rfl | decide +kernel) rfl (HeldL.refl _) ?_
            refine any_skip 22 rfl (by first | rfl | decide +kernel) rfl (HeldL.refl _) ?_
            refine any_skip 23 rfl (by first | rfl | decide +kernel) rfl (HeldL.refl _) ?_
            refine any_skip 24 rfl (by first | rfl | decide +kernel) rfl (HeldL.refl _) ?_
            refine any_skip 25 rfl (by first | rfl | decide +kernel) rfl (HeldL.refl _) ?_
            refine any_skip 26 rfl (by first | rfl | decide +kernel) rfl (HeldL.refl _) ?_
            refine any_skip 27 rfl (by first | rfl | decide +kernel) rfl (HeldL.refl _) ?_
            refine any_skip 28 rfl (by first | rfl | decide +kernel) rfl (HeldL.refl _) ?_
            refine any_skip 29 rfl (by first | rfl | decide +kernel) rfl (HeldL.refl _) ?_
            refine any_skip 30 rfl (by first | rfl | decide +kernel) rfl (HeldL.refl _) ?_
            refine any_skip 31 rfl (by first | rfl | decide +kernel) rfl (HeldL.refl _) ?_
            refine any_skip 32 rfl (by first | rfl | decide +kernel) rfl (HeldL.refl _) ?_
            refine any_take 33 rfl (by first | rfl | decide +kernel) rfl (HeldL.refl _) (fun H' hH => OpOk.step (ok_pickb (t := true) (d := true) rfl rfl rfl)) ?_
            refine any_done rfl ?_
            refine keepK hK21 [2, 3, 5, 7, 128] (by dsimp) (by dsimp) ?_
            refine T.cond_true rfl ?_
            refine T.seq fun K23 hK23 => ?_
            refine T.region ?_
            refine rs rfl rfl (ok_moveb (c := false) (.inr rfl) rfl) ?_
            refine ro_nil ?_
            refine keepK hK23 [4] (by dsimp) (by dsimp) ?_
            refine T.ret (hQ _ _ _ rfl ?_).1 -- ret 10
            exact by (rw [decide_eq_false (fun h => by have h' := h.2.2.2.2.2.2.2 p (List.mem_of_getElem? hp); unfold PG at h'; omega)]; exact TEnt.fin [] (by decide) (by simp) rfl ⟨rfl, trivial⟩)
           ·(try simp only [dE] at hb)
            refine any_take 18 rfl (by first | rfl | decide +kernel) rfl (HeldL.refl _) (fun H' hH => OpOk.step (ok_fieldAddr rfl ti_api_Zone rfl rfl ti_Lapi_Par (by decide) rfl)) ?_
            refine any_take 19 rfl (by first | rfl | decide +kernel) rfl (HeldL.refl _) (fun H' hH => OpOk.step (ok_load rfl ti_Lapi_Par (locA_held hH rfl) rfl)) ?_
            refine any_take 20 rfl (by first | rfl | decide +kernel) rfl (HeldL.refl _) (fun H' hH => OpOk.step (ok_move (.inl rfl))) ?_
            refine any_take 21 rfl (by first | rfl | decide +kernel) rfl (HeldL.refl _) (fun H' hH => OpOk.step (by exact ok_index_map (F := PrC) rfl ti_Lapi_Par rfl ti_api_Par rfl rfl rfl hp (by simp [PrC]))) ?_
            refine any_take 22 rfl (by first | rfl | decide +kernel) rfl (HeldL.refl _) (fun H' hH => OpOk.step (ok_fieldAddr rfl ti_api_Par rfl rfl ti_Luint8 (by decide) rfl)) ?_
            refine any_take 23 rfl (by first | rfl | decide +kernel) rfl (HeldL.refl _) (fun H' hH => OpOk.step (ok_load rfl ti_Luint8 (locA_held hH rfl) rfl)) ?_
            refine any_take 24 rfl (by first | rfl | decide +kernel) rfl (HeldL.refl _) (fun H' hH => OpOk.step (ok_len' rfl rfl ti_Luint8 rfl (by first | exact ints_length _ _ | exact rowsA_length _ _ | exact Cms_len _ | exact mapLen _ | rfl))) ?_
            refine any_take 25 rfl (by first | rfl | decide +kernel) rfl (HeldL.refl _) (fun H' hH => OpOk.step (ok_fieldAddr rfl ti_api_State rfl rfl ti_api_Conf (by decide) rfl)) ?_
            refine any_take 26 rfl (by first | rfl | decide +kernel) rfl (HeldL.refl _) (fun H' hH => OpOk.step (ok_fieldAddr rfl ti_api_Conf rfl rfl ti_int (by decide) rfl)) ?_
            refine any_take 27 rfl (by first | rfl | decide +kernel) rfl (HeldL.refl _) (fun H' hH => OpOk.step (ok_load rfl ti_int (locA_held hH rfl) rfl)) ?_
            refine any_take 28 rfl (by first | rfl | decide +kernel) rfl (HeldL.refl _) (fun H' hH => OpOk.step (ok_fieldAddr rfl ti_api_State rfl rfl ti_api_Conf (by decide) rfl)) ?_
            refine any_take 29 rfl (by first | rfl | decide +kernel) rfl (HeldL.refl _) (fun H' hH => OpOk.step (ok_fieldAddr rfl ti_api_Conf rfl rfl ti_int (by decide) rfl)) ?_
            refine any_take 30 rfl (by first | rfl | decide +kernel) rfl (HeldL.refl _) (fun H' hH => OpOk.step (ok_load rfl ti_int (locA_held hH rfl) rfl)) ?_
            refine any_take 31 rfl (by first | rfl | decide +kernel) rfl (HeldL.refl _) (fun H' hH => OpOk.step (ok_mul64 rfl ti_int rfl rfl (by omega) (by omega))) ?_
            refine any_take 32 rfl (by first | rfl | decide +kernel) rfl (HeldL.refl _) (fun H' hH => OpOk.step (ok_binOp rfl ti_int rfl)) ?_
            refine any_take 33 rfl (by first | rfl | decide +kernel) rfl (HeldL.refl _) (fun H' hH => OpOk.step (ok_pick rfl rfl)) ?_
            refine any_done rfl ?_
            refine keepK hK21 [2, 3, 5, 7, 128] (by dsimp) (by dsimp) ?_
            refine T.cond rfl (fun hc => ?_) (fun hc => ?_) -- cond 4
            ·(try simp only [dE] at hc)
             refine T.seq fun K24 hK24 => ?_
             refine T.region ?_
             refine rs rfl rfl (ok_moveb (c := false) (.inr rfl) rfl) ?_
             refine ro_nil ?_
             refine keepK hK24 [4] (by dsimp) (by dsimp) ?_
             refine T.ret (hQ _ _ _ rfl ?_).1 -- ret 11
             exact by (rw [decide_eq_false (fun h => by have h' := h.2.2.2.2.2.2.2 p (List.mem_of_getElem? hp); unfold PG at h'; omega)]; exact TEnt.fin [] (by decide) (by simp) rfl ⟨rfl, trivial⟩)
            ·(try simp only [dE] at hc)
             refine T.skip ?_
             refine keepK hK20 [2, 3, 5, 7] (by dsimp) (by dsimp) ?_
             refine T.region ?_
             refine rs rfl rfl (ok_move (.inl rfl)) ?_
             refine rs rfl rfl (ok_add64 rfl ti_int rfl rfl (by omega) (by omega)) ?_
             refine rs rfl rfl (ok_move (.inr rfl)) ?_
             refine ro_nil ?_
             exact ⟨i + 1, ⟨by omega, all_snoc hp hall ⟨by omega, by omega⟩⟩, by omega, TEnt.toH rfl ⟨rfl, rfl, rfl, rfl, trivial⟩⟩
         ·(try simp only [dE] at hc)
          rw [Prs_len] at hc
          have hin : i = z.pars.length := by omega
          rw [hin, List.take_length] at hall
          refine T.exit ?_
          refine keepK hK16 [] (by dsimp) (by dsimp) ?_
          refine T.seq fun K25 hK25 => ?_
          refine T.region ?_
          refine rs rfl rfl (ok_moveb (c := true) (.inr rfl) rfl) ?_
          refine ro_nil ?_
          refine keepK hK25 [4] (by dsimp) (by dsimp) ?_
          refine T.ret (hQ _ _ _ rfl ?_).1 -- ret 12
          exact by (rw [decide_eq_true (RZ_iff h17 hq4 hall)]; exact TEnt.fin [] (by decide) (by simp) rfl ⟨rfl, trivial⟩)
end Go.Proofs.YtjklgbafnfoolaaGreat.AmF
