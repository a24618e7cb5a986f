/- Walks over the abstract machine: law 5: the page's example; more than is asked. -/
import Derived.Test.YtlegolcbjjjofaaAfZdev7
import Derived.Test.YtlegolcbjjjofaaAfBasea
namespace Go.Proofs.Ytlegolcbjjjofaa.AmF
open Go Go.AM
set_option maxRecDepth 100000
set_option maxHeartbeats 4000000
set_option linter.unusedSimpArgs false
set_option linter.unusedVariables false
attribute [local simp] tkeep tget tput ev cav argsTM pickA normT putA splice AV.cells ints_length rowsA_length Zqs_len
theorem dv_call {f : FuncId} {args args' : List AV} {d d' : Dv} {x : AV} {R : Heap} (h : CSpec Try.prog f [DvB d 1, ZqsB d.zs] args' [some (DvB d' 1), some (ZqsB d'.zs)] x) (ha : renL (pos [0, 1]) args = args') (hx : ∀ ρ, x.ren ρ = x) : CallOk Try.prog f (some (DvB d 1) :: some (ZqsB d.zs) :: R) args x (some (DvB d' 1) :: some (ZqsB d'.zs) :: R) := by
  refine (h.pass (H := some (DvB d 1) :: some (ZqsB d.zs) :: R) [0, 1] (by decide) (by simp) (by show [_, _] = _; exact dv_in (by decide)) ha).eq (hx _) ?_
  show some (Blk.ren _ (DvB d' 1)) :: some (Blk.ren _ (ZqsB d'.zs)) :: R ++ [] = _
  rw [List.append_nil, ZqsB_ren]
  exact congrArg (· :: _) (DvB_ren rfl _)
theorem nz_ok : ∀ z ∈ (newD 2 4 1 1).zs, ZqOk z ∧ z.data.length ≤ 8000000 := by
  intro z hz
  obtain ⟨_, rfl⟩ := List.mem_replicate.1 hz
  exact ⟨⟨by simp [nz], by simp [nz], by simp [nz]⟩, by simp [nz]⟩
def lvD1 : Dv := ⟨[⟨4, 1, [1], 0, false⟩, ⟨4, 1, [], 0, false⟩], 1, false, 0⟩
def lvD2 : Dv := ⟨[⟨4, 1, [1], 0, false⟩, ⟨4, 1, [], 0, false⟩], 1, false, 1⟩
theorem lv1 : appD (newD 2 4 1 1) 0 [1] = (lvD1, 0) := by rfl
theorem lv2 : appD lvD1 1 [1] = (lvD2, 8) := by rfl
theorem lv3 : actN lvD2.zs = 1 := by rfl
theorem lv1_ok : ∀ z ∈ lvD1.zs, ZqOk z ∧ z.data.length ≤ 8000000 := by
  intro z hz
  simp only [lvD1, List.mem_cons, List.not_mem_nil, or_false] at hz
  rcases hz with rfl | rfl <;> exact ⟨⟨by decide, by decide, by decide⟩, by decide⟩
theorem lvapp1 : CSpec Try.prog 14 [DvB (newD 2 4 1 1) 1, ZqsB (newD 2 4 1 1).zs] [.ref 0 0 0, .int 0, .fz 1 (ints .u8 [1])] [some (DvB lvD1 1), some (ZqsB lvD1.zs)] (.int 0) := by
  have h := zdapp_ok (newD 2 4 1 1) 0 [1] nz_ok (by decide) (by decide) (by decide)
  rw [lv1] at h; exact h
theorem lvapp2 : CSpec Try.prog 14 [DvB lvD1 1, ZqsB lvD1.zs] [.ref 0 0 0, .int 1, .fz 1 (ints .u8 [1])] [some (DvB lvD2 1), some (ZqsB lvD2.zs)] (.int 8) := by
  have h := zdapp_ok lvD1 1 [1] lv1_ok (by decide) (by decide) (by decide)
  rw [lv2] at h; exact h
theorem newD_call {n : Nat} {cap blk lim : Int} (hn : 1 ≤ n ∧ n ≤ 64) (hc1 : 1 ≤ cap ∧ cap ≤ 4096) (hb1 : 1 ≤ blk ∧ blk ≤ 4096) (hl : 1 ≤ lim) : CallOk Try.prog 10 [] [.int n, .int cap, .int blk, .int lim] (.tup [.ref 0 0 0, .int 0]) [some (DvB (newD n cap blk lim) 1), some (ZqsB (newD n cap blk lim).zs)] :=
  (zdnew_ok n cap blk lim hn hc1 hb1 hl).fresh (H := []) rfl rfl (by show [_, _] = _; exact hp2 (DvB_ren rfl _) (ZqsB_ren _ _))
theorem code5_ok (n : Int) : CSpec Try.prog 12 [] [.int n] [] (.int n) := by
 refine CSpec.body Try.func12 rfl rfl rfl rfl rfl fun Q hQ => ?_
 refine T.seq fun K1 hK1 => ?_
 refine T.region ?_
 refine rs rfl rfl (ok_move (.inr rfl)) ?_
 refine ro_nil ?_
 refine keepK hK1 [0] (by dsimp) (by dsimp) ?_
 refine T.seq fun K2 hK2 => ?_
 refine T.region ?_
 refine rs rfl rfl (ok_move (.inl rfl)) ?_
 refine rs rfl rfl (ok_move (.inr rfl)) ?_
 refine ro_nil ?_
 refine keepK hK2 [2] (by dsimp) (by dsimp) ?_
 refine T.ret (hQ _ _ _ rfl ?_).1 -- ret 1
 exact TEnt.fin [] (by decide) (by simp) rfl ⟨rfl, trivial⟩
theorem live5_ok : CSpec Try.prog 13 [] [] [] (.b true) := by
 refine CSpec.body Try.func13 rfl rfl rfl rfl rfl fun Q hQ => ?_
 refine T.seq fun K1 hK1 => ?_
 refine T.region ?_
 refine rs rfl rfl (ok_moveb (c := false) (.inr rfl) rfl) ?_
 refine ro_nil ?_
 refine keepK hK1 [] (by dsimp) (by dsimp) ?_
 refine T.seq fun K2 hK2 => ?_
 refine T.region ?_
 refine ro rfl rfl (ok_call rfl rfl rfl (newD_call (n := 2) (by decide) (by decide) (by decide) (by decide))) ?_
 refine rs rfl rfl (ok_move (.inl rfl)) ?_
 refine rs rfl rfl (ok_extract rfl rfl rfl) ?_
 refine rs rfl rfl (ok_extract rfl rfl rfl) ?_
 refine rs rfl rfl (ok_move (.inr rfl)) ?_
 refine rs rfl rfl (ok_move (.inr rfl)) ?_
 refine ro_nil ?_
 refine keepK hK2 [1, 2] (by dsimp) (by dsimp) ?_
 refine T.seq fun K3 hK3 => ?_
 refine T.region ?_
 refine rs rfl rfl (ok_move (.inl rfl)) ?_
 refine rs rfl rfl (((ok_buildSlice (n := 1) (ps := #[(0, .const (.int .u8 1))]) rfl ti_Luint8 rfl ti_uint8 (by decide) rfl rfl (by decide) rfl rfl rfl).frz rfl rfl).eq (x' := .fz 1 (ints .u8 [1])) (H'' := [some (DvB (newD 2 4 1 1) 1), some (ZqsB (newD 2 4 1 1).zs), some ⟨1, false, ints .u8 [1]⟩]) rfl rfl) ?_
 refine ro rfl rfl (ok_call rfl rfl rfl (dv_call lvapp1 rfl (fun _ => rfl))) ?_
 refine rs rfl rfl (ok_move (.inl rfl)) ?_
 refine rs rfl rfl (((ok_buildSlice (n := 1) (ps := #[(0, .const (.int .u8 1))]) rfl ti_Luint8 rfl ti_uint8 (by decide) rfl rfl (by decide) rfl rfl rfl).frz rfl rfl).eq (x' := .fz 1 (ints .u8 [1])) (H'' := [some (DvB lvD1 1), some (ZqsB lvD1.zs), some ⟨1, false, ints .u8 [1]⟩, some ⟨1, false, ints .u8 [1]⟩]) rfl rfl) ?_
 refine ro rfl rfl (ok_call rfl rfl rfl (dv_call lvapp2 rfl (fun _ => rfl))) ?_
 refine rs rfl rfl (ok_move (.inr rfl)) ?_
 refine rs rfl rfl (ok_move (.inr rfl)) ?_
 refine ro_nil ?_
 refine keepK hK3 [1, 2, 3, 4] (by dsimp) (by dsimp) ?_
 refine T.seq fun K4 hK4 => ?_
 refine T.region ?_
 refine rs rfl rfl (ok_move (.inl rfl)) ?_
 refine ro rfl rfl (ok_call rfl rfl rfl ((code5_ok 0).plain rfl rfl)) ?_
 refine rs rfl rfl (ok_move (.inl rfl)) ?_
 refine ro rfl rfl (ok_call rfl rfl rfl ((code5_ok 0).plain rfl rfl)) ?_
 refine rs rfl rfl (ok_add64 rfl ti_int rfl rfl (by omega) (by omega)) ?_
 refine rs rfl rfl (ok_binOp rfl ti_int rfl) ?_
 refine rs rfl rfl (OpOk.bool (d := true) (ok_moveb (.inl rfl) rfl) (rfl)) ?_
 refine rs rfl rfl (ok_move (.inl rfl)) ?_
 refine ro rfl rfl (ok_call rfl rfl rfl ((code5_ok 8).plain rfl rfl)) ?_
 refine rs rfl rfl (ok_binOp rfl ti_int rfl) ?_
 refine rs rfl rfl (ok_pick rfl rfl) ?_
 refine rs rfl rfl (OpOk.bool (d := true) (ok_moveb (.inl rfl) rfl) (rfl)) ?_
 refine rs rfl rfl (ok_move (.inl rfl)) ?_
 refine ro rfl rfl (ok_call rfl rfl rfl (dv_call (zdbad_ok lvD2) rfl (fun _ => rfl))) ?_
 refine rs rfl rfl (ok_binOp rfl ti_int rfl) ?_
 refine rs rfl rfl (ok_pick rfl rfl) ?_
 refine rs rfl rfl (OpOk.bool (d := true) (ok_moveb (.inl rfl) rfl) (rfl)) ?_
 refine rs rfl rfl (ok_move (.inl rfl)) ?_
 refine ro rfl rfl (ok_call rfl rfl rfl ((dv_call (active_ok lvD2 (fun z hz => (lv1_ok z hz).1) (by decide) rfl) rfl (fun _ => rfl)).eq (x' := .int 1) rfl rfl)) ?_
 refine rs rfl rfl (ok_binOp rfl ti_int rfl) ?_
 refine rs rfl rfl (ok_pick rfl rfl) ?_
 refine rs rfl rfl (OpOk.bool (d := true) (ok_moveb (.inr rfl) rfl) (rfl)) ?_
 refine ro_nil ?_
 refine keepK hK4 [0] (by dsimp) (by dsimp) ?_
 refine T.ret (hQ _ _ _ rfl ?_).1 -- ret 1
 exact TEnt.fin [] (by decide) (by simp) rfl ⟨rfl, trivial⟩
/-- A call. -/
structure Ax where
  dn : Int
  z : Int
  b : List Int
  pl : Int
  n : Int
def AxC (a : Ax) : List AV := [.int a.dn, .int a.z, .fz 1 (ints .u8 a.b), .int a.pl, .int a.n]
def Axs (l : List Ax) : List AV := l.map fun a => .agg (AxC a)
theorem Axs_len (l : List Ax) : (Axs l).length = l.length := by simp [Axs]
theorem Axs_get {l : List Ax} {i : Nat} {a : Ax} (h : l[i]? = some a) : (Axs l)[i]? = some (.agg (AxC a)) := by simp [Axs, h]
theorem Axs_ren (ρ : Nat → Option Nat) (l : List Ax) : renL ρ (Axs l) = Axs l := by
  rw [Axs, renL_map]; simp [AxC, AV.ren, renL, renL_ints]
/-- How much the first so many calls have. -/
def sizeX (l : List Ax) : Nat := (l.map fun a => a.b.length).sum
theorem sizeX_snoc {l : List Ax} {i : Nat} {a : Ax} (h : l[i]? = some a) : sizeX (l.take (i + 1)) = sizeX (l.take i) + a.b.length := by
  unfold sizeX
  rw [take_succ_get h]
  simp
theorem sizeX_one {l : List Ax} {a : Ax} (h : a ∈ l) : a.b.length ≤ sizeX l := by
  induction l with
  | nil => cases h
  | cons x l ih =>
    have e : sizeX (x :: l) = x.b.length + sizeX l := by simp [sizeX]
    rcases List.mem_cons.1 h with rfl | h
    · omega
    · have := ih h; omega
def muchX (l : List Ax) : Prop := l.length > 30 ∨ ∃ i, i ≤ 40 ∧ i ≤ l.length ∧ sizeX (l.take i) > 2000
theorem muchX_bd {l : List Ax} (h : ¬ muchX l) : l.length ≤ 30 ∧ sizeX l ≤ 2000 := by
  unfold muchX at h
  have h1 : ¬ l.length > 30 := fun h' => h (.inl h')
  refine ⟨by omega, ?_⟩
  rcases Nat.lt_or_ge 2000 (sizeX l) with h2 | h2
  · exact absurd (Or.inr ⟨l.length, by omega, Nat.le_refl _, by rw [List.take_length]; exact h2⟩) h
  · exact h2
noncomputable def muchXv (l : List Ax) : Bool := @decide (muchX l) (Classical.propDecidable _)
theorem muchXv_t {l : List Ax} (h : muchX l) : muchXv l = true := by unfold muchXv; exact @decide_eq_true _ (Classical.propDecidable _) h
theorem muchXv_f {l : List Ax} (h : ¬ muchX l) : muchXv l = false := by unfold muchXv; exact @decide_eq_false _ (Classical.propDecidable _) h
theorem muchXv_no {l : List Ax} (h : muchXv l = false) : ¬ muchX l := fun h' => by rw [muchXv_t h'] at h; cases h
theorem muchXv_len {l : List Ax} (h : ∀ j, j ≤ 40 → j ≤ l.length → sizeX (l.take j) ≤ 2000) : muchXv l = decide ((l.length : Int) > 30) := by
  by_cases hl : l.length > 30
  · rw [muchXv_t (.inl hl), decide_eq_true (by omega)]
  · rw [muchXv_f, decide_eq_false (by omega)]
    rintro (h1 | ⟨j, h1, h2, h3⟩)
    · exact hl h1
    · have := h j h1 h2; omega
theorem much5_ok (l : List Ax) (hl : l.length ≤ 140737488355328) (hs : ∀ a ∈ l, a.b.length ≤ 140737488355328) : CSpec Try.prog 11 [] [.fz 5 (Axs l)] [] (.b (muchXv l)) := by
 refine CSpec.body Try.func11 rfl rfl rfl rfl rfl fun Q hQ => ?_
 refine T.seq fun K1 hK1 => ?_
 refine T.region ?_
 refine rs rfl rfl (ok_moveb (c := false) (.inr rfl) rfl) ?_
 refine ro_nil ?_
 refine keepK hK1 [0] (by dsimp) (by dsimp) ?_
 refine T.seq fun K2 hK2 => ?_
 refine T.region ?_
 refine rs rfl rfl (ok_move (.inr rfl)) ?_
 refine ro_nil ?_
 refine keepK hK2 [0, 3] (by dsimp) (by dsimp) ?_
 refine T.seq fun K3 hK3 => ?_
 refine T.seq fun K4 hK4 => ?_
 refine T.region ?_
 refine rs rfl rfl (ok_move (.inr rfl)) ?_
 refine ro_nil ?_
 refine keepK hK4 [0, 3, 4] (by dsimp) (by dsimp) ?_
 refine T.block ?_
 refine T.loopI (ι := Nat) (fun i => i ≤ l.length ∧ i ≤ 40 ∧ ∀ j, j ≤ i → sizeX (l.take j) ≤ 2000) (fun i => l.length - i) (fun i => ([(0, .fz 5 (Axs l)), (3, .int (sizeX (l.take i))), (4, .int i)], [])) 0 ⟨Nat.zero_le _, by omega, fun j hj => by have h0 : j = 0 := (by omega); rw [h0]; simp [sizeX]⟩ (TEnt.toH rfl ⟨rfl, rfl, rfl, trivial⟩) (fun i hi => ?_) -- loop 1
 obtain ⟨hi, hi60, hall⟩ := hi
 refine T.seq fun K5 hK5 => ?_
 refine T.seq fun K6 hK6 => ?_
 refine T.region ?_
 refine rs rfl rfl (ok_move (.inl rfl)) ?_
 refine rs rfl rfl (ok_move (.inl rfl)) ?_
 refine rs rfl rfl (ok_len' rfl rfl ti_Lrevetmentlaw05_Act rfl (Axs_len l)) ?_
 refine rs rfl rfl (ok_binOp rfl ti_int rfl) ?_
 refine ro_case rfl rfl (OpOk.step (ok_moveb (.inl rfl) rfl)) (fun hb => ?_) (fun hb => ?_)
 ·(try simp only [dE] at hb)
  refine rs rfl rfl (ok_move (.inl rfl)) ?_
  refine rs rfl rfl (ok_binOp rfl ti_int rfl) ?_
  refine rs rfl rfl (ok_pick rfl rfl) ?_
  refine ro_nil ?_
  refine keepK hK6 [0, 3, 4, 12] (by dsimp) (by dsimp) ?_
  refine T.cond rfl (fun hc => ?_) (fun hc => ?_) -- cond 1
  ·(try simp only [dE] at hc)
   obtain ⟨a, ha⟩ : ∃ a, l[i]? = some a := ⟨_, List.getElem?_eq_getElem (by omega)⟩
   have hk := hs a (List.mem_of_getElem? ha)
   have hsn := sizeX_snoc ha
   have hn := hall i (Nat.le_refl _)
   refine T.skip ?_
   refine keepK hK5 [0, 3, 4] (by dsimp) (by dsimp) ?_
   refine T.seq fun K7 hK7 => ?_
   refine T.block ?_
   refine T.seq fun K8 hK8 => ?_
   refine T.region ?_
   refine rs rfl rfl (ok_move (.inl rfl)) ?_
   refine rs rfl rfl (ok_move (.inl rfl)) ?_
   refine rs rfl rfl (ok_move (.inl rfl)) ?_
   refine rs rfl rfl (by exact ok_index_fz rfl ti_Lrevetmentlaw05_Act rfl ti_revetmentlaw05_Act rfl rfl rfl (by omega) (Axs_get ha) rfl) ?_
   refine rs rfl rfl (ok_fieldAddr rfl ti_revetmentlaw05_Act rfl rfl ti_Luint8 (by decide) rfl) ?_
   refine rs rfl rfl (ok_load rfl ti_Luint8 rfl rfl) ?_
   refine rs rfl rfl (ok_len' rfl rfl ti_Luint8 rfl (by first | exact ints_length _ _ | exact rowsA_length _ _ | exact Cms_len _ | exact mapLen _ | rfl)) ?_
   refine rs rfl rfl ((ok_add64 rfl ti_int rfl rfl (by omega) (by omega)).eq (x' := .int (sizeX (l.take (i + 1)))) (congrArg AV.int (by rw [hsn]; omega)) rfl) ?_
   refine rs rfl rfl (ok_move (.inr rfl)) ?_
   refine ro_nil ?_
   refine keepK hK8 [0, 3, 4] (by dsimp) (by dsimp) ?_
   refine T.seq fun K9 hK9 => ?_
   refine T.region ?_
   refine rs rfl rfl (ok_move (.inl rfl)) ?_
   refine rs rfl rfl (ok_binOp rfl ti_int rfl) ?_
   refine ro_nil ?_
   refine keepK hK9 [0, 3, 4, 24] (by dsimp) (by dsimp) ?_
   refine T.cond rfl (fun hc => ?_) (fun hc => ?_) -- cond 2
   ·(try simp only [dE] at hc)
    rw [muchXv_t (.inr ⟨i + 1, by omega, by omega, by omega⟩)] at hQ
    refine T.seq fun K10 hK10 => ?_
    refine T.region ?_
    refine rs rfl rfl (ok_moveb (c := true) (.inr rfl) rfl) ?_
    refine ro_nil ?_
    refine keepK hK10 [2] (by dsimp) (by dsimp) ?_
    refine T.ret (hQ _ _ _ rfl ?_).1 -- ret 1
    exact TEnt.fin [] (by decide) (by simp) rfl ⟨rfl, trivial⟩
   ·(try simp only [dE] at hc)
    refine T.skip ?_
    refine keepK hK7 [0, 3, 4] (by dsimp) (by dsimp) ?_
    refine T.region ?_
    refine rs rfl rfl (ok_move (.inl rfl)) ?_
    refine rs rfl rfl (ok_add64 rfl ti_int rfl rfl (by omega) (by omega)) ?_
    refine rs rfl rfl (ok_move (.inr rfl)) ?_
    refine ro_nil ?_
    exact ⟨i + 1, ⟨by omega, by omega, fun j hj => by
      rcases Nat.lt_or_ge j (i + 1) with h | h
      · exact hall j (by omega)
      · obtain rfl : j = i + 1 := by omega
        omega⟩, by omega, TEnt.toH rfl ⟨rfl, rfl, rfl, trivial⟩⟩
  ·(try simp only [dE] at hc)
   rw [muchXv_len (fun j h1 h2 => hall j (by omega))] at hQ
   refine T.exit ?_
   refine keepK hK3 [0] (by dsimp) (by dsimp) ?_
   refine T.seq fun K11 hK11 => ?_
   refine T.region ?_
   refine rs rfl rfl (ok_move (.inl rfl)) ?_
   refine rs rfl rfl (ok_len' rfl rfl ti_Lrevetmentlaw05_Act rfl (Axs_len l)) ?_
   refine rs rfl rfl (ok_binOp rfl ti_int rfl) ?_
   refine rs rfl rfl (ok_move (.inr rfl)) ?_
   refine ro_nil ?_
   refine keepK hK11 [2] (by dsimp) (by dsimp) ?_
   refine T.ret (hQ _ _ _ rfl ?_).1 -- ret 2
   exact TEnt.fin [] (by decide) (by simp) rfl ⟨rfl, trivial⟩
 ·(try simp only [dE] at hb)
  have hil : i = l.length := by omega
  rw [muchXv_len (fun j h1 h2 => hall j (by omega))] at hQ
  refine ro_skip rfl rfl ?_
  refine ro_skip rfl rfl ?_
  refine rs rfl rfl (ok_pickb (t := false) (d := false) rfl rfl rfl) ?_
  refine ro_nil ?_
  refine keepK hK6 [0, 3, 4, 12] (by dsimp) (by dsimp) ?_
  refine T.cond_false rfl ?_
  refine T.exit ?_
  refine keepK hK3 [0] (by dsimp) (by dsimp) ?_
  refine T.seq fun K12 hK12 => ?_
  refine T.region ?_
  refine rs rfl rfl (ok_move (.inl rfl)) ?_
  refine rs rfl rfl (ok_len' rfl rfl ti_Lrevetmentlaw05_Act rfl (Axs_len l)) ?_
  refine rs rfl rfl (ok_binOp rfl ti_int rfl) ?_
  refine rs rfl rfl (ok_move (.inr rfl)) ?_
  refine ro_nil ?_
  refine keepK hK12 [2] (by dsimp) (by dsimp) ?_
  refine T.ret (hQ _ _ _ rfl ?_).1 -- ret 3
  exact TEnt.fin [] (by decide) (by simp) rfl ⟨rfl, trivial⟩
end Go.Proofs.Ytlegolcbjjjofaa.AmF
