/- Walks over the abstract machine: states of the log: which may be. -/
import Derived.Test.YtlegolcbjjjofaaAm18
import Derived.Test.YtlegolcbjjjofaaAfMore
import Derived.Test.YtlegolcbjjjofaaAfReca
import Derived.Test.YtlegolcbjjjofaaAfConf
namespace Go.Proofs.Ytlegolcbjjjofaa.AmF
open Go Go.AM
set_option maxRecDepth 100000
set_option linter.unusedSimpArgs false
set_option linter.unusedVariables false
attribute [local simp] tkeep tget tput ev cav argsTM pickA normT putA splice AV.cells ints_length rowsA_length
/-- A parity of the log. -/
structure Pr where
  w : Int
  b : List Int
def PrC (p : Pr) : List AV := [.int p.w, .fz 1 (ints .u8 p.b)]
theorem PrC_ren (ρ : Nat → Option Nat) (p : Pr) : renL ρ (PrC p) = PrC p := by simp [PrC, renL, AV.ren, renL_ints]
def Prs (l : List Pr) : List AV := l.map fun p => .agg (PrC p)
theorem Prs_len (l : List Pr) : (Prs l).length = l.length := by simp [Prs]
theorem Prs_get {l : List Pr} {i : Nat} {p : Pr} (h : l[i]? = some p) : (Prs l)[i]? = some (.agg (PrC p)) := by simp [Prs, h]
theorem Prs_ren (ρ : Nat → Option Nat) (l : List Pr) : renL ρ (Prs l) = Prs l := by
  rw [renL_map]; simp [Prs, AV.ren, PrC_ren]
/-- A logical zone, as the log tells of it. -/
structure Zn where
  gen : Int
  slot : Int
  full : Bool
  w : Int
  whole : Bool
  pars : List Pr
def ZnC (z : Zn) : List AV := [.int z.gen, .int z.slot, .b z.full, .int z.w, .b z.whole, .fz 2 (Prs z.pars)]
theorem ZnC_ren (ρ : Nat → Option Nat) (z : Zn) : renL ρ (ZnC z) = ZnC z := by simp [ZnC, renL, AV.ren, Prs_ren]
def ZnB (z : Zn) : Blk := ⟨6, true, [.agg (ZnC z)]⟩
theorem ZnB_ren (ρ : Nat → Option Nat) (z : Zn) : Blk.ren ρ (ZnB z) = ZnB z := by simp [ZnB, Blk.ren, renL, AV.ren, ZnC_ren]
def Zns (l : List Zn) : List AV := l.map fun z => .agg (ZnC z)
theorem Zns_len (l : List Zn) : (Zns l).length = l.length := by simp [Zns]
theorem Zns_get {l : List Zn} {i : Nat} {z : Zn} (h : l[i]? = some z) : (Zns l)[i]? = some (.agg (ZnC z)) := by simp [Zns, h]
theorem Zns_ren (ρ : Nat → Option Nat) (l : List Zn) : renL ρ (Zns l) = Zns l := by
  rw [renL_map]; simp [Zns, AV.ren, ZnC_ren]
/-- A state. -/
structure St where
  c : Cf
  ep : Int
  sq : Int
  st : List Int
  zs : List Zn
def StC (s : St) : List AV := CC s.c ++ [.int s.ep, .int s.sq, .fz 1 (ints .i64 s.st), .fz 6 (Zns s.zs)]
theorem StC_ren (ρ : Nat → Option Nat) (s : St) : renL ρ (StC s) = StC s := by
  simp only [StC, renL_map, List.map_append]
  rw [← renL_map, CC_ren]
  simp [AV.ren, renL_ints, Zns_ren]
def StB (s : St) : Blk := ⟨15, true, [.agg (StC s)]⟩
theorem StB_ren (ρ : Nat → Option Nat) (s : St) : Blk.ren ρ (StB s) = StB s := by simp [StB, Blk.ren, renL, AV.ren, StC_ren]
attribute [local simp] Prs_len Zns_len
/-- The first place at which it is so; -1: none. -/
def fIdx {α : Type} (p : α → Bool) (l : List α) : Int := match l.findIdx? p with
  | some i => (i : Int)
  | none => -1
theorem fIdx_hit {α : Type} {p : α → Bool} {l : List α} {i : Nat} {x : α} (hx : l[i]? = some x) (hp : p x = true) (h : ∀ y ∈ l.take i, p y = false) : fIdx p l = i := by
  have hi := (List.getElem?_eq_some_iff.1 hx).1
  have : l.findIdx? p = some i := by
    rw [List.findIdx?_eq_some_iff_getElem]
    refine ⟨hi, ?_, fun j hj => ?_⟩
    · rw [(List.getElem?_eq_some_iff.1 hx).2]; exact hp
    · have := h l[j] (by rw [List.mem_iff_getElem?]; exact ⟨j, by rw [List.getElem?_take, if_pos hj, List.getElem?_eq_getElem (by omega)]⟩)
      rw [this]; decide
  unfold fIdx
  rw [this]
theorem fIdx_none {α : Type} {p : α → Bool} {l : List α} (h : ∀ y ∈ l, p y = false) : fIdx p l = -1 := by
  have : l.findIdx? p = none := by rw [List.findIdx?_eq_none_iff]; exact h
  unfold fIdx
  rw [this]
theorem fIdx_iff {α : Type} (p : α → Bool) (l : List α) : 0 ≤ fIdx p l ↔ ∃ x ∈ l, p x = true := by
  cases h : l.findIdx? p with
  | none =>
    have e : fIdx p l = -1 := by unfold fIdx; rw [h]
    rw [List.findIdx?_eq_none_iff] at h
    rw [e]
    constructor
    · intro h; omega
    · rintro ⟨x, hx, hp⟩; rw [h x hx] at hp; cases hp
  | some i =>
    have e : fIdx p l = i := by unfold fIdx; rw [h]
    rw [List.findIdx?_eq_some_iff_getElem] at h
    obtain ⟨hi, hp, _⟩ := h
    rw [e]
    exact ⟨fun _ => ⟨_, List.getElem_mem hi, hp⟩, fun _ => by omega⟩
theorem fIdx_bd {α : Type} (p : α → Bool) (l : List α) : -1 ≤ fIdx p l ∧ fIdx p l < l.length ∨ fIdx p l = -1 := by
  cases h : l.findIdx? p with
  | none => right; unfold fIdx; rw [h]
  | some i =>
    have e : fIdx p l = i := by unfold fIdx; rw [h]
    rw [List.findIdx?_eq_some_iff_getElem] at h
    left; rw [e]; have := h.1; omega
theorem take_snoc_all {α : Type} {p : α → Bool} {l : List α} {i : Nat} {x : α} (hx : l[i]? = some x) (h : ∀ y ∈ l.take i, p y = false) (hp : p x = false) : ∀ y ∈ l.take (i + 1), p y = false := by
  rw [take_succ_get hx]
  intro y hy
  rcases List.mem_append.1 hy with hy | hy
  · exact h y hy
  · rw [List.mem_singleton.1 hy]; exact hp
theorem sin_ok (n a b : Int) : CSpec Try.prog 62 [] [.int n, .int a, .int b] [] (.b (decide (a ≤ n ∧ n ≤ b))) := by
 refine CSpec.body Try.func62 rfl rfl rfl rfl rfl fun Q hQ => ?_
 refine T.seq fun K1 hK1 => ?_
 refine T.region ?_ -- region 0
 refine ro rfl rfl (OpOk.step (ok_moveb (c := false) (.inr rfl) rfl)) ?_
 refine ro_nil ?_
 refine keepK hK1 [0, 1, 2] (by dsimp) (by dsimp) ?_
 refine T.seq fun K2 hK2 => ?_
 refine T.region ?_ -- region 1
 refine ro rfl rfl (OpOk.step (ok_move (.inl rfl))) ?_
 refine ro rfl rfl (OpOk.step (ok_move (.inl rfl))) ?_
 refine ro rfl rfl (OpOk.step (ok_binOp rfl ti_int rfl)) ?_
 refine ro_case rfl rfl (OpOk.step (ok_moveb (.inl rfl) rfl)) (fun hb => ?_) (fun hb => ?_)
 ·(try simp only [dE] at hb)
  refine ro rfl rfl (OpOk.step (ok_move (.inl rfl))) ?_
  refine ro rfl rfl (OpOk.step (ok_move (.inl rfl))) ?_
  refine ro rfl rfl (OpOk.step (ok_binOp rfl ti_int rfl)) ?_
  refine ro rfl rfl (OpOk.step (ok_pick rfl rfl)) ?_
  refine ro rfl rfl (OpOk.step (ok_move (.inr rfl))) ?_
  refine ro_nil ?_
  refine keepK hK2 [6] (by dsimp) (by dsimp) ?_
  refine T.ret (hQ _ _ _ rfl ?_).1 -- ret 1
  first
    | (rw [decide_eq_false (by omega)]; exact TEnt.toH rfl ⟨rfl, trivial⟩)
    | (have e : decide (a ≤ n ∧ n ≤ b) = decide (n ≤ b) := decide_eq_decide.2 (by omega)
       rw [e]; exact TEnt.toH rfl ⟨rfl, trivial⟩)
 ·(try simp only [dE] at hb)
  refine ro_skip rfl rfl ?_
  refine ro_skip rfl rfl ?_
  refine ro_skip rfl rfl ?_
  refine ro rfl rfl (OpOk.step (ok_pickb (t := false) (d := false) rfl rfl rfl)) ?_
  refine ro rfl rfl (OpOk.step (ok_moveb (c := false) (.inr rfl) rfl)) ?_
  refine ro_nil ?_
  refine keepK hK2 [6] (by dsimp) (by dsimp) ?_
  refine T.ret (hQ _ _ _ rfl ?_).1 -- ret 2
  first
    | (rw [decide_eq_false (by omega)]; exact TEnt.toH rfl ⟨rfl, trivial⟩)
    | (have e : decide (a ≤ n ∧ n ≤ b) = decide (n ≤ b) := decide_eq_decide.2 (by omega)
       rw [e]; exact TEnt.toH rfl ⟨rfl, trivial⟩)
theorem sunit_ok (s : St) (hc : chkC s.c = 0) : CSpec Try.prog 105 [] [.agg (StC s)] [] (.int (s.c.unit * s.c.blk)) := by
 have hk := chkC_ok hc
 have hm := mul_bd (a := s.c.unit) (b := s.c.blk) (A := 64) (B := 4096) (by have := hk.2.2.1; omega) (by have := hk.2.2.1; omega) (by have := hk.2.2.2.1; omega) (by have := hk.2.2.2.1; omega)
 refine CSpec.body Try.func105 rfl rfl rfl rfl rfl fun Q hQ => ?_
 refine T.seq fun K1 hK1 => ?_
 refine T.region ?_ -- region 0
 refine ro rfl rfl (OpOk.step (ok_box (n := 15) rfl rfl (by decide))) ?_
 refine ro rfl rfl (OpOk.step (ok_move (.inr rfl))) ?_
 refine ro_nil ?_
 refine keepK hK1 [1] (by dsimp) (by dsimp) ?_
 refine T.seq fun K2 hK2 => ?_
 refine T.region ?_ -- region 1
 refine ro rfl rfl (OpOk.step (ok_fieldAddr rfl ti_api_State rfl rfl ti_api_Conf (by decide) rfl)) ?_
 refine ro rfl rfl (OpOk.step (ok_fieldAddr rfl ti_api_Conf rfl rfl ti_int (by decide) rfl)) ?_
 refine ro rfl rfl (OpOk.step (ok_load rfl ti_int rfl rfl)) ?_
 refine ro rfl rfl (OpOk.step (ok_fieldAddr rfl ti_api_State rfl rfl ti_api_Conf (by decide) rfl)) ?_
 refine ro rfl rfl (OpOk.step (ok_fieldAddr rfl ti_api_Conf rfl rfl ti_int (by decide) rfl)) ?_
 refine ro rfl rfl (OpOk.step (ok_load rfl ti_int rfl rfl)) ?_
 refine ro rfl rfl (OpOk.step (ok_mul64 rfl ti_int rfl rfl (by omega) (by omega))) ?_
 refine ro rfl rfl (OpOk.step (ok_move (.inr rfl))) ?_
 refine ro_nil ?_
 refine keepK hK2 [2] (by dsimp) (by dsimp) ?_
 refine T.ret (hQ _ _ _ rfl ?_).1 -- ret 1
 exact TEnt.fin [] (by decide) (by simp) rfl ⟨rfl, trivial⟩
theorem slots1_ok (c : Cf) (hs : saneC c = true) : CSpec Try.prog 115 [CB c] [.ref 0 0 0] [some (CB c)] (.int (c.zon + c.spa)) := by
 have h := (saneC_iff c).1 hs
 refine CSpec.body Try.func115 rfl rfl rfl rfl rfl fun Q hQ => ?_
 refine T.seq fun K1 hK1 => ?_
 refine T.region ?_ -- region 0
 refine ro rfl rfl (OpOk.step (ok_move (.inr rfl))) ?_
 refine ro_nil ?_
 refine keepK hK1 [0] (by dsimp) (by dsimp) ?_
 refine T.seq fun K2 hK2 => ?_
 refine T.region ?_ -- region 1
 refine ro rfl rfl (OpOk.step (ok_fieldAddr rfl ti_api_Conf rfl rfl ti_int (by decide) rfl)) ?_
 refine ro rfl rfl (OpOk.step (ok_load rfl ti_int rfl rfl)) ?_
 refine ro rfl rfl (OpOk.step (ok_fieldAddr rfl ti_api_Conf rfl rfl ti_int (by decide) rfl)) ?_
 refine ro rfl rfl (OpOk.step (ok_load rfl ti_int rfl rfl)) ?_
 refine ro rfl rfl (OpOk.step (ok_add64 rfl ti_int rfl rfl (by omega) (by omega))) ?_
 refine ro rfl rfl (OpOk.step (ok_move (.inr rfl))) ?_
 refine ro_nil ?_
 refine keepK hK2 [1] (by dsimp) (by dsimp) ?_
 refine T.ret (hQ _ _ _ rfl ?_).1 -- ret 1
 exact TEnt.fin [0] (by decide) (by simp) (by simp [normH, hget, CB_ren]) ⟨rfl, trivial⟩
theorem slots_ok (c : Cf) : CSpec Try.prog 71 [] [.agg (CC c)] [] (.int (slotsC c)) := by
 refine CSpec.body Try.func71 rfl rfl rfl rfl rfl fun Q hQ => ?_
 refine T.seq fun K1 hK1 => ?_
 refine T.region ?_ -- region 0
 refine ro rfl rfl (OpOk.step (ok_box (n := 11) rfl rfl (by decide))) ?_
 refine ro rfl rfl (OpOk.step (ok_move (.inr rfl))) ?_
 refine ro_nil ?_
 refine keepK hK1 [1] (by dsimp) (by dsimp) ?_
 refine T.seq fun K2 hK2 => ?_
 refine T.region ?_ -- region 1
 refine ro rfl rfl (OpOk.step (ok_load rfl ti_api_Conf rfl rfl)) ?_
 refine ro rfl rfl (OpOk.step (ok_makeFunc rfl)) ?_
 refine ro rfl rfl (ok_call rfl rfl rfl (((of_ok c 115 _ (fun hs => slots1_ok c hs)).pass [0] (by decide) (by simp) (by simp [normH, hget]; exact CB_ren _ _) (by simp [renL, AV.ren]; exact ⟨CC_ren _ _, rfl⟩)).eq (x' := .int (slotsC c)) (H'' := [some (CB c)]) rfl (by simp [mergeH, setIds, renH, CB_ren]))) ?_
 refine ro rfl rfl (OpOk.step (ok_move (.inr rfl))) ?_
 refine ro_nil ?_
 refine keepK hK2 [2] (by dsimp) (by dsimp) ?_
 refine T.ret (hQ _ _ _ rfl ?_).1 -- ret 1
 exact TEnt.fin [] (by decide) (by simp) rfl ⟨rfl, trivial⟩
theorem index_ok (l : List Int) (x : Int) (hl : l.length ≤ 140737488355328) : CSpec Try.prog 126 [] [.fz 1 (ints .i64 l), .int x] [] (.int (fIdx (fun y => decide (x = y)) l)) := by
 refine CSpec.body Try.func126 rfl rfl rfl rfl rfl fun Q hQ => ?_
 refine T.seq fun K1 hK1 => ?_
 refine T.region ?_ -- region 0
 refine ro rfl rfl (OpOk.step (ok_move (.inr rfl))) ?_
 refine ro_nil ?_
 refine keepK hK1 [0, 1] (by dsimp) (by dsimp) ?_
 refine T.seq fun K2 hK2 => ?_
 refine T.seq fun K3 hK3 => ?_
 refine T.region ?_ -- region 1
 refine ro rfl rfl (OpOk.step (ok_move (.inl rfl))) ?_
 refine ro rfl rfl (OpOk.step (ok_len' rfl rfl ti_Lint rfl (by first | exact ints_length _ _ | exact rowsA_length _ _ | exact Cms_len _ | exact mapLen _ | rfl))) ?_
 refine ro rfl rfl (OpOk.step (ok_move (.inl rfl))) ?_
 refine ro_nil ?_
 refine keepK hK3 [0, 1, 7, 8] (by dsimp) (by dsimp) ?_
 refine T.block ?_
 refine T.loopI (ι := Nat) (fun i => i ≤ l.length ∧ ∀ y ∈ l.take i, decide (x = y) = false) (fun i => l.length - i) (fun i => ([(0, .fz 1 (ints .i64 l)), (1, .int x), (7, .int l.length), (8, .int i)], [])) 0 ⟨Nat.zero_le _, fun y hy => by simp at hy⟩ (TEnt.toH rfl ⟨rfl, rfl, rfl, rfl, trivial⟩) (fun i hi => ?_) -- loop 1
 obtain ⟨hil, hno⟩ := hi
 refine T.seq fun K4 hK4 => ?_
 refine T.region ?_ -- region 2
 refine ro rfl rfl (OpOk.step (ok_binOp rfl ti_int rfl)) ?_
 refine ro_nil ?_
 refine keepK hK4 [0, 1, 7, 8, 9] (by dsimp) (by dsimp) ?_
 refine T.seq fun K5 hK5 => ?_
 refine T.cond rfl (fun hc => ?_) (fun hc => ?_) -- cond 1
 ·(try simp only [dE] at hc)
  obtain ⟨y, hy⟩ : ∃ y, l[i]? = some y := ⟨_, List.getElem?_eq_getElem (by omega)⟩
  refine T.skip ?_
  refine keepK hK5 [0, 1, 7, 8] (by dsimp) (by dsimp) ?_
  refine T.seq fun K6 hK6 => ?_
  refine T.block ?_
  refine T.seq fun K7 hK7 => ?_
  refine T.region ?_ -- region 3
  refine ro rfl rfl (OpOk.step (ok_move (.inl rfl))) ?_
  refine ro rfl rfl (OpOk.step (ok_move (.inr rfl))) ?_
  refine ro_nil ?_
  refine keepK hK7 [0, 1, 5, 7, 8] (by dsimp) (by dsimp) ?_
  refine T.seq fun K8 hK8 => ?_
  refine T.region ?_ -- region 4
  refine ro rfl rfl (OpOk.step (ok_move (.inl rfl))) ?_
  refine ro rfl rfl (OpOk.step (ok_move (.inl rfl))) ?_
  refine ro rfl rfl (OpOk.step (ok_move (.inl rfl))) ?_
  refine ro rfl rfl (OpOk.step (by exact ok_index_ints rfl ti_Lint rfl ti_int rfl rfl rfl (by omega) (by simpa using hy))) ?_
  refine ro rfl rfl (OpOk.step (ok_load rfl ti_int rfl rfl)) ?_
  refine ro rfl rfl (OpOk.step (ok_binOp rfl ti_int rfl)) ?_
  refine ro_nil ?_
  refine keepK hK8 [0, 1, 5, 7, 8, 16] (by dsimp) (by dsimp) ?_
  refine T.cond rfl (fun hc => ?_) (fun hc => ?_) -- cond 2
  ·(try simp only [dE] at hc)
   rw [fIdx_hit hy (by simpa using hc) hno] at hQ
   refine T.seq fun K9 hK9 => ?_
   refine T.region ?_ -- region 5
   refine ro rfl rfl (OpOk.step (ok_move (.inl rfl))) ?_
   refine ro rfl rfl (OpOk.step (ok_move (.inr rfl))) ?_
   refine ro_nil ?_
   refine keepK hK9 [4] (by dsimp) (by dsimp) ?_
   refine T.ret (hQ _ _ _ rfl ?_).1 -- ret 1
   exact TEnt.toH rfl ⟨rfl, trivial⟩
  ·(try simp only [dE] at hc)
   have hyn : decide (x = y) = false := by simpa using hc
   refine T.skip ?_
   refine keepK hK6 [0, 1, 7, 8] (by dsimp) (by dsimp) ?_
   refine T.region ?_ -- region 6
   refine ro rfl rfl (OpOk.step (ok_add64 rfl ti_int rfl rfl (by omega) (by omega))) ?_
   refine ro rfl rfl (OpOk.step (ok_move (.inl rfl))) ?_
   refine ro_nil ?_
   exact ⟨i + 1, ⟨by omega, take_snoc_all hy hno hyn⟩, by omega, TEnt.toH rfl ⟨rfl, rfl, rfl, rfl, trivial⟩⟩
 ·(try simp only [dE] at hc)
  have hin : i = l.length := by omega
  rw [hin, List.take_length] at hno
  rw [fIdx_none hno] at hQ
  refine T.exit ?_
  refine keepK hK2 [] (by dsimp) (by dsimp) ?_
  refine T.seq fun K10 hK10 => ?_
  refine T.region ?_ -- region 7
  refine ro rfl rfl (OpOk.step (ok_move (.inr rfl))) ?_
  refine ro_nil ?_
  refine keepK hK10 [4] (by dsimp) (by dsimp) ?_
  refine T.ret (hQ _ _ _ rfl ?_).1 -- ret 2
  exact TEnt.toH rfl ⟨rfl, trivial⟩
theorem contains_ok (l : List Int) (x : Int) (hl : l.length ≤ 140737488355328) : CSpec Try.prog 98 [] [.fz 1 (ints .i64 l), .int x] [] (.b (decide (x ∈ l))) := by
 refine CSpec.body Try.func98 rfl rfl rfl rfl rfl fun Q hQ => ?_
 refine T.seq fun K1 hK1 => ?_
 refine T.region ?_ -- region 0
 refine ro rfl rfl (OpOk.step (ok_moveb (c := false) (.inr rfl) rfl)) ?_
 refine ro_nil ?_
 refine keepK hK1 [0, 1] (by dsimp) (by dsimp) ?_
 refine T.seq fun K2 hK2 => ?_
 refine T.region ?_ -- region 1
 refine ro rfl rfl (OpOk.step (ok_move (.inl rfl))) ?_
 refine ro rfl rfl (OpOk.step (ok_move (.inl rfl))) ?_
 refine ro rfl rfl (ok_call rfl rfl rfl ((index_ok l x hl).plain (by simp [renL, AV.ren, renL_ints]) rfl)) ?_
 refine ro rfl rfl (OpOk.step ((ok_binOp rfl ti_int rfl).eq (x' := .b (decide (x ∈ l))) (by
  have e : decide (fIdx (fun y => decide (x = y)) l ≥ 0) = decide (x ∈ l) := by
    refine decide_eq_decide.2 ((fIdx_iff _ l).trans ⟨?_, fun h => ⟨x, h, by simp⟩⟩)
    rintro ⟨y, hy, h⟩
    have : x = y := by simpa using h
    exact this ▸ hy
  exact congrArg AV.b e) rfl)) ?_
 refine ro rfl rfl (OpOk.step (ok_move (.inr rfl))) ?_
 refine ro_nil ?_
 refine keepK hK2 [4] (by dsimp) (by dsimp) ?_
 refine T.ret (hQ _ _ _ rfl ?_).1 -- ret 1
 exact TEnt.toH rfl ⟨rfl, trivial⟩
theorem indexF_ok (l : List Int) (f : FuncId) (p : Int → Bool) (hf : ∀ y, CSpec Try.prog f [] [.int y] [] (.b (p y))) (hl : l.length ≤ 140737488355328) : CSpec Try.prog 129 [] [.fz 1 (ints .i64 l), .fn (.func f) [] []] [] (.int (fIdx p l)) := by
 refine CSpec.body Try.func129 rfl rfl rfl rfl rfl fun Q hQ => ?_
 refine T.seq fun K1 hK1 => ?_
 refine T.region ?_ -- region 0
 refine ro rfl rfl (OpOk.step (ok_move (.inr rfl))) ?_
 refine ro_nil ?_
 refine keepK hK1 [0, 1] (by dsimp) (by dsimp) ?_
 refine T.seq fun K2 hK2 => ?_
 refine T.seq fun K3 hK3 => ?_
 refine T.region ?_ -- region 1
 refine ro rfl rfl (OpOk.step (ok_move (.inl rfl))) ?_
 refine ro rfl rfl (OpOk.step (ok_len' rfl rfl ti_Lint rfl (by first | exact ints_length _ _ | exact rowsA_length _ _ | exact Cms_len _ | exact mapLen _ | rfl))) ?_
 refine ro rfl rfl (OpOk.step (ok_move (.inl rfl))) ?_
 refine ro_nil ?_
 refine keepK hK3 [0, 1, 7, 8] (by dsimp) (by dsimp) ?_
 refine T.block ?_
 refine T.loopI (ι := Nat) (fun i => i ≤ l.length ∧ ∀ y ∈ l.take i, p y = false) (fun i => l.length - i) (fun i => ([(0, .fz 1 (ints .i64 l)), (1, .fn (.func f) [] []), (7, .int l.length), (8, .int i)], [])) 0 ⟨Nat.zero_le _, fun y hy => by simp at hy⟩ (TEnt.toH rfl ⟨rfl, rfl, rfl, rfl, trivial⟩) (fun i hi => ?_) -- loop 1
 obtain ⟨hil, hno⟩ := hi
 refine T.seq fun K4 hK4 => ?_
 refine T.region ?_ -- region 2
 refine ro rfl rfl (OpOk.step (ok_binOp rfl ti_int rfl)) ?_
 refine ro_nil ?_
 refine keepK hK4 [0, 1, 7, 8, 9] (by dsimp) (by dsimp) ?_
 refine T.seq fun K5 hK5 => ?_
 refine T.cond rfl (fun hc => ?_) (fun hc => ?_) -- cond 1
 ·(try simp only [dE] at hc)
  obtain ⟨y, hy⟩ : ∃ y, l[i]? = some y := ⟨_, List.getElem?_eq_getElem (by omega)⟩
  refine T.skip ?_
  refine keepK hK5 [0, 1, 7, 8] (by dsimp) (by dsimp) ?_
  refine T.seq fun K6 hK6 => ?_
  refine T.block ?_
  refine T.seq fun K7 hK7 => ?_
  refine T.region ?_ -- region 3
  refine ro rfl rfl (OpOk.step (ok_move (.inl rfl))) ?_
  refine ro rfl rfl (OpOk.step (ok_move (.inr rfl))) ?_
  refine ro_nil ?_
  refine keepK hK7 [0, 1, 5, 7, 8] (by dsimp) (by dsimp) ?_
  refine T.seq fun K8 hK8 => ?_
  refine T.region ?_ -- region 4
  refine ro rfl rfl (OpOk.step (ok_move (.inl rfl))) ?_
  refine ro rfl rfl (OpOk.step (ok_move (.inl rfl))) ?_
  refine ro rfl rfl (OpOk.step (ok_move (.inl rfl))) ?_
  refine ro rfl rfl (OpOk.step (by exact ok_index_ints rfl ti_Lint rfl ti_int rfl rfl rfl (by omega) (by simpa using hy))) ?_
  refine ro rfl rfl (OpOk.step (ok_load rfl ti_int rfl rfl)) ?_
  refine ro rfl rfl (ok_call rfl rfl rfl ((hf y).plain rfl rfl)) ?_
  refine ro_nil ?_
  refine keepK hK8 [0, 1, 5, 7, 8, 16] (by dsimp) (by dsimp) ?_
  refine T.cond rfl (fun hc => ?_) (fun hc => ?_) -- cond 2
  ·(try simp only [dE] at hc)
   rw [fIdx_hit hy hc hno] at hQ
   refine T.seq fun K9 hK9 => ?_
   refine T.region ?_ -- region 5
   refine ro rfl rfl (OpOk.step (ok_move (.inl rfl))) ?_
   refine ro rfl rfl (OpOk.step (ok_move (.inr rfl))) ?_
   refine ro_nil ?_
   refine keepK hK9 [4] (by dsimp) (by dsimp) ?_
   refine T.ret (hQ _ _ _ rfl ?_).1 -- ret 1
   exact TEnt.toH rfl ⟨rfl, trivial⟩
  ·(try simp only [dE] at hc)
   refine T.skip ?_
   refine keepK hK6 [0, 1, 7, 8] (by dsimp) (by dsimp) ?_
   refine T.region ?_ -- region 6
   refine ro rfl rfl (OpOk.step (ok_add64 rfl ti_int rfl rfl (by omega) (by omega))) ?_
   refine ro rfl rfl (OpOk.step (ok_move (.inl rfl))) ?_
   refine ro_nil ?_
   exact ⟨i + 1, ⟨by omega, take_snoc_all hy hno hc⟩, by omega, TEnt.toH rfl ⟨rfl, rfl, rfl, rfl, trivial⟩⟩
 ·(try simp only [dE] at hc)
  have hin : i = l.length := by omega
  rw [hin, List.take_length] at hno
  rw [fIdx_none hno] at hQ
  refine T.exit ?_
  refine keepK hK2 [] (by dsimp) (by dsimp) ?_
  refine T.seq fun K10 hK10 => ?_
  refine T.region ?_ -- region 7
  refine ro rfl rfl (OpOk.step (ok_move (.inr rfl))) ?_
  refine ro_nil ?_
  refine keepK hK10 [4] (by dsimp) (by dsimp) ?_
  refine T.ret (hQ _ _ _ rfl ?_).1 -- ret 2
  exact TEnt.toH rfl ⟨rfl, trivial⟩
theorem odd1_ok (y : Int) : CSpec Try.prog 130 [] [.int y] [] (.b (y != 0)) := by
 refine CSpec.body Try.func130 rfl rfl rfl rfl rfl fun Q hQ => ?_
 refine T.seq fun K1 hK1 => ?_
 refine T.region ?_ -- region 0
 refine ro rfl rfl (OpOk.step (ok_moveb (c := false) (.inr rfl) rfl)) ?_
 refine ro_nil ?_
 refine keepK hK1 [0] (by dsimp) (by dsimp) ?_
 refine T.seq fun K2 hK2 => ?_
 refine T.region ?_ -- region 1
 refine ro rfl rfl (OpOk.step (ok_move (.inl rfl))) ?_
 refine ro rfl rfl (OpOk.step (ok_binOp rfl ti_int rfl)) ?_
 refine ro rfl rfl (OpOk.step (ok_move (.inr rfl))) ?_
 refine ro_nil ?_
 refine keepK hK2 [2] (by dsimp) (by dsimp) ?_
 refine T.ret (hQ _ _ _ rfl ?_).1 -- ret 1
 exact TEnt.toH rfl ⟨rfl, trivial⟩
def oddP (y : Int) : Bool := y != 0
/-- The member that is not whole. -/
def oddS (st : List Int) : Int × Int × Bool := if fIdx oddP st < 0 then (0, 0, false) else (fIdx oddP st, st.getD (fIdx oddP st).toNat 0, true)
theorem sodd_ok (s : St) (hl : s.st.length ≤ 140737488355328) : CSpec Try.prog 103 [] [.agg (StC s)] [] (.tup [.int (oddS s.st).1, .int (oddS s.st).2.1, .b (oddS s.st).2.2]) := by
 have hbd := fIdx_bd oddP s.st
 refine CSpec.body Try.func103 rfl rfl rfl rfl rfl fun Q hQ => ?_
 refine T.seq fun K1 hK1 => ?_
 refine T.region ?_ -- region 0
 refine ro rfl rfl (OpOk.step (ok_box (n := 15) rfl rfl (by decide))) ?_
 refine ro rfl rfl (OpOk.step (ok_move (.inr rfl))) ?_
 refine ro rfl rfl (OpOk.step (ok_move (.inr rfl))) ?_
 refine ro rfl rfl (OpOk.step (ok_moveb (c := false) (.inr rfl) rfl)) ?_
 refine ro_nil ?_
 refine keepK hK1 [1] (by dsimp) (by dsimp) ?_
 refine T.seq fun K2 hK2 => ?_
 refine T.region ?_ -- region 1
 refine ro rfl rfl (OpOk.step (ok_fieldAddr rfl ti_api_State rfl rfl ti_Lint (by decide) rfl)) ?_
 refine ro rfl rfl (OpOk.step (ok_load rfl ti_Lint rfl rfl)) ?_
 refine ro rfl rfl (ok_call rfl rfl rfl ((indexF_ok s.st 130 oddP (fun y => odd1_ok y) hl).plain (by simp [renL, AV.ren, renL_ints]) rfl)) ?_
 refine ro rfl rfl (OpOk.step (ok_move (.inr rfl))) ?_
 refine ro_nil ?_
 refine keepK hK2 [1, 2] (by dsimp) (by dsimp) ?_
 refine T.seq fun K3 hK3 => ?_
 refine T.seq fun K4 hK4 => ?_
 refine T.region ?_ -- region 2
 refine ro rfl rfl (OpOk.step (ok_move (.inl rfl))) ?_
 refine ro rfl rfl (OpOk.step (ok_binOp rfl ti_int rfl)) ?_
 refine ro_nil ?_
 refine keepK hK4 [1, 2, 9] (by dsimp) (by dsimp) ?_
 refine T.cond rfl (fun hc => ?_) (fun hc => ?_) -- cond 1
 ·(try simp only [dE] at hc)
  have e : oddS s.st = (0, 0, false) := if_pos hc
  rw [e] at hQ
  refine T.seq fun K5 hK5 => ?_
  refine T.region ?_ -- region 3
  refine ro rfl rfl (OpOk.step (ok_move (.inr rfl))) ?_
  refine ro rfl rfl (OpOk.step (ok_move (.inr rfl))) ?_
  refine ro rfl rfl (OpOk.step (ok_moveb (c := false) (.inr rfl) rfl)) ?_
  refine ro_nil ?_
  refine keepK hK5 [2, 3, 4] (by dsimp) (by dsimp) ?_
  refine T.ret (hQ _ _ _ rfl ?_).1 -- ret 1
  exact TEnt.fin [] (by decide) (by simp) rfl ⟨rfl, trivial⟩
 ·(try simp only [dE] at hc)
  have e : oddS s.st = (fIdx oddP s.st, s.st.getD (fIdx oddP s.st).toNat 0, true) := if_neg (by omega)
  rw [e] at hQ
  obtain ⟨x, hx⟩ : ∃ x, s.st[(fIdx oddP s.st).toNat]? = some x := ⟨_, List.getElem?_eq_getElem (by omega)⟩
  have hxd : s.st.getD (fIdx oddP s.st).toNat 0 = x := by rw [List.getD_eq_getElem?_getD, hx]; rfl
  rw [hxd] at hQ
  refine T.skip ?_
  refine keepK hK3 [1, 2] (by dsimp) (by dsimp) ?_
  refine T.seq fun K6 hK6 => ?_
  refine T.drawH mixed [] ?_ -- region 4
  refine any_take 0 rfl (by first | rfl | decide +kernel) rfl (HeldL.refl _) (fun H' hH => OpOk.step (ok_move (.inl rfl))) ?_
  refine any_take 1 rfl (by first | rfl | decide +kernel) rfl (HeldL.refl _) (fun H' hH => OpOk.step (ok_fieldAddr rfl ti_api_State rfl rfl ti_Lint (by decide) rfl)) ?_
  refine any_take 2 rfl (by first | rfl | decide +kernel) rfl (HeldL.refl _) (fun H' hH => OpOk.step (ok_load rfl ti_Lint (locA_held hH rfl) rfl)) ?_
  refine any_take 3 rfl (by first | rfl | decide +kernel) rfl (HeldL.refl _) (fun H' hH => OpOk.step (ok_move (.inl rfl))) ?_
  refine any_take 4 rfl (by first | rfl | decide +kernel) rfl (HeldL.refl _) (fun H' hH => OpOk.step (by exact ok_index_ints rfl ti_Lint rfl ti_int rfl rfl rfl (by omega) hx)) ?_
  refine any_take 5 rfl (by first | rfl | decide +kernel) rfl (HeldL.refl _) (fun H' hH => OpOk.step (ok_load rfl ti_int (locA_held hH rfl) rfl)) ?_
  refine any_take 6 rfl (by first | rfl | decide +kernel) rfl (HeldL.refl _) (fun H' hH => OpOk.step (ok_move (.inr rfl))) ?_
  refine any_take 7 rfl (by first | rfl | decide +kernel) rfl (HeldL.refl _) (fun H' hH => OpOk.step (ok_move (.inr rfl))) ?_
  refine any_take 8 rfl (by first | rfl | decide +kernel) rfl (HeldL.refl _) (fun H' hH => OpOk.step (ok_moveb (c := true) (.inr rfl) rfl)) ?_
  refine any_done rfl ?_
  refine keepK hK6 [2, 3, 4] (by dsimp) (by dsimp) ?_
  refine T.ret (hQ _ _ _ rfl ?_).1 -- ret 2
  exact TEnt.fin [] (by decide) (by simp) rfl ⟨rfl, trivial⟩
end Go.Proofs.Ytlegolcbjjjofaa.AmF
