/- Walks over the abstract machine: settings, which may be and what follows. -/
import Derived.Test.YteonkbgfpocplaaAmFacts
import Derived.Test.YteonkbgfpocplaaAmNum
namespace Go.Proofs.Yteonkbgfpocplaa.AmF
open Go Go.AM
set_option maxRecDepth 100000
set_option linter.unusedSimpArgs false
set_option linter.unusedVariables false
attribute [local simp] tkeep tget tput ev cav argsTM pickA normT putA splice AV.cells ints_length rowsA_length
/-- Settings. -/
structure Cf where
  id : Int
  mem : Int
  unit : Int
  blk : Int
  cap : Int
  zon : Int
  spa : Int
  met : Int
  opn : Int
  act : Int
  lim : Int
  deriving DecidableEq
def Cf.l (c : Cf) : List Int := [c.id, c.mem, c.unit, c.blk, c.cap, c.zon, c.spa, c.met, c.opn, c.act, c.lim]
def CC (c : Cf) : List AV := ints .i64 c.l
def CB (c : Cf) : Blk := ⟨11, true, [.agg (CC c)]⟩
/-- Pointers to all numbers but the first. -/
def NB : Blk := ⟨1, true, [.ref 0 0 1, .ref 0 0 2, .ref 0 0 3, .ref 0 0 4, .ref 0 0 5, .ref 0 0 6, .ref 0 0 7, .ref 0 0 8, .ref 0 0 9, .ref 0 0 10]⟩
def ok20 (x : Int) : Bool := decide (1 ≤ x ∧ x ≤ 1048576)
def saneC (c : Cf) : Bool := (c.l.drop 1).all ok20
theorem saneC_iff (c : Cf) : saneC c = true ↔ ((1 ≤ c.mem ∧ c.mem ≤ 1048576) ∧ (1 ≤ c.unit ∧ c.unit ≤ 1048576) ∧ (1 ≤ c.blk ∧ c.blk ≤ 1048576) ∧ (1 ≤ c.cap ∧ c.cap ≤ 1048576) ∧ (1 ≤ c.zon ∧ c.zon ≤ 1048576) ∧ (1 ≤ c.spa ∧ c.spa ≤ 1048576) ∧ (1 ≤ c.met ∧ c.met ≤ 1048576) ∧ (1 ≤ c.opn ∧ c.opn ≤ 1048576) ∧ (1 ≤ c.act ∧ c.act ≤ 1048576) ∧ (1 ≤ c.lim ∧ c.lim ≤ 1048576)) := by
  simp [saneC, Cf.l, ok20]
theorem CC_ren (ρ : Nat → Option Nat) (c : Cf) : renL ρ (CC c) = CC c := renL_ints _ _ _
theorem CB_ren (ρ : Nat → Option Nat) (c : Cf) : Blk.ren ρ (CB c) = CB c := by simp [CB, Blk.ren, renL, AV.ren, CC_ren]
def dataC (c : Cf) : Int := if saneC c = true then c.mem - 1 else 0
def rowC (c : Cf) : Int := if saneC c = true then (c.mem - 1) * c.unit else 0
def stripesC (c : Cf) : Int := if saneC c = true then c.cap / c.unit else 0
def sizeC (c : Cf) : Int := stripesC c * rowC c
def slotsC (c : Cf) : Int := if saneC c = true then c.zon + c.spa else 0
def allC (c : Cf) : Int := if saneC c = true then c.met + c.zon + c.spa else 0
def headC (c : Cf) : Int := 320 + 8 * c.mem + 48 * c.zon + (c.zon + 1) * c.unit * c.blk
def roomC (c : Cf) : Int := if saneC c = true then (headC c + c.blk - 1) / c.blk + 2 else 0
def okC (c : Cf) : Prop := (0 ≤ c.id ∧ c.id ≤ 1099511627776) ∧ (3 ≤ c.mem ∧ c.mem ≤ 16) ∧ (1 ≤ c.unit ∧ c.unit ≤ 64) ∧ (1 ≤ c.blk ∧ c.blk ≤ 4096) ∧ (1 ≤ c.cap ∧ c.cap ≤ 4096) ∧ c.cap % c.unit = 0 ∧
  (1 ≤ c.zon ∧ c.zon ≤ 64) ∧ (1 ≤ c.spa ∧ c.spa ≤ 64) ∧ (3 ≤ c.met ∧ c.met ≤ 64) ∧ c.met + c.zon + c.spa ≤ 64 ∧ (1 ≤ c.act ∧ c.act ≤ c.zon) ∧ (1 ≤ c.opn ∧ c.opn ≤ c.act) ∧ (c.act + c.spa + c.met ≤ c.lim ∧ c.lim ≤ 64)
instance (c : Cf) : Decidable (okC c) := by unfold okC; infer_instance
/-- The error that settings have. -/
def chkC (c : Cf) : Int := if okC c then (if roomC c > c.cap then 17 else 0) else 1
theorem chk_bad {c : Cf} (h : ¬ okC c) : chkC c = 1 := if_neg h
theorem chk_room {c : Cf} (h : okC c) (h' : roomC c > c.cap) : chkC c = 17 := by unfold chkC; rw [if_pos h, if_pos h']
theorem chk_ok {c : Cf} (h : okC c) (h' : ¬ roomC c > c.cap) : chkC c = 0 := by unfold chkC; rw [if_pos h, if_neg h']
theorem okC_sane {c : Cf} (h : okC c) : saneC c = true := by
  rw [saneC_iff]
  unfold okC at h
  omega
theorem chkC_ok {c : Cf} (h : chkC c = 0) : okC c := by
  unfold chkC at h
  split at h
  · assumption
  · cases h
theorem mul_bd {a b A B : Int} (ha : 0 ≤ a) (ha' : a ≤ A) (hb : 0 ≤ b) (hb' : b ≤ B) : 0 ≤ a * b ∧ a * b ≤ A * B :=
  ⟨Int.mul_nonneg ha hb, Int.mul_le_mul ha' hb' hb (by omega)⟩
theorem NB_get {i : Nat} (h : i < 10) : NB.els[i]? = some (.ref 0 0 (i + 1)) := by
  match i, h with
  | 0, _ | 1, _ | 2, _ | 3, _ | 4, _ | 5, _ | 6, _ | 7, _ | 8, _ | 9, _ => rfl
theorem CC_get {c : Cf} {i : Nat} {x : Int} (h : c.l[i]? = some x) : (CC c)[i]? = some (.int x) := ints_get_of h
/-- A number that follows of settings, out of a function that is run only where they are sane. -/
theorem fn_ren (ρ : Nat → Option Nat) (f : FuncId) : AV.ren ρ (.fn (.func f) [] [.ref 0 0 0]) = .fn (.func f) [] [AV.ren ρ (.ref 0 0 0)] := by simp [AV.ren, renL]

theorem size_bd (c : Cf) : 0 ≤ rowC c ∧ rowC c ≤ 1099511627776 ∧ 0 ≤ stripesC c ∧ stripesC c ≤ 1048576 ∧ 0 ≤ sizeC c ∧ sizeC c ≤ 1152921504606846976 := by
  have h1 : 0 ≤ rowC c ∧ rowC c ≤ 1099511627776 := by
    unfold rowC
    split
    · rename_i hs
      rw [saneC_iff] at hs
      have hb := mul_bd (a := c.mem - 1) (b := c.unit) (A := 1048576) (B := 1048576) (by omega) (by omega) (by omega) (by omega)
      omega
    · omega
  have h2 : 0 ≤ stripesC c ∧ stripesC c ≤ 1048576 := by
    unfold stripesC
    split
    · rename_i hs
      rw [saneC_iff] at hs
      have q1 := Int.ediv_nonneg (a := c.cap) (b := c.unit) (by omega) (by omega)
      have q2 := Int.ediv_le_self (a := c.cap) c.unit (by omega)
      omega
    · omega
  have h3 := mul_bd (a := stripesC c) (b := rowC c) (A := 1048576) (B := 1099511627776) h2.1 h2.2 h1.1 h1.2
  unfold sizeC
  omega
theorem head_bd {c : Cf} (hs : saneC c = true) : (0 ≤ (c.zon + 1) * c.unit ∧ (c.zon + 1) * c.unit ≤ 1099512676352) ∧ (0 ≤ (c.zon + 1) * c.unit * c.blk ∧ (c.zon + 1) * c.unit * c.blk ≤ 1152922604119523328) ∧ 320 ≤ headC c ∧ headC c ≤ 1152922604200000000 := by
  rw [saneC_iff] at hs
  have h1 := mul_bd (a := c.zon + 1) (b := c.unit) (A := 1048577) (B := 1048576) (by omega) (by omega) (by omega) (by omega)
  have h2 := mul_bd (a := (c.zon + 1) * c.unit) (b := c.blk) (A := 1099512676352) (B := 1048576) h1.1 (by omega) (by omega) (by omega)
  unfold headC
  omega
theorem quo_bd {a b B : Int} (h : 0 ≤ a) (h' : a ≤ B) (hb : 0 < b) : 0 ≤ a / b ∧ a / b ≤ B := ⟨Int.ediv_nonneg h (by omega), Int.le_trans (Int.ediv_le_self _ h) h'⟩
theorem ceil_eq (n d : Int) (hd : 1 ≤ d) : (n + d - 1) / d = if n % d > 0 then n / d + 1 else n / d := by
  have h := Int.emod_add_mul_ediv n d
  have r0 := Int.emod_nonneg n (by omega : d ≠ 0)
  have r1 := Int.emod_lt_of_pos n (by omega : 0 < d)
  split
  · have e : n + d - 1 = (n % d - 1) + d * (n / d + 1) := by rw [Int.mul_add]; omega
    rw [e, Int.add_mul_ediv_left _ _ (by omega : d ≠ 0), Int.ediv_eq_zero_of_lt (by omega) (by omega)]; omega
  · have e : n + d - 1 = (d - 1) + d * (n / d) := by omega
    rw [e, Int.add_mul_ediv_left _ _ (by omega : d ≠ 0), Int.ediv_eq_zero_of_lt (by omega) (by omega)]; omega

def numsC (c : Cf) : List Int := [dataC c, rowC c, stripesC c, sizeC c, slotsC c, allC c, roomC c]

def smallC (c : Cf) : Prop := chkC c = 0 ∧ c.mem ≤ 5 ∧ c.unit ≤ 3 ∧ c.blk ≤ 128 ∧ c.cap ≤ 32 ∧ c.zon ≤ 4 ∧ c.spa ≤ 2 ∧ c.met ≤ 4
instance (c : Cf) : Decidable (smallC c) := by unfold smallC; infer_instance
end Go.Proofs.Yteonkbgfpocplaa.AmF
