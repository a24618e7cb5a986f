/- Walks over the abstract machine: readers of packed numbers, by pointer; and the reference's, by value. -/
import Derived.Test.YtknhemdpfdopaaaAmFacts
import Derived.Test.YtknhemdpfdopaaaAmNum
import Derived.Test.YtknhemdpfdopaaaAfClone
namespace Go.Proofs.Ytknhemdpfdopaaa.AmF
open Go Go.AM
set_option maxRecDepth 100000
set_option linter.unusedSimpArgs false
set_option linter.unusedVariables false
attribute [local simp] tkeep tget tput ev cav argsTM pickA normT putA splice AV.cells ints_length rowsA_length
/-- A reader's cells: its row, its place, its error. -/
def RC (l : List Int) (p : Nat) (e : Int) : List AV := [.fz 1 (ints .u8 l), .int p, .int e]
def R (l : List Int) (p : Nat) (e : Int) : Blk := ⟨3, true, [.agg [.fz 1 (ints .u8 l), .int p, .int e]]⟩
theorem wrap64_mod (n : Int) : IntKind.i64.wrap n % 18446744073709551616 = n % 18446744073709551616 := by
  simp [IntKind.wrap, IntKind.bits, IntKind.signed]
  split <;> omega
theorem or64 (a b m : Nat) (ha : a < 2 ^ m) (hb : a + b * 2 ^ m < 18446744073709551616) : Go.bits .or .i64 (IntKind.i64.wrap a) (IntKind.i64.wrap (b * 2 ^ m : Nat)) = IntKind.i64.wrap (a + b * 2 ^ m : Nat) := by
  have h1 : (IntKind.i64.wrap (a : Int) % 18446744073709551616).toNat = a := by rw [wrap64_mod]; omega
  have h2 : (IntKind.i64.wrap ((b * 2 ^ m : Nat) : Int) % 18446744073709551616).toNat = b * 2 ^ m := by
    rw [wrap64_mod]
    generalize b * 2 ^ m = c at hb
    omega
  have e : ((2 ^ IntKind.i64.bits : Nat) : Int) = 18446744073709551616 := by decide
  have h3 : a ||| b * 2 ^ m = a + b * 2 ^ m := by
    rw [Nat.or_comm, Nat.mul_comm b, ← Nat.two_pow_add_eq_or_of_lt ha, Nat.add_comm]
  simp only [Go.bits, BitVec.toNat_or, BitVec.toNat_ofInt, e, h1, h2, h3]
/-- A number out of its bytes, the lowest first. -/
def num (l : List Int) : Nat → Nat
  | 0 => 0
  | i + 1 => num l i + (l.getD i 0).toNat * 2 ^ (8 * i)
theorem num_lt {l : List Int} (h : ∀ i, (l.getD i 0).toNat < 256) : ∀ i, num l i < 2 ^ (8 * i)
  | 0 => by simp [num]
  | i + 1 => by
    have ih := num_lt h i
    have hb := h i
    have e : 2 ^ (8 * (i + 1)) = 256 * 2 ^ (8 * i) := by rw [Nat.mul_add, Nat.pow_add]; omega
    have : (l.getD i 0).toNat * 2 ^ (8 * i) ≤ 255 * 2 ^ (8 * i) := Nat.mul_le_mul_right _ (by omega)
    simp only [num]
    omega
theorem pk_byte {l : List Int} (h : Bytes l) (i : Nat) : 0 ≤ l.getD i 0 ∧ l.getD i 0 < 256 := by
  rw [List.getD_eq_getElem?_getD]
  cases hi : l[i]? with
  | none => simp
  | some c => exact h c (List.mem_of_getElem? hi)
theorem pk_nat {l : List Int} (h : Bytes l) (i : Nat) : (l.getD i 0).toNat < 256 := by have := pk_byte h i; omega
/-- The eight bytes at a place, as a number. -/
def val8 (l : List Int) (p : Nat) : Int := IntKind.i64.wrap (num ((l.drop p).take 8) 8 : Nat)
theorem pass0 {l : List Int} {p : Nat} {e : Int} {H : Heap} (l' : List Int) (p' : Nat) (e' : Int) : mergeH [some (R l p e)] [0] [some (R l' p' e')] = [some (R l' p' e')] := by
  simp [mergeH, setIds, renH, R, Blk.ren, renL, AV.ren, renL_ints]
theorem normR (l : List Int) (p : Nat) (e : Int) : normH [0] [some (R l p e)] = [some (R l p e)] := by
  simp [normH, hget, R, Blk.ren, renL, AV.ren, renL_ints]
theorem num_part (l : List Int) (i : Nat) : ∀ n, i + 1 ≤ n → ∃ X, num l n = num l i + 2 ^ (8 * i) * ((l.getD i 0).toNat + 256 * X)
  | n + 1, h => by
    by_cases e : i = n
    · subst e
      exact ⟨0, by simp only [num]; rw [Nat.mul_comm]; simp⟩
    · obtain ⟨X, hX⟩ := num_part l i n (by omega)
      refine ⟨X + (l.getD n 0).toNat * 2 ^ (8 * (n - (i + 1))), ?_⟩
      have e1 : 2 ^ (8 * n) = 2 ^ (8 * i) * (256 * 2 ^ (8 * (n - (i + 1)))) := by
        rw [show (256 : Nat) = 2 ^ 8 from rfl, ← Nat.pow_add, ← Nat.pow_add]
        congr 1
        omega
      simp only [num]
      rw [hX, e1]
      generalize (l.getD n 0).toNat = c
      generalize 2 ^ (8 * (n - (i + 1))) = u
      generalize 2 ^ (8 * i) = w
      rw [Nat.add_assoc, show c * (w * (256 * u)) = w * (256 * (c * u)) by rw [Nat.mul_left_comm, Nat.mul_left_comm c], ← Nat.mul_add]
      congr 2
      omega
theorem num_digit {l : List Int} (h : ∀ i, (l.getD i 0).toNat < 256) {i n : Nat} (hi : i + 1 ≤ n) : num l n / 2 ^ (8 * i) = 256 * (num l n / 2 ^ (8 * (i + 1))) + (l.getD i 0).toNat := by
  obtain ⟨X, hX⟩ := num_part l i n hi
  have hlt := num_lt h i
  have e1 : num l n / 2 ^ (8 * i) = (l.getD i 0).toNat + 256 * X := by
    rw [hX, Nat.add_mul_div_left _ _ (Nat.pow_pos (by decide)), Nat.div_eq_of_lt hlt, Nat.zero_add]
  have e2 : num l n / 2 ^ (8 * (i + 1)) = X := by
    rw [show 8 * (i + 1) = 8 * i + 8 from rfl, Nat.pow_add, ← Nat.div_div_eq_div_mul, e1]
    have := h i
    show _ / 256 = X
    omega
  rw [e1, e2]
  omega
/-- A number read: the place, the error, the number. -/
def ri (l : List Int) (p : Nat) (e a b : Int) : Nat × Int × Int :=
  if e ≠ 0 then (p, e, 0) else if l.length < p + 8 then (p, 14, 0) else if val8 l p < a ∨ b < val8 l p then (p + 8, 13, 0) else (p + 8, 0, val8 l p)
theorem ri_le {l : List Int} {p : Nat} {e a b : Int} (hp : p ≤ l.length) : (ri l p e a b).1 ≤ l.length := by
  unfold ri
  split
  · exact hp
  · split
    · exact hp
    · split <;> dsimp <;> omega
/-- A truth read. -/
def rf (l : List Int) (p : Nat) (e : Int) : Nat × Int × Bool :=
  if e ≠ 0 then (p, e, false) else match l[p]? with
    | none => (p, 14, false)
    | some c => (p + 1, if 1 < c then 13 else 0, c == 1)
theorem rf_le {l : List Int} {p : Nat} {e : Int} (hp : p ≤ l.length) : (rf l p e).1 ≤ l.length := by
  unfold rf
  split
  · exact hp
  · split
    · exact hp
    · rename_i h; have := (List.getElem?_eq_some_iff.1 h).1; dsimp; omega
theorem Ent.tup {H : Heap} {l l' : List AV} (h : EntL H l l') : Ent H (.tup l) (.tup l') := by
  intro g y hH hg hx
  simp only [Rel] at hx ⊢
  obtain ⟨cs, rfl, h2⟩ := hx
  exact ⟨cs, rfl, h g _ hH hg h2⟩
def enc (v : Int) (i : Nat) : List Int := (List.range i).map fun j => IntKind.u8.wrap (v / 2 ^ (8 * j))
theorem enc_len (v : Int) (i : Nat) : (enc v i).length = i := by simp [enc]
theorem enc_succ (v : Int) (i : Nat) : enc v i ++ [IntKind.u8.wrap (v / 2 ^ (8 * i))] = enc v (i + 1) := by simp [enc, List.range_succ]
attribute [local simp] enc_len

/-- A row of bytes read. -/
def rb (l : List Int) (p : Nat) (e m : Int) : Nat × Int × List Int :=
  if (ri l p e 0 m).2.1 ≠ 0 then ((ri l p e 0 m).1, (ri l p e 0 m).2.1, []) else if l.length < (ri l p e 0 m).1 + (ri l p e 0 m).2.2.toNat then ((ri l p e 0 m).1, 14, []) else ((ri l p e 0 m).1 + (ri l p e 0 m).2.2.toNat, 0, (l.drop (ri l p e 0 m).1).take (ri l p e 0 m).2.2.toNat)
theorem ri_pos {l : List Int} {p : Nat} {e m : Int} : 0 ≤ (ri l p e 0 m).2.2 := by
  unfold ri
  split
  · exact Int.le_refl 0
  · split
    · exact Int.le_refl 0
    · split
      · exact Int.le_refl 0
      · dsimp; omega
theorem rb_le {l : List Int} {p : Nat} {e m : Int} (hp : p ≤ l.length) : (rb l p e m).1 ≤ l.length := by
  have := ri_le (e := e) (a := 0) (b := m) hp
  unfold rb
  split
  · exact this
  · split
    · exact this
    · dsimp; omega
def actsA (acts : List (Int × Int × Int)) : List AV := acts.map fun a => .agg [.int a.1, .int a.2.1, .int a.2.2]
theorem actsA_len (acts : List (Int × Int × Int)) : (actsA acts).length = acts.length := by simp [actsA]
theorem renL_acts (ρ : Nat → Option Nat) (acts : List (Int × Int × Int)) : renL ρ (actsA acts) = actsA acts := by
  rw [renL_map]; simp [actsA, AV.ren, renL, AV.int]
theorem passH (H : Heap) {l : List Int} {p : Nat} {e : Int} (l' : List Int) (p' : Nat) (e' : Int) : mergeH (some (R l p e) :: H) [0] [some (R l' p' e')] = some (R l' p' e') :: H := by
  simp [mergeH, setIds, renH, R, Blk.ren, renL, AV.ren, renL_ints]
theorem normRH (H : Heap) (l : List Int) (p : Nat) (e : Int) : normH [0] (some (R l p e) :: H) = [some (R l p e)] := by
  simp [normH, hget, R, Blk.ren, renL, AV.ren, renL_ints]
end Go.Proofs.Ytknhemdpfdopaaa.AmF
