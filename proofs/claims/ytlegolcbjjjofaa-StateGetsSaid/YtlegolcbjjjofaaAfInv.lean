/- What is read says which bytes were read. -/
import Derived.Test.YtlegolcbjjjofaaAfBase
namespace Go.Proofs.Ytlegolcbjjjofaa.AmF
open Go Go.AM
set_option maxRecDepth 100000
set_option linter.unusedSimpArgs false
set_option linter.unusedVariables false
attribute [local simp] tkeep tget tput ev cav argsTM pickA normT putA splice AV.cells ints_length rowsA_length enc_len
theorem wrap_emod (n : Int) : IntKind.i64.wrap n % 18446744073709551616 = n % 18446744073709551616 := wrap64_mod n
/-- Eight bytes are those of the number that they tell. -/
theorem enc_num {r : List Int} (hB : Bytes r) (hl : r.length = 8) : enc (IntKind.i64.wrap (num r 8 : Nat)) 8 = r := by
  have hN := fun j => pk_nat hB j
  have hlt : num r 8 < 18446744073709551616 := num_lt hN 8
  apply List.ext_getElem?
  intro j
  by_cases hj : j < 8
  · obtain ⟨c, hc⟩ : ∃ c, r[j]? = some c := ⟨_, List.getElem?_eq_getElem (by omega)⟩
    have hcb := hB c (List.mem_of_getElem? hc)
    have hcd : r.getD j 0 = c := by rw [List.getD_eq_getElem?_getD, hc]; rfl
    have hd := num_digit hN (l := r) (i := j) (n := 8) (by omega)
    rw [hcd] at hd
    rw [hc]
    simp only [enc, List.getElem?_map, List.getElem?_range hj, Option.map_some, wrap_u8]
    congr 1
    rw [← byte_u64 _ j hj, wrap_emod]
    generalize num r 8 = N at hd hlt ⊢
    have e1 : ((N : Nat) : Int) % 18446744073709551616 = ((N : Nat) : Int) := by omega
    have e2 : ((N : Nat) : Int) / 2 ^ (8 * j) = ((N / 2 ^ (8 * j) : Nat) : Int) := by simp
    rw [e1, e2, hd]
    omega
  · rw [List.getElem?_eq_none (by simp; omega), List.getElem?_eq_none (by omega)]
theorem ri_good {l : List Int} {p : Nat} {e a b : Int} (h : (ri l p e a b).2.1 = 0) : e = 0 ∧ a ≤ (ri l p e a b).2.2 ∧ (ri l p e a b).2.2 ≤ b := by
  unfold ri at h ⊢
  split at h
  · rename_i h1; exact absurd h h1
  · rename_i h1
    rw [if_neg h1]
    split at h
    · cases h
    · rename_i h2
      rw [if_neg h2]
      split at h
      · cases h
      · rename_i h3
        rw [if_neg h3]
        dsimp only
        omega
theorem ri_inv {l : List Int} {p : Nat} {e a b : Int} (hB : Bytes l) (h : (ri l p e a b).2.1 = 0) : e = 0 ∧ a ≤ (ri l p e a b).2.2 ∧ (ri l p e a b).2.2 ≤ b ∧ l.drop p = enc (ri l p e a b).2.2 8 ++ l.drop (ri l p e a b).1 := by
  obtain ⟨h1, h2, h3⟩ := ri_good h
  refine ⟨h1, h2, h3, ?_⟩
  have hlen : ¬ l.length < p + 8 := by
    intro h4
    unfold ri at h
    rw [if_neg (by simpa using h1), if_pos h4] at h
    cases h
  have hv : ¬ (val8 l p < a ∨ b < val8 l p) := by
    intro h4
    unfold ri at h
    rw [if_neg (by simpa using h1), if_neg hlen, if_pos h4] at h
    cases h
  have hri : ri l p e a b = (p + 8, 0, val8 l p) := by
    unfold ri
    rw [if_neg (by simpa using h1), if_neg hlen, if_neg hv]
  rw [hri]
  have hen := enc_num (r := (l.drop p).take 8) ((hB.drop p).take 8) (by simp; omega)
  have : enc (val8 l p) 8 = (l.drop p).take 8 := hen
  rw [this, ← List.drop_drop, List.take_append_drop]
theorem rb_inv {l : List Int} {p : Nat} {e m : Int} (hB : Bytes l) (h : (rb l p e m).2.1 = 0) : e = 0 ∧ ((rb l p e m).2.2.length : Int) ≤ m ∧ l.drop p = enc (rb l p e m).2.2.length 8 ++ ((rb l p e m).2.2 ++ l.drop (rb l p e m).1) := by
  by_cases he : (ri l p e 0 m).2.1 ≠ 0
  · have : rb l p e m = ((ri l p e 0 m).1, (ri l p e 0 m).2.1, []) := by unfold rb; rw [if_pos he]
    rw [this] at h
    exact absurd h he
  · obtain ⟨h1, h2, h3, h4⟩ := ri_inv hB (by simpa using he)
    obtain ⟨q, hq⟩ : ∃ q, ri l p e 0 m = q := ⟨_, rfl⟩
    rw [hq] at h2 h3 h4 he
    by_cases hn : l.length < q.1 + q.2.2.toNat
    · have : rb l p e m = (q.1, 14, []) := by unfold rb; rw [hq, if_neg he, if_pos hn]
      rw [this] at h
      cases h
    · have hrb : rb l p e m = (q.1 + q.2.2.toNat, 0, (l.drop q.1).take q.2.2.toNat) := by unfold rb; rw [hq, if_neg he, if_neg hn]
      rw [hrb]
      have hlen : ((l.drop q.1).take q.2.2.toNat).length = q.2.2.toNat := by simp; omega
      have hcast : ((((l.drop q.1).take q.2.2.toNat).length : Nat) : Int) = q.2.2 := by rw [hlen]; omega
      refine ⟨h1, by dsimp only; omega, ?_⟩
      dsimp only
      rw [hcast, h4, ← List.drop_drop, List.take_append_drop]
theorem rf_inv {l : List Int} {p : Nat} {e : Int} (hB : Bytes l) (h : (rf l p e).2.1 = 0) : e = 0 ∧ l.drop p = [if (rf l p e).2.2 = true then 1 else 0] ++ l.drop (rf l p e).1 := by
  by_cases he : e ≠ 0
  · have : rf l p e = (p, e, false) := by unfold rf; rw [if_pos he]
    rw [this] at h
    exact absurd h he
  · have h0 : e = 0 := by omega
    cases hp : l[p]? with
    | none =>
      have : rf l p e = (p, 14, false) := by unfold rf; rw [if_neg he, hp]
      rw [this] at h
      cases h
    | some c =>
      have hrf : rf l p e = (p + 1, if 1 < c then 13 else 0, c == 1) := by unfold rf; rw [if_neg he, hp]
      rw [hrf] at h ⊢
      dsimp only at h ⊢
      have hc1 : ¬ 1 < c := by
        intro h1
        rw [if_pos h1] at h
        cases h
      have hcb := hB c (List.mem_of_getElem? hp)
      have hlt := (List.getElem?_eq_some_iff.1 hp).1
      have hcc : l[p] = c := (List.getElem?_eq_some_iff.1 hp).2
      refine ⟨h0, ?_⟩
      rw [List.drop_eq_getElem_cons hlt, hcc]
      have : c = 0 ∨ c = 1 := by omega
      rcases this with rfl | rfl <;> rfl
end Go.Proofs.Ytlegolcbjjjofaa.AmF
