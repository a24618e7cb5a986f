/- Walks over the abstract machine: numbers, rows and truths laid and read again. -/
import Derived.Test.YtknhemdpfdopaaaAfPack
namespace Go.Proofs.Ytknhemdpfdopaaa.AmF
open Go Go.AM
set_option maxRecDepth 100000
set_option linter.unusedSimpArgs false
set_option linter.unusedVariables false
attribute [local simp] tkeep tget tput ev cav argsTM pickA normT putA splice AV.cells ints_length rowsA_length enc_len
def I64 (v : Int) : Prop := -9223372036854775808 ≤ v ∧ v ≤ 9223372036854775807
theorem enc_get (v : Int) (n i : Nat) (h : i < n) : (enc v n).getD i 0 = v / 2 ^ (8 * i) % 256 := by
  rw [List.getD_eq_getElem?_getD]
  simp [enc, h, wrap_u8]
theorem num_enc (v : Int) (n : Nat) : ∀ i, i ≤ n → (num (enc v n) i : Int) = v % 2 ^ (8 * i)
  | 0, _ => by simp [num, Int.emod_one]
  | i + 1, h => by
    have ih := num_enc v n i (by omega)
    have hg := enc_get v n i (by omega)
    have hA : (0 : Int) < 2 ^ (8 * i) := Int.pow_pos (by decide)
    have hs := emod_step v (2 ^ (8 * i)) hA
    have he : (2 : Int) ^ (8 * (i + 1)) = 2 ^ (8 * i) * 256 := by rw [Nat.mul_add, Int.pow_add, show (2 : Int) ^ (8 * 1) = 256 from by decide]
    have h0 := Int.emod_nonneg (v / 2 ^ (8 * i)) (show (256 : Int) ≠ 0 by decide)
    simp only [num, hg, he, hs]
    rw [Int.natCast_add, Int.natCast_mul, ih, Int.toNat_of_nonneg h0, Int.natCast_pow]
    exact Int.add_comm _ _
theorem enc_bytes (v : Int) (n : Nat) : Bytes (enc v n) := by
  intro x hx
  simp only [enc, List.mem_map] at hx
  obtain ⟨i, _, rfl⟩ := hx
  rw [wrap_u8]
  omega
theorem val8_enc {l a b : List Int} {v : Int} (hl : l = a ++ (enc v 8 ++ b)) (hv : I64 v) : val8 l a.length = v := by
  unfold val8
  subst hl
  rw [List.drop_left, List.take_left' (enc_len v 8), num_enc v 8 8 (Nat.le_refl _)]
  have he : (2 : Int) ^ (8 * 8) = 18446744073709551616 := by decide
  rw [he]
  obtain ⟨h1, h2⟩ := hv
  simp [IntKind.wrap, IntKind.bits, IntKind.signed]
  split <;> omega
theorem ri_enc {l a b : List Int} {v lo hi : Int} {p : Nat} (hp : p = a.length) (hl : l = a ++ (enc v 8 ++ b)) (hv : I64 v) : ri l p 0 lo hi = (p + 8, if v < lo ∨ hi < v then 13 else 0, if v < lo ∨ hi < v then 0 else v) := by
  have h8 := val8_enc hl hv
  rw [← hp] at h8
  have hlen : ¬ l.length < p + 8 := by rw [hl, hp]; simp
  unfold ri
  rw [if_neg (by simp), if_neg hlen, h8]
  by_cases h : v < lo ∨ hi < v
  · rw [if_pos h, if_pos h, if_pos h]
  · rw [if_neg h, if_neg h, if_neg h]
theorem rb_enc {l a b x : List Int} {m : Int} {p : Nat} (hp : p = a.length) (hl : l = a ++ (enc x.length 8 ++ (x ++ b))) (hx : (x.length : Int) ≤ m) (hx' : x.length ≤ 140737488355328) : rb l p 0 m = (p + 8 + x.length, 0, x) := by
  have h := ri_enc (lo := 0) (hi := m) hp hl (v := x.length) ⟨by omega, by omega⟩
  have hc : ¬ ((x.length : Int) < 0 ∨ m < (x.length : Int)) := by omega
  rw [if_neg hc, if_neg hc] at h
  unfold rb
  rw [h]
  have hlen : ¬ l.length < p + 8 + ((x.length : Nat) : Int).toNat := by rw [hl, hp]; simp; omega
  dsimp only
  rw [if_neg (by simp), if_neg hlen]
  have hd : l.drop (p + 8) = x ++ b := by
    rw [hl, ← List.append_assoc]
    exact List.drop_left' (by simp [hp])
  rw [hd]
  simp
theorem rf_enc {l a b : List Int} {c : Int} {p : Nat} (hp : p = a.length) (hl : l = a ++ (c :: b)) : rf l p 0 = (p + 1, if 1 < c then 13 else 0, c == 1) := by
  unfold rf
  have : l[p]? = some c := by rw [hl, hp]; simp
  simp [this]

end Go.Proofs.Ytknhemdpfdopaaa.AmF
