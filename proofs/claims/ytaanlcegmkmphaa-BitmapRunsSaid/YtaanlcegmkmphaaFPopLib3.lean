/- How many bits of a word are set: what the printed bits.OnesCount64 computes. -/
import Derived.Test.YtaanlcegmkmphaaFBmLib3
import Derived.ArgAppend
import Derived.Below
import Derived.BigQuiet
import Derived.Deep.AppendLies
import Derived.Deep.CutBlock
import Derived.Deep.DeepCutAuto
import Derived.Deep.Draws
import Derived.Deep.LoopGhost
import Derived.Deep.OwnRows
import Derived.Deep.QuietTactic
import Derived.Deep.RegionHeld3
import Derived.KernelRfl
import Derived.Laws.BitsLemmas
import Derived.Laws.BytesArg
import Derived.Laws.IdiomCopy
import Derived.Laws.MakeOwn
import Derived.Laws.OwnMore
import Derived.Laws.Rows
import Derived.Laws.Slices
import Derived.Lib.AppendStr
import Derived.Lib.ConvBytes
import Derived.Maps.AppendAt
import Derived.OrdersHeld
import Derived.OwnWalk
import Derived.RowKit
import Derived.RowKit3
import Derived.Tactics
import Derived.Test.YtaanlcegmkmphaaFMyWords
import Derived.Test.YtaanlcegmkmphaaProg
import Derived.Test.YtaanlcegmkmphaaFWApart
import Derived.Test.YtaanlcegmkmphaaFWArr
import Derived.Test.YtaanlcegmkmphaaFWAt
import Derived.Test.YtaanlcegmkmphaaFWEqStruct
import Derived.Test.YtaanlcegmkmphaaFWFoot
import Derived.Test.YtaanlcegmkmphaaFWFootNe
import Derived.Test.YtaanlcegmkmphaaFWFour
import Derived.Test.YtaanlcegmkmphaaFWGuard
import Derived.Test.YtaanlcegmkmphaaFWInv
import Derived.Test.YtaanlcegmkmphaaFWInvWords
import Derived.Test.YtaanlcegmkmphaaFWKept
import Derived.Test.YtaanlcegmkmphaaFWLast
import Derived.Test.YtaanlcegmkmphaaFWMore
import Derived.Test.YtaanlcegmkmphaaFWN
import Derived.Test.YtaanlcegmkmphaaFWNEv
import Derived.Test.YtaanlcegmkmphaaFWQPut
import Derived.Test.YtaanlcegmkmphaaFWRepsOne
import Derived.Test.YtaanlcegmkmphaaFWShare
import Derived.Test.YtaanlcegmkmphaaFWTab
import Derived.Test.YtaanlcegmkmphaaFWWords
import Derived.Test.YtaanlcegmkmphaaFWZeros
import Derived.WalkKit
import Derived.WideLaws
import Derived.Test.YtaanlcegmkmphaaFMbitmapp2
import Derived.Test.YtaanlcegmkmphaaFMbits
namespace Go.Proofs.Ytaanlcegmkmphaa.PopLib
open Go.RowKit Go.Proofs.Ytaanlcegmkmphaa.M Go.Proofs.Ytaanlcegmkmphaa.BmLib Go.Proofs.YtaanlcegmkmphaaW.PrintWords Go.Proofs.YtaanlcegmkmphaaW.PrintLast Go.Proofs.YtaanlcegmkmphaaW.PrintMore Go.Proofs.YtaanlcegmkmphaaW.MyPure

theorem and_split (a b c d : Nat) (ha : a < 256) (hc : c < 256) : (a + 256 * b) &&& (c + 256 * d) = (a &&& c) + 256 * (b &&& d) := by
  apply Nat.eq_of_testBit_eq
  intro i
  have e : ∀ x y : Nat, x + 256 * y = 2 ^ 8 * y + x := fun x y => by omega
  have hac : a &&& c < 2 ^ 8 := Nat.and_lt_two_pow _ hc
  rw [Nat.testBit_and, e a b, e c d, e (a &&& c) (b &&& d), Nat.testBit_two_pow_mul_add _ ha, Nat.testBit_two_pow_mul_add _ hc, Nat.testBit_two_pow_mul_add _ hac]
  split <;> simp
def msk (c : Nat) : Nat → Nat
  | 0 => 0
  | j + 1 => c + 256 * msk c j
def s1 (b : Nat) : Nat := ((b / 2) &&& 0x55) + (b &&& 0x55)
def s2 (b : Nat) : Nat := ((b / 4) &&& 0x33) + (b &&& 0x33)
def S1 (j x : Nat) : Nat := ((x / 2) &&& msk 0x55 j) + (x &&& msk 0x55 j)
def S2 (j x : Nat) : Nat := ((x / 4) &&& msk 0x33 j) + (x &&& msk 0x33 j)
def S3 (j x : Nat) : Nat := (x / 16 + x) &&& msk 0x0f j
def pop (n x : Nat) : Nat := match n with
  | 0 => 0
  | n + 1 => x % 2 + pop n (x / 2)
theorem low1 : ∀ n : Fin 128, ∀ e : Fin 2, ((n.val + 128 * e.val) &&& 0x55) = (n.val &&& 0x55) := by decide +kernel
theorem low2 : ∀ n : Fin 64, ∀ e : Fin 4, ((n.val + 64 * e.val) &&& 0x33) = (n.val &&& 0x33) := by decide +kernel
theorem low3 : ∀ n : Fin 73, ∀ e : Fin 5, ((n.val + 16 * e.val) &&& 0x0f) = (n.val &&& 0x0f) := by decide +kernel
theorem byte_is : ∀ n : Fin 256, s1 n.val < 256 ∧ s2 (s1 n.val) ≤ 68 ∧ s2 (s1 n.val) % 16 ≤ 4 ∧ ((s2 (s1 n.val) / 16 + s2 (s1 n.val)) &&& 0x0f) = pop 8 n.val := by decide +kernel
theorem S1_step (j x : Nat) : S1 (j + 1) x = s1 (x % 256) + 256 * S1 j (x / 256) := by
  have e0 : x = x % 256 + 256 * (x / 256) := by omega
  have e1 : x / 2 = (x % 256 / 2 + 128 * (x / 256 % 2)) + 256 * (x / 256 / 2) := by omega
  have l := low1 ⟨x % 256 / 2, by omega⟩ ⟨x / 256 % 2, by omega⟩
  simp only at l
  unfold S1 s1
  show (x / 2 &&& (85 + 256 * msk 85 j)) + (x &&& (85 + 256 * msk 85 j)) = _
  have a1 : x / 2 &&& (85 + 256 * msk 85 j) = (x % 256 / 2 &&& 85) + 256 * (x / 256 / 2 &&& msk 85 j) := by
    rw [e1, and_split _ _ _ _ (by omega) (by omega), l]
  have a2 : x &&& (85 + 256 * msk 85 j) = (x % 256 &&& 85) + 256 * (x / 256 &&& msk 85 j) := by
    have := and_split (x % 256) (x / 256) 85 (msk 85 j) (by omega) (by omega)
    rw [← e0] at this
    exact this
  rw [a1, a2]
  omega
theorem S2_step (j p q : Nat) (hp : p < 256) : S2 (j + 1) (p + 256 * q) = s2 p + 256 * S2 j q := by
  have e1 : (p + 256 * q) / 4 = (p / 4 + 64 * (q % 4)) + 256 * (q / 4) := by omega
  have l := low2 ⟨p / 4, by omega⟩ ⟨q % 4, by omega⟩
  simp only at l
  unfold S2 s2
  show ((p + 256 * q) / 4 &&& (51 + 256 * msk 51 j)) + ((p + 256 * q) &&& (51 + 256 * msk 51 j)) = _
  rw [e1, and_split _ _ _ _ (by omega) (by omega), l, and_split _ _ _ _ hp (by omega)]
  omega
theorem S3_step (j p q : Nat) (hp : p ≤ 68) (hq : q % 16 ≤ 4) : S3 (j + 1) (p + 256 * q) = ((p / 16 + p) &&& 0x0f) + 256 * S3 j q := by
  have e1 : (p + 256 * q) / 16 + (p + 256 * q) = ((p / 16 + p) + 16 * (q % 16)) + 256 * (q / 16 + q) := by omega
  have l := low3 ⟨p / 16 + p, by omega⟩ ⟨q % 16, by omega⟩
  simp only at l
  unfold S3
  show ((p + 256 * q) / 16 + (p + 256 * q)) &&& (15 + 256 * msk 15 j) = _
  rw [e1, and_split _ _ _ _ (by omega) (by omega), l]
theorem T2_all : ∀ j x, S2 (j + 1) (S1 (j + 1) x) = s2 (s1 (x % 256)) + 256 * S2 j (S1 j (x / 256)) := fun j x => by
  rw [S1_step, S2_step _ _ _ (byte_is ⟨x % 256, by omega⟩).1]
theorem T2_low : ∀ j x, S2 j (S1 j x) % 16 ≤ 4
  | 0, x => by simp [S2, msk]
  | j + 1, x => by
    rw [T2_all]
    have := (byte_is ⟨x % 256, by omega⟩).2.2.1
    simp only at this
    omega
theorem S1_lt : ∀ j x, S1 j x < 256 ^ j
  | 0, x => by simp [S1, msk]
  | j + 1, x => by
    rw [S1_step, Nat.pow_succ]
    have h1 := (byte_is ⟨x % 256, by omega⟩).1
    have h2 := S1_lt j (x / 256)
    simp only at h1
    omega
theorem T2_lt : ∀ j x, 2 * S2 j (S1 j x) < 256 ^ j
  | 0, x => by simp [S2, msk]
  | j + 1, x => by
    rw [T2_all, Nat.pow_succ]
    have h1 := (byte_is ⟨x % 256, by omega⟩).2.1
    have h2 := T2_lt j (x / 256)
    simp only at h1
    omega
theorem T3_step (j x : Nat) : S3 (j + 1) (S2 (j + 1) (S1 (j + 1) x)) = pop 8 (x % 256) + 256 * S3 j (S2 j (S1 j (x / 256))) := by
  have h := byte_is ⟨x % 256, by omega⟩
  simp only at h
  rw [T2_all, S3_step _ _ _ h.2.1 (T2_low _ _), h.2.2.2]
theorem pop_le : ∀ n x, pop n x ≤ n
  | 0, _ => Nat.le_refl _
  | n + 1, x => by
    have := pop_le n (x / 2)
    simp only [pop]
    omega
theorem pop_add : ∀ m n x, pop (m + n) x = pop m (x % 2 ^ m) + pop n (x / 2 ^ m)
  | 0, n, x => by simp [pop]
  | m + 1, n, x => by
    have e : m + 1 + n = (m + n) + 1 := by omega
    have e1 : x % 2 ^ (m + 1) % 2 = x % 2 := Nat.mod_mod_of_dvd _ ⟨2 ^ m, by rw [Nat.pow_succ, Nat.mul_comm]⟩
    have e2 : x % 2 ^ (m + 1) / 2 = x / 2 % 2 ^ m := by
      rw [Nat.pow_succ, Nat.mul_comm, Nat.mod_mul_right_div_self]
    have e3 : x / 2 ^ (m + 1) = x / 2 / 2 ^ m := by
      rw [Nat.div_div_eq_div_mul, Nat.pow_succ, Nat.mul_comm]
    rw [e]
    simp only [pop]
    rw [pop_add m n (x / 2), e1, e2, e3]
    omega
theorem pop8 (n x : Nat) : pop (8 + n) x = pop 8 (x % 256) + pop n (x / 256) := pop_add 8 n x
theorem msk_u (c j : Nat) (hc : c < 256) : msk c j < 256 ^ j := by
  induction j with
  | zero => simp [msk]
  | succ j ih => rw [Nat.pow_succ]; show c + 256 * msk c j < _; omega
theorem id_z (q0 q1 q2 q3 q4 q5 q6 q7 : Nat) : q0 + 256 * (q1 + 256 * (q2 + 256 * (q3 + 256 * (q4 + 256 * (q5 + 256 * (q6 + 256 * q7)))))) + (q1 + 256 * (q2 + 256 * (q3 + 256 * (q4 + 256 * (q5 + 256 * (q6 + 256 * q7)))))) = (q0 + q1) + 256 * (q1 + q2) + 65536 * ((q2 + q3) + 256 * (q3 + q4) + 65536 * ((q4 + q5) + 256 * (q5 + q6) + 65536 * ((q6 + q7) + 256 * q7))) := by omega
theorem id_u (A B C D : Nat) : A + 65536 * (B + 65536 * (C + 65536 * D)) + (B + 65536 * (C + 65536 * D)) = (A + B + 65536 * (B + C)) + 4294967296 * (C + D + 65536 * D) := by omega
theorem id_v (A B C D : Nat) : (A + B + 65536 * (B + C)) + 4294967296 * (C + D + 65536 * D) + (C + D + 65536 * D) = (A + B + C + D) + 128 * (512 * (B + C) + 33554432 * (C + D + 65536 * D) + 512 * D) := by omega
theorem id_s (q0 q1 q2 q3 q4 q5 q6 q7 : Nat) : ((q0 + q1) + 256 * (q1 + q2)) + ((q2 + q3) + 256 * (q3 + q4)) + ((q4 + q5) + 256 * (q5 + q6)) + ((q6 + q7) + 256 * q7) = (q0 + (q1 + (q2 + (q3 + (q4 + (q5 + (q6 + q7))))))) + 128 * (2 * (q1 + q2 + q3 + q4 + q5 + q6 + q7)) := by omega
theorem half_le {a b c : Nat} (ha : a ≤ 8) (hb : b ≤ 8) (hc : c ≤ 8) : (a + b) + 256 * (b + c) ≤ 4112 := by omega
theorem div_add (a b m : Nat) (h : a < m) : (a + m * b) / m = b := by rw [Nat.add_mul_div_left _ _ (by omega : 0 < m), Nat.div_eq_of_lt h, Nat.zero_add]
theorem low_four (A B C D s t : Nat) (bA : A ≤ 4112) (bB : B ≤ 4112) (bC : C ≤ 4112) (bD : D ≤ 4112) (hs : A + B + C + D = s + 128 * t) (h64 : s ≤ 64) (z : Nat) (hz : z = A + 65536 * (B + 65536 * (C + 65536 * D))) :
    ∃ u v, u = z + z / 65536 ∧ v = u + u / 4294967296 ∧ z < 18446744073709551616 ∧ u < 18446744073709551616 ∧ v < 9223372036854775808 ∧ v % 128 = s := by
  have d2 : z / 65536 = B + 65536 * (C + 65536 * D) := by rw [hz, div_add _ _ _ (by omega)]
  have eu : z + z / 65536 = (A + B + 65536 * (B + C)) + 4294967296 * (C + D + 65536 * D) := by rw [d2, hz, id_u]
  have d3 : ((A + B + 65536 * (B + C)) + 4294967296 * (C + D + 65536 * D)) / 4294967296 = C + D + 65536 * D := div_add _ _ _ (by omega)
  refine ⟨_, _, rfl, rfl, by omega, ?_, ?_, ?_⟩
  · rw [eu]; omega
  · rw [eu, d3]; omega
  · rw [eu, d3, id_v, Nat.add_mul_mod_self_left, hs, Nat.add_mul_mod_self_left, Nat.mod_eq_of_lt (by omega)]
theorem low_sum (y q0 q1 q2 q3 q4 q5 q6 q7 : Nat) (g0 : q0 ≤ 8) (g1 : q1 ≤ 8) (g2 : q2 ≤ 8) (g3 : q3 ≤ 8) (g4 : q4 ≤ 8) (g5 : q5 ≤ 8) (g6 : q6 ≤ 8) (g7 : q7 ≤ 8)
    (e : y = q0 + 256 * (q1 + 256 * (q2 + 256 * (q3 + 256 * (q4 + 256 * (q5 + 256 * (q6 + 256 * q7))))))) :
    ∃ z u v, z = y + y / 256 ∧ u = z + z / 65536 ∧ v = u + u / 4294967296 ∧ z < 18446744073709551616 ∧ u < 18446744073709551616 ∧ v < 9223372036854775808 ∧ v % 128 = q0 + (q1 + (q2 + (q3 + (q4 + (q5 + (q6 + q7)))))) := by
  have d1 : y / 256 = q1 + 256 * (q2 + 256 * (q3 + 256 * (q4 + 256 * (q5 + 256 * (q6 + 256 * q7))))) := by rw [e, div_add _ _ _ (by omega)]
  have hz : y + y / 256 = (q0 + q1) + 256 * (q1 + q2) + 65536 * ((q2 + q3) + 256 * (q3 + q4) + 65536 * ((q4 + q5) + 256 * (q5 + q6) + 65536 * ((q6 + q7) + 256 * q7))) := by rw [d1, e, id_z]
  have h7 : (q6 + q7) + 256 * q7 ≤ 4112 := half_le g6 g7 (Nat.zero_le 8)
  obtain ⟨u, v, h⟩ := low_four _ _ _ _ (q0 + (q1 + (q2 + (q3 + (q4 + (q5 + (q6 + q7))))))) (2 * (q1 + q2 + q3 + q4 + q5 + q6 + q7)) (half_le g0 g1 g2) (half_le g2 g3 g4) (half_le g4 g5 g6) h7 (id_s q0 q1 q2 q3 q4 q5 q6 q7) (by clear hz d1 e h7; omega) (y + y / 256) hz
  exact ⟨_, u, v, rfl, h⟩
theorem ones_tells {x : Int} (h : W64 x) : bits_OnesCount64.f x = some ((pop 64 x.toNat : Nat) : Int) := by
  obtain ⟨n, rfl, hn⟩ := h.nat
  have hn' : n < 18446744073709551616 := hn
  have andN : ∀ a b : Nat, a < 18446744073709551616 → b < 18446744073709551616 → Go.bits .and .u64 (a : Int) (b : Int) = ((a &&& b : Nat) : Int) := fun a b ha hb => (bits_nat .u64 64 (by decide) wraps_u64 a b ha hb).1
  have wr : ∀ a : Nat, a < 18446744073709551616 → IntKind.u64.wrap (a : Int) = (a : Int) := fun a ha => wraps_u64 _ (Int.natCast_nonneg _) (by exact_mod_cast ha)
  have b1 := S1_lt 8 n
  have b2 := T2_lt 8 n
  have p8 : (256 : Nat) ^ 8 = 18446744073709551616 := by decide
  rw [p8] at b1 b2
  -- first
  have f1 : IntKind.u64.wrap ((Go.bits .and .u64 ((n : Int) / 2) 6148914691236517205) + (Go.bits .and .u64 (n : Int) 6148914691236517205)) = ((S1 8 n : Nat) : Int) := by
    have d : (n : Int) / 2 = ((n / 2 : Nat) : Int) := by simp
    have m : (6148914691236517205 : Int) = ((msk 0x55 8 : Nat) : Int) := by decide +kernel
    rw [d, m, andN _ _ (by omega) (msk_u _ _ (by omega)), andN _ _ hn' (msk_u _ _ (by omega))]
    have := wr (S1 8 n) b1
    unfold S1 at this ⊢
    rw [← this]
    push_cast
    rfl
  have f2 : IntKind.u64.wrap ((Go.bits .and .u64 (((S1 8 n : Nat) : Int) / 4) 3689348814741910323) + (Go.bits .and .u64 ((S1 8 n : Nat) : Int) 3689348814741910323)) = ((S2 8 (S1 8 n) : Nat) : Int) := by
    have d : ((S1 8 n : Nat) : Int) / 4 = ((S1 8 n / 4 : Nat) : Int) := by simp
    have m : (3689348814741910323 : Int) = ((msk 0x33 8 : Nat) : Int) := by decide +kernel
    rw [d, m, andN _ _ (by omega) (msk_u _ _ (by omega)), andN _ _ (by omega) (msk_u _ _ (by omega))]
    have := wr (S2 8 (S1 8 n)) (by omega)
    generalize S1 8 n = y at this ⊢
    unfold S2 at this ⊢
    rw [← this]
    push_cast
    rfl
  have f3 : Go.bits .and .u64 (IntKind.u64.wrap ((((S2 8 (S1 8 n) : Nat) : Int) / 16) + ((S2 8 (S1 8 n) : Nat) : Int))) 1085102592571150095 = ((S3 8 (S2 8 (S1 8 n)) : Nat) : Int) := by
    generalize S2 8 (S1 8 n) = y at b2
    have d : ((y : Nat) : Int) / 16 + (y : Int) = ((y / 16 + y : Nat) : Int) := by simp
    have m : (1085102592571150095 : Int) = ((msk 0x0f 8 : Nat) : Int) := by decide +kernel
    rw [d, m, wr _ (by omega), andN _ _ (by omega) (msk_u _ _ (by omega))]
    rfl
  unfold bits_OnesCount64.f
  rw [f1, f2]
  rw [f3]
  have e : S3 8 (S2 8 (S1 8 n)) = pop 8 (n % 256) + 256 * (pop 8 (n / 256 % 256) + 256 * (pop 8 (n / 256 / 256 % 256) + 256 * (pop 8 (n / 256 / 256 / 256 % 256) + 256 * (pop 8 (n / 256 / 256 / 256 / 256 % 256) + 256 * (pop 8 (n / 256 / 256 / 256 / 256 / 256 % 256) + 256 * (pop 8 (n / 256 / 256 / 256 / 256 / 256 / 256 % 256) + 256 * (pop 8 (n / 256 / 256 / 256 / 256 / 256 / 256 / 256 % 256)))))))) := by
    rw [T3_step, T3_step, T3_step, T3_step, T3_step, T3_step, T3_step, T3_step]
    simp [S3, msk]
  have e2 : pop 64 n = pop 8 (n % 256) + (pop 8 (n / 256 % 256) + (pop 8 (n / 256 / 256 % 256) + (pop 8 (n / 256 / 256 / 256 % 256) + (pop 8 (n / 256 / 256 / 256 / 256 % 256) + (pop 8 (n / 256 / 256 / 256 / 256 / 256 % 256) + (pop 8 (n / 256 / 256 / 256 / 256 / 256 / 256 % 256) + (pop 8 (n / 256 / 256 / 256 / 256 / 256 / 256 / 256 % 256)))))))) := by
    rw [show 64 = 8 + (8 + (8 + (8 + (8 + (8 + (8 + (8 + 0))))))) from rfl, pop8, pop8, pop8, pop8, pop8, pop8, pop8, pop8]
    simp [pop]
  have g0 := pop_le 8 (n % 256)
  have g1 := pop_le 8 (n / 256 % 256)
  have g2 := pop_le 8 (n / 256 / 256 % 256)
  have g3 := pop_le 8 (n / 256 / 256 / 256 % 256)
  have g4 := pop_le 8 (n / 256 / 256 / 256 / 256 % 256)
  have g5 := pop_le 8 (n / 256 / 256 / 256 / 256 / 256 % 256)
  have g6 := pop_le 8 (n / 256 / 256 / 256 / 256 / 256 / 256 % 256)
  have g7 := pop_le 8 (n / 256 / 256 / 256 / 256 / 256 / 256 / 256 % 256)
  have e3 : (n.cast : Int).toNat = n := Int.toNat_natCast n
  rw [e3, e2]
  generalize pop 8 (n % 256) = q0 at *
  generalize pop 8 (n / 256 % 256) = q1 at *
  generalize pop 8 (n / 256 / 256 % 256) = q2 at *
  generalize pop 8 (n / 256 / 256 / 256 % 256) = q3 at *
  generalize pop 8 (n / 256 / 256 / 256 / 256 % 256) = q4 at *
  generalize pop 8 (n / 256 / 256 / 256 / 256 / 256 % 256) = q5 at *
  generalize pop 8 (n / 256 / 256 / 256 / 256 / 256 / 256 % 256) = q6 at *
  generalize pop 8 (n / 256 / 256 / 256 / 256 / 256 / 256 / 256 % 256) = q7 at *
  generalize S3 8 (S2 8 (S1 8 n)) = y at *
  clear f1 f2 f3 b1 b2 h hn hn' e2 e3
  obtain ⟨z, u, v, hz, hu, hv, bz, bu, bv, low⟩ := low_sum y q0 q1 q2 q3 q4 q5 q6 q7 g0 g1 g2 g3 g4 g5 g6 g7 e
  have d1 : IntKind.u64.wrap ((y : Int) + (y : Int) / 256) = ((z : Nat) : Int) := by
    have c : (y : Int) + (y : Int) / 256 = (z : Int) := by clear bz bu bv; omega
    rw [c]
    exact wr z bz
  rw [d1]
  have d2 : IntKind.u64.wrap ((z : Int) + (z : Int) / 65536) = ((u : Nat) : Int) := by
    have c : (z : Int) + (z : Int) / 65536 = (u : Int) := by clear bz bu bv; omega
    rw [c]
    exact wr u bu
  rw [d2]
  have d3 : IntKind.u64.wrap ((u : Int) + (u : Int) / 4294967296) = ((v : Nat) : Int) := by
    have c : (u : Int) + (u : Int) / 4294967296 = (v : Int) := by clear bz bu bv; omega
    rw [c]
    exact wr v (by omega)
  rw [d3]
  clear d1 d2 d3 e hz hu hv
  have hv2 : v < 2 ^ 63 := bv
  have wrp : wrap64 (v : Int) = (v : Int) := by
    unfold wrap64; omega
  have wi : ∀ n : Int, 0 ≤ n → n < 2 ^ 63 → IntKind.i64.wrap n = n := fun n h0 h1 => by
    simp [IntKind.wrap, IntKind.bits, IntKind.signed]
    omega
  have la := (bits_nat .i64 63 (by decide) wi v 127 hv2 (by decide)).1
  have e4 : ((127 : Nat) : Int) = 127 := rfl
  rw [e4] at la
  rw [wrp, la, show 127 = 2 ^ 7 - 1 from rfl, Nat.and_two_pow_sub_one_eq_mod]
  congr 2

def cnt (f : Nat → Bool) : Nat → Nat
  | 0 => 0
  | m + 1 => cnt f m + (f m).toNat
theorem cnt_le (f : Nat → Bool) : ∀ m, cnt f m ≤ m
  | 0 => Nat.le_refl _
  | m + 1 => by
    have := cnt_le f m
    have := Bool.toNat_le (f m)
    simp only [cnt]; omega
theorem cnt_add (f : Nat → Bool) (m : Nat) : ∀ n, cnt f (m + n) = cnt f m + cnt (fun i => f (m + i)) n
  | 0 => rfl
  | n + 1 => by
    show cnt f (m + n) + (f (m + n)).toNat = cnt f m + (cnt (fun i => f (m + i)) n + (f (m + n)).toNat)
    rw [cnt_add f m n]; omega
theorem cnt_congr {f g : Nat → Bool} : ∀ m, (∀ i, i < m → f i = g i) → cnt f m = cnt g m
  | 0, _ => rfl
  | m + 1, h => by
    simp only [cnt]
    rw [cnt_congr m (fun i hi => h i (by omega)), h m (by omega)]
theorem cnt_none {f : Nat → Bool} : ∀ m, (∀ i, i < m → f i = false) → cnt f m = 0
  | 0, _ => rfl
  | m + 1, h => by
    simp only [cnt]
    rw [cnt_none m (fun i hi => h i (by omega)), h m (by omega)]; rfl
theorem cnt_head (f : Nat → Bool) (n : Nat) : cnt f (n + 1) = (f 0).toNat + cnt (fun i => f (i + 1)) n := by
  rw [Nat.add_comm n 1, cnt_add f 1 n]
  have : (fun i => f (1 + i)) = fun i => f (i + 1) := funext fun i => by rw [Nat.add_comm]
  rw [this]
  simp [cnt]
theorem pop_cnt : ∀ n x, pop n x = cnt (fun i => x.testBit i) n
  | 0, _ => rfl
  | n + 1, x => by
    rw [cnt_head]
    simp only [pop, Nat.testBit_succ]
    rw [pop_cnt n (x / 2), Nat.testBit_zero]
    have : x % 2 = (decide (x % 2 = 1)).toNat := by
      by_cases c : x % 2 = 1
      · simp [c]
      · have : x % 2 = 0 := by omega
        simp [this]
    omega
def many (bs : List Bool) (m : Nat) : Nat := cnt (fun i => bs.getD i false) m
theorem count_l0 {ws : List Int} {n : Int} {bs : List Bool} (h : Rep ws n bs) : ∀ (d k : Nat) (j : Int), 0 ≤ j → j + d = ws.length → d < k →
    bitmap_Count.l0 k (many bs (64 * j.toNat)) ws (ws.length : Int) j = some ((many bs bs.length : Nat) : Int) := by
  have hle := h.le
  have hwl := h.wl
  have past : ∀ m, bs.length ≤ m → many bs m = many bs bs.length := fun m hm => by
    obtain ⟨d, rfl⟩ : ∃ d, m = bs.length + d := ⟨m - bs.length, by omega⟩
    unfold many
    rw [cnt_add, cnt_none d (fun i _ => by rw [List.getD_eq_getElem?_getD, List.getElem?_eq_none (by omega)]; rfl)]
    rfl
  intro d
  induction d with
  | zero =>
    intro k j h0 h1 hk
    obtain ⟨k, rfl⟩ := rounds_succ' hk
    simp only [bitmap_Count.l0]
    rw [if_neg (by omega), past _ (by omega)]
  | succ d ih =>
    intro k j h0 h1 hk
    obtain ⟨k, rfl⟩ := rounds_succ' hk
    simp only [bitmap_Count.l0]
    have hx := h.w _ (rd_mem (l := ws) j h0 (by omega))
    rw [if_pos (by omega), if_pos h0, if_pos (by omega), ones_tells hx]
    simp only [Option.bind_some]
    have e : many bs (64 * j.toNat) + pop 64 (rd ws j).toNat = many bs (64 * (j + 1).toNat) := by
      have e1 : 64 * (j + 1).toNat = 64 * j.toNat + 64 := by omega
      rw [e1]
      unfold many
      rw [cnt_add, pop_cnt]
      congr 1
      refine cnt_congr 64 fun i hi => ?_
      have := h.b (64 * j.toNat + i)
      unfold bitAt at this
      rw [show (64 * j.toNat + i) / 64 = j.toNat from by omega, show (64 * j.toNat + i) % 64 = i from by omega] at this
      exact this
    have b1 := cnt_le (fun i => bs.getD i false) (64 * (j + 1).toNat)
    have e2 : wrap64 (((many bs (64 * j.toNat) : Nat) : Int) + ((pop 64 (rd ws j).toNat : Nat) : Int)) = ((many bs (64 * (j + 1).toNat) : Nat) : Int) := by
      rw [← e]
      unfold many at e ⊢
      unfold wrap64
      omega
    rw [e2, wrap_succ j h0 (by omega)]
    exact ih k (j + 1) (by omega) (by omega) (by omega)
theorem count_tells {ws : List Int} {n : Int} {bs : List Bool} (h : Rep ws n bs) (k : Nat) (hk : 2000 < k) : bitmap_Count.f k ws n = some ((many bs bs.length : Nat) : Int) := by
  have hle := h.le
  have hwl := h.wl
  unfold bitmap_Count.f
  exact count_l0 h ws.length k 0 (by omega) (by omega) (by omega)
end Go.Proofs.Ytaanlcegmkmphaa.PopLib
