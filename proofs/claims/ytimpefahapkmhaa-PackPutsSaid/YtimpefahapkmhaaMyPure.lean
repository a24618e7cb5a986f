/- Plain lemmas on numbers, bytes and lists, for the pure statements of one seat. -/
import Derived.Test.YtimpefahapkmhaaMyWords
import Derived.Laws.BitsLemmas
namespace Go.Proofs.YtimpefahapkmhaaW.MyPure
open Go.RowKit Go.Proofs.YtimpefahapkmhaaW.PrintWords Go.Proofs.YtimpefahapkmhaaW.PrintLast

theorem wf_u8 {n : Int} (h : (Lit.int .u8 n).wf = true) : 0 ≤ n ∧ n < 256 := by
  simp [Lit.wf, IntKind.min, IntKind.max, IntKind.signed, IntKind.bits] at h
  omega
theorem wf_u16 {n : Int} (h : (Lit.int .u16 n).wf = true) : 0 ≤ n ∧ n < 65536 := by
  simp [Lit.wf, IntKind.min, IntKind.max, IntKind.signed, IntKind.bits] at h
  omega
theorem wf_i16 {n : Int} (h : (Lit.int .i16 n).wf = true) : -32768 ≤ n ∧ n < 32768 := by
  simp [Lit.wf, IntKind.min, IntKind.max, IntKind.signed, IntKind.bits] at h
  omega
theorem wf_u32 {n : Int} (h : (Lit.int .u32 n).wf = true) : 0 ≤ n ∧ n < 4294967296 := by
  simp [Lit.wf, IntKind.min, IntKind.max, IntKind.signed, IntKind.bits] at h
  omega
theorem wf_i64 {n : Int} (h : (Lit.int .i64 n).wf = true) : -9223372036854775808 ≤ n ∧ n ≤ 9223372036854775807 := by
  simp [Lit.wf, IntKind.min, IntKind.max, IntKind.signed, IntKind.bits] at h
  omega
theorem wrap64_id {i : Int} (h0 : -9223372036854775808 ≤ i) (h1 : i ≤ 9223372036854775807) : wrap64 i = i := by unfold wrap64; omega
theorem wrap64_in (i : Int) : -9223372036854775808 ≤ wrap64 i ∧ wrap64 i ≤ 9223372036854775807 := by unfold wrap64; omega
theorem wrap_succ (i : Int) (h0 : 0 ≤ i) (h1 : i ≤ 140737488355328) : wrap64 (i + 1) = i + 1 := by unfold wrap64; omega

/-- Bytes as numbers. -/
def Bytes (l : List Int) : Prop := ∀ x ∈ l, 0 ≤ x ∧ x < 256
theorem bytes_of {l : List Int} (h : ∀ x ∈ l, (Lit.int .u8 x).wf = true) : Bytes l := fun x hx => wf_u8 (h x hx)
theorem Bytes.nil : Bytes [] := fun _ h => by cases h
theorem Bytes.append {a b : List Int} (ha : Bytes a) (hb : Bytes b) : Bytes (a ++ b) := fun x hx => (List.mem_append.1 hx).elim (ha x) (hb x)
theorem Bytes.cons {a : Int} {b : List Int} (ha : 0 ≤ a ∧ a < 256) (hb : Bytes b) : Bytes (a :: b) := fun x hx => (List.mem_cons.1 hx).elim (fun h => by rw [h]; exact ha) (hb x)
theorem Bytes.of_subset {a b : List Int} (h : Bytes a) (hs : ∀ x ∈ b, x ∈ a) : Bytes b := fun x hx => h x (hs x hx)
theorem Bytes.take {a : List Int} (h : Bytes a) (n : Nat) : Bytes (a.take n) := h.of_subset fun _ hx => List.mem_of_mem_take hx
theorem Bytes.drop {a : List Int} (h : Bytes a) (n : Nat) : Bytes (a.drop n) := h.of_subset fun _ hx => List.mem_of_mem_drop hx

theorem rd_mem {l : List Int} (i : Int) (h0 : 0 ≤ i) (h1 : i < l.length) : rd l i ∈ l := by
  unfold rd
  rw [List.getD_eq_getElem?_getD, List.getElem?_eq_getElem (by omega)]
  exact List.getElem_mem _
theorem rd_byte {l : List Int} (hb : Bytes l) (i : Int) (h0 : 0 ≤ i) (h1 : i < l.length) : 0 ≤ rd l i ∧ rd l i < 256 := hb _ (rd_mem i h0 h1)
theorem drop_rd (l : List Int) (i : Int) (h0 : 0 ≤ i) (h1 : i < l.length) : l.drop i.toNat = rd l i :: l.drop (i + 1).toNat := by
  have e : (i + 1).toNat = i.toNat + 1 := by omega
  rw [e, List.drop_eq_getElem_cons (by omega)]
  congr 1
  unfold rd
  rw [List.getD_eq_getElem?_getD, List.getElem?_eq_getElem (by omega)]; rfl
theorem take_rd (l : List Int) (i : Int) (h0 : 0 ≤ i) (h1 : i < l.length) : l.take (i + 1).toNat = l.take i.toNat ++ [rd l i] := by
  have e : (i + 1).toNat = i.toNat + 1 := by omega
  rw [e, List.take_succ_eq_append_getElem (by omega)]
  congr 1
  unfold rd
  rw [List.getD_eq_getElem?_getD, List.getElem?_eq_getElem (by omega)]; rfl
theorem rd_nat (l : List Int) (i : Nat) : rd l (i : Int) = l.getD i 0 := by unfold rd; rfl

/-- One round more is at hand. -/
theorem rounds_succ' {k d : Nat} (h : d < k) : ∃ m, k = m + 1 := ⟨k - 1, by omega⟩

def U32 (x : Int) : Prop := 0 ≤ x ∧ x < 4294967296
theorem bits32_u (o : BinOp) (a b : Int) : ∃ n : Int, Go.bits o .u32 a b = n % 4294967296 ∨ Go.bits o .u32 a b = 0 := by
  cases o <;> simp only [Go.bits, IntKind.wrap_u32] <;> first | exact ⟨_, .inl rfl⟩ | exact ⟨0, .inr rfl⟩
theorem bits32 (o : BinOp) (a b : Int) : U32 (Go.bits o .u32 a b) := by
  obtain ⟨n, h⟩ := bits32_u o a b
  unfold U32
  rcases h with h | h <;> rw [h] <;> omega
theorem bits8_u (o : BinOp) (a b : Int) : ∃ n : Int, Go.bits o .u8 a b = n % 256 ∨ Go.bits o .u8 a b = 0 := by
  cases o <;> simp only [Go.bits, IntKind.wrap_u8] <;> first | exact ⟨_, .inl rfl⟩ | exact ⟨0, .inr rfl⟩
theorem bits8 (o : BinOp) (a b : Int) : 0 ≤ Go.bits o .u8 a b ∧ Go.bits o .u8 a b < 256 := by
  obtain ⟨n, h⟩ := bits8_u o a b
  rcases h with h | h <;> rw [h] <;> omega
theorem wraps_u32 (n : Int) (h0 : 0 ≤ n) (h1 : n < 2 ^ 32) : IntKind.u32.wrap n = n := by rw [IntKind.wrap_u32]; omega
theorem and1 (x : Int) (h : U32 x) : Go.bits .and .u32 x 1 = x % 2 := by
  have := bits_mask .u32 32 (by decide) wraps_u32 1 (by decide) x h.1 (by have := h.2; omega)
  simpa using this
/-- Exclusive or of numbers below 2^32. -/
theorem xor_nat (a b : Nat) (ha : a < 4294967296) (hb : b < 4294967296) : Go.bits .xor .u32 a b = ((a ^^^ b : Nat) : Int) := by
  have h : a ^^^ b < 2 ^ 32 := Nat.xor_lt_two_pow ha hb
  have hp : (2 : Nat) ^ IntKind.u32.bits = 4294967296 := by decide
  simp only [Go.bits, BitVec.ofInt_natCast, BitVec.toNat_xor, BitVec.toNat_ofNat, hp, Nat.mod_eq_of_lt ha, Nat.mod_eq_of_lt hb]
  exact wraps_u32 _ (Int.natCast_nonneg _) (by exact_mod_cast h)
theorem xor8_nat (a b : Nat) (ha : a < 256) (hb : b < 256) : Go.bits .xor .u8 a b = ((a ^^^ b : Nat) : Int) := by
  have h : a ^^^ b < 2 ^ 8 := Nat.xor_lt_two_pow ha hb
  have hp : (2 : Nat) ^ IntKind.u8.bits = 256 := by decide
  simp only [Go.bits, BitVec.ofInt_natCast, BitVec.toNat_xor, BitVec.toNat_ofNat, hp, Nat.mod_eq_of_lt ha, Nat.mod_eq_of_lt hb]
  exact wraps_u8 _ (Int.natCast_nonneg _) (by exact_mod_cast h)
theorem xor_low (a c : Nat) (hc : c < 256) : a ^^^ c = a / 256 * 256 + ((a % 256) ^^^ c) := by
  have h1 : (a ^^^ c) / 2 ^ 8 = a / 2 ^ 8 ^^^ c / 2 ^ 8 := Nat.xor_div_two_pow
  have h2 : (a ^^^ c) % 2 ^ 8 = (a % 2 ^ 8) ^^^ (c % 2 ^ 8) := Nat.xor_mod_two_pow
  have h3 : c / 2 ^ 8 = 0 := Nat.div_eq_of_lt hc
  have h4 : c % 2 ^ 8 = c := Nat.mod_eq_of_lt hc
  rw [h3, Nat.xor_zero] at h1
  rw [h4] at h2
  have := Nat.div_add_mod (a ^^^ c) (2 ^ 8)
  rw [h1, h2] at this
  rw [← this]
  have e : (2 : Nat) ^ 8 = 256 := rfl
  rw [e, Nat.mul_comm]
theorem xor_all (x : Int) (h : U32 x) : Go.bits .xor .u32 x 4294967295 = 4294967295 - x := by
  obtain ⟨n, rfl⟩ := Int.eq_ofNat_of_zero_le h.1
  have hn : n < 4294967296 := by have := h.2; omega
  have e : ((4294967295 : Nat) : Int) = 4294967295 := rfl
  rw [← e, xor_nat n 4294967295 hn (by decide)]
  have h1 : (BitVec.ofNat 32 n ^^^ BitVec.allOnes 32).toNat = n ^^^ 4294967295 := by
    rw [BitVec.toNat_xor, BitVec.toNat_ofNat, BitVec.toNat_allOnes, Nat.mod_eq_of_lt (by omega)]
  rw [BitVec.xor_allOnes, BitVec.toNat_not, BitVec.toNat_ofNat, Nat.mod_eq_of_lt (by omega)] at h1
  rw [← h1]
  omega
end Go.Proofs.YtimpefahapkmhaaW.MyPure
