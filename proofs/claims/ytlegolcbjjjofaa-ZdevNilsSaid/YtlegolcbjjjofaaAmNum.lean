/- Plain lemmas on numbers and bytes. -/
import Derived.Test.YtlegolcbjjjofaaAm16
import Derived.Laws.BitsLemmas
import Derived.Laws.Entries
import Derived.ChangeShapes
import Derived.RowKit3
namespace Go.AM
/-- What the tests of a walk say as facts, for simp. -/
theorem dE : (∀ (p : Prop) [Decidable p], (decide p = true) = p) ∧ (∀ (p : Prop) [Decidable p], (decide p = false) = ¬ p) ∧ (∀ {α : Type} [BEq α] [LawfulBEq α] {a b : α}, (a == b) = true ↔ a = b) ∧ (∀ {α : Type} [BEq α] [LawfulBEq α] {a b : α}, (a == b) = false ↔ a ≠ b) ∧ (∀ {α : Type} [BEq α] [LawfulBEq α] {a b : α}, (a != b) = true ↔ a ≠ b) ∧ (∀ {α : Type} [BEq α] [LawfulBEq α] {a b : α}, (a != b) = false ↔ a = b) ∧ (∀ {α : Type} (a b : α), (a ≠ b) = ¬ (a = b)) ∧ (∀ b : Bool, ((!b) = true) = (b = false)) ∧ (∀ b : Bool, ((!b) = false) = (b = true)) :=
  ⟨fun _ => decide_eq_true_eq, fun _ => by simp, beq_iff_eq, beq_eq_false_iff_ne, bne_iff_ne, bne_eq_false_iff_eq, fun _ _ => rfl, fun _ => Bool.not_eq_true' _, fun _ => by simp⟩
/-- An operation, and the rest. -/
theorem rs {P : Program} {n : Nat} {tm : TM} {H : Heap} {ops : Array Oper} {o : Oper} {rest : List Oper} {K : TM → Heap → Prop} {x : AV} {H' : Heap} (hd : dOk n o.dst = true) (hw : wantA ops tm o = some true) (hs : OpOk P tm H o x H') (k : runOps P n ops rest (tput tm o.dst x) H' K) : runOps P n ops (o :: rest) tm H K := ro hd hw (OpOk.step hs) k
/-- What is held, for simp. -/
theorem dH : (∀ H : Heap, HeldL [] H = True) ∧ (∀ H : Heap, HeldL (none :: H) [] = HeldL H []) ∧ (∀ (c : Option Blk) (H H' : Heap), HeldL (none :: H) (c :: H') = HeldL H H') ∧ (∀ (b : Blk) (H : Heap), HeldL (some b :: H) [] = False) ∧ (∀ (b : Blk) (c : Option Blk) (H H' : Heap), HeldL (some b :: H) (c :: H') = (c = some b ∧ HeldL H H')) ∧ (∀ (α β : Type) (f : α → β) (a : α) (l : List α), (a :: l).map f = f a :: l.map f) ∧ (∀ (α β : Type) (f : α → β), ([] : List α).map f = []) ∧ (∀ (α : Type) (a : α) (l m : List α), a :: l ++ m = a :: (l ++ m)) ∧ (∀ (α : Type) (l : List α), [] ++ l = l) ∧ (∀ (α : Type) (a b : α) (l : List α), (a :: l).set 0 b = b :: l) ∧ (∀ (α : Type) (a b : α) (l : List α) (i : Nat), (a :: l).set (i + 1) b = a :: l.set i b) :=
  ⟨fun _ => by simp only [HeldL], fun _ => by simp only [HeldL], fun _ _ _ => by simp only [HeldL], fun _ _ => by simp only [HeldL], fun _ _ _ _ => by simp only [HeldL], fun _ _ _ _ _ => rfl, fun _ _ _ => rfl, fun _ _ _ _ => rfl, fun _ _ => rfl, fun _ _ _ _ => rfl, fun _ _ _ _ _ => rfl⟩
/-- Rows of whole numbers, all frozen. -/
def rowsA (k : IntKind) (ls : List (List Int)) : List AV := ls.map fun l => .fz 1 (ints k l)
theorem rowsA_get_of {k : IntKind} {ls : List (List Int)} {i : Nat} {l : List Int} (h : ls[i]? = some l) : (rowsA k ls)[i]? = some (.fz 1 (ints k l)) := by simp [rowsA, h]
theorem rowsA_length (k : IntKind) (ls : List (List Int)) : (rowsA k ls).length = ls.length := by simp [rowsA]
theorem rowsA_snoc (k : IntKind) (ls : List (List Int)) (l : List Int) : rowsA k ls ++ [.fz 1 (ints k l)] = rowsA k (ls ++ [l]) := by simp [rowsA]
theorem rowsA_cons (k : IntKind) (ls : List (List Int)) (l : List Int) : .fz 1 (ints k l) :: rowsA k ls = rowsA k (l :: ls) := rfl
theorem renL_rowsA (ρ : Nat → Option Nat) (k : IntKind) (ls : List (List Int)) : renL ρ (rowsA k ls) = rowsA k ls := by
  rw [renL_map]; simp [rowsA, AV.ren, renL_ints]
theorem take_succ_get {α : Type} {l : List α} {i : Nat} {x : α} (h : l[i]? = some x) : l.take (i + 1) = l.take i ++ [x] := by
  rw [List.take_add_one, h]; rfl
theorem wf_u8 {n : Int} (h : (Lit.int .u8 n).wf = true) : 0 ≤ n ∧ n < 256 := by
  simp [Lit.wf, IntKind.min, IntKind.max, IntKind.signed, IntKind.bits] at h
  omega
theorem wf_u16 {n : Int} (h : (Lit.int .u16 n).wf = true) : 0 ≤ n ∧ n < 65536 := by
  simp [Lit.wf, IntKind.min, IntKind.max, IntKind.signed, IntKind.bits] at h
  omega
theorem wf_i16 {n : Int} (h : (Lit.int .i16 n).wf = true) : -32768 ≤ n ∧ n < 32768 := by
  simp [Lit.wf, IntKind.min, IntKind.max, IntKind.signed, IntKind.bits] at h
  omega
theorem wf_u32 {n : Int} (h : (Lit.int .u32 n).wf = true) : 0 ≤ n ∧ n < 4294967296 := by
  simp [Lit.wf, IntKind.min, IntKind.max, IntKind.signed, IntKind.bits] at h
  omega
theorem wf_i64 {n : Int} (h : (Lit.int .i64 n).wf = true) : -9223372036854775808 ≤ n ∧ n ≤ 9223372036854775807 := by
  simp [Lit.wf, IntKind.min, IntKind.max, IntKind.signed, IntKind.bits] at h
  omega
/-- Bytes as numbers. -/
def Bytes (l : List Int) : Prop := ∀ x ∈ l, 0 ≤ x ∧ x < 256
theorem bytes_of {l : List Int} (h : ∀ x ∈ l, (Lit.int .u8 x).wf = true) : Bytes l := fun x hx => wf_u8 (h x hx)
theorem Bytes.nil : Bytes [] := fun _ h => by cases h
theorem Bytes.append {a b : List Int} (ha : Bytes a) (hb : Bytes b) : Bytes (a ++ b) := fun x hx => (List.mem_append.1 hx).elim (ha x) (hb x)
theorem Bytes.cons {a : Int} {b : List Int} (ha : 0 ≤ a ∧ a < 256) (hb : Bytes b) : Bytes (a :: b) := fun x hx => (List.mem_cons.1 hx).elim (fun h => by rw [h]; exact ha) (hb x)
theorem Bytes.of_subset {a b : List Int} (h : Bytes a) (hs : ∀ x ∈ b, x ∈ a) : Bytes b := fun x hx => h x (hs x hx)
theorem Bytes.take {a : List Int} (h : Bytes a) (n : Nat) : Bytes (a.take n) := h.of_subset fun _ hx => List.mem_of_mem_take hx
theorem Bytes.drop {a : List Int} (h : Bytes a) (n : Nat) : Bytes (a.drop n) := h.of_subset fun _ hx => List.mem_of_mem_drop hx

def U32 (x : Int) : Prop := 0 ≤ x ∧ x < 4294967296
theorem bits32_u (o : BinOp) (a b : Int) : ∃ n : Int, Go.bits o .u32 a b = n % 4294967296 ∨ Go.bits o .u32 a b = 0 := by
  cases o <;> simp only [Go.bits, IntKind.wrap_u32] <;> first | exact ⟨_, .inl rfl⟩ | exact ⟨0, .inr rfl⟩
theorem bits32 (o : BinOp) (a b : Int) : U32 (Go.bits o .u32 a b) := by
  obtain ⟨n, h⟩ := bits32_u o a b
  unfold U32
  rcases h with h | h <;> rw [h] <;> omega
theorem bits8_u (o : BinOp) (a b : Int) : ∃ n : Int, Go.bits o .u8 a b = n % 256 ∨ Go.bits o .u8 a b = 0 := by
  cases o <;> simp only [Go.bits, IntKind.wrap_u8] <;> first | exact ⟨_, .inl rfl⟩ | exact ⟨0, .inr rfl⟩
theorem bits8 (o : BinOp) (a b : Int) : 0 ≤ Go.bits o .u8 a b ∧ Go.bits o .u8 a b < 256 := by
  obtain ⟨n, h⟩ := bits8_u o a b
  rcases h with h | h <;> rw [h] <;> omega
theorem wraps_u32 (n : Int) (h0 : 0 ≤ n) (h1 : n < 2 ^ 32) : IntKind.u32.wrap n = n := by rw [IntKind.wrap_u32]; omega
theorem and1 (x : Int) (h : U32 x) : Go.bits .and .u32 x 1 = x % 2 := by
  have := bits_mask .u32 32 (by decide) wraps_u32 1 (by decide) x h.1 (by have := h.2; omega)
  simpa using this
/-- Exclusive or of numbers below 2^32. -/
theorem xor_nat (a b : Nat) (ha : a < 4294967296) (hb : b < 4294967296) : Go.bits .xor .u32 a b = ((a ^^^ b : Nat) : Int) := by
  have h : a ^^^ b < 2 ^ 32 := Nat.xor_lt_two_pow ha hb
  have hp : (2 : Nat) ^ IntKind.u32.bits = 4294967296 := by decide
  simp only [Go.bits, BitVec.ofInt_natCast, BitVec.toNat_xor, BitVec.toNat_ofNat, hp, Nat.mod_eq_of_lt ha, Nat.mod_eq_of_lt hb]
  exact wraps_u32 _ (Int.natCast_nonneg _) (by exact_mod_cast h)
theorem xor8_nat (a b : Nat) (ha : a < 256) (hb : b < 256) : Go.bits .xor .u8 a b = ((a ^^^ b : Nat) : Int) := by
  have h : a ^^^ b < 2 ^ 8 := Nat.xor_lt_two_pow ha hb
  have hp : (2 : Nat) ^ IntKind.u8.bits = 256 := by decide
  simp only [Go.bits, BitVec.ofInt_natCast, BitVec.toNat_xor, BitVec.toNat_ofNat, hp, Nat.mod_eq_of_lt ha, Nat.mod_eq_of_lt hb]
  exact wraps_u8 _ (Int.natCast_nonneg _) (by exact_mod_cast h)
theorem xor_low (a c : Nat) (hc : c < 256) : a ^^^ c = a / 256 * 256 + ((a % 256) ^^^ c) := by
  have h1 : (a ^^^ c) / 2 ^ 8 = a / 2 ^ 8 ^^^ c / 2 ^ 8 := Nat.xor_div_two_pow
  have h2 : (a ^^^ c) % 2 ^ 8 = (a % 2 ^ 8) ^^^ (c % 2 ^ 8) := Nat.xor_mod_two_pow
  have h3 : c / 2 ^ 8 = 0 := Nat.div_eq_of_lt hc
  have h4 : c % 2 ^ 8 = c := Nat.mod_eq_of_lt hc
  rw [h3, Nat.xor_zero] at h1
  rw [h4] at h2
  have := Nat.div_add_mod (a ^^^ c) (2 ^ 8)
  rw [h1, h2] at this
  rw [← this]
  have e : (2 : Nat) ^ 8 = 256 := rfl
  rw [e, Nat.mul_comm]
theorem xor_all (x : Int) (h : U32 x) : Go.bits .xor .u32 x 4294967295 = 4294967295 - x := by
  obtain ⟨n, rfl⟩ := Int.eq_ofNat_of_zero_le h.1
  have hn : n < 4294967296 := by have := h.2; omega
  have e : ((4294967295 : Nat) : Int) = 4294967295 := rfl
  rw [← e, xor_nat n 4294967295 hn (by decide)]
  have h1 : (BitVec.ofNat 32 n ^^^ BitVec.allOnes 32).toNat = n ^^^ 4294967295 := by
    rw [BitVec.toNat_xor, BitVec.toNat_ofNat, BitVec.toNat_allOnes, Nat.mod_eq_of_lt (by omega)]
  rw [BitVec.xor_allOnes, BitVec.toNat_not, BitVec.toNat_ofNat, Nat.mod_eq_of_lt (by omega)] at h1
  rw [← h1]
  omega

section
variable {P : Program} {tm : TM} {H : Heap} {o : Oper} {t t' : TypeId} {p q : Operand} {i : TI}
theorem ok_shr (ho : o.op = .binOp .shr t p q t') (hi : tyI P t = some i) {k k' : IntKind} {a m : Int} (n : Nat) (hp : ev tm p = .v (.int k a)) (hq : ev tm q = .v (.int k' n)) (hn : n ≤ k.bits) (hm : (2 : Int) ^ n = m) : OpOk P tm H o (.v (.int k (a / m))) H :=
  ok_binOp ho hi (by
    rw [hp, hq]
    have h1 : ¬ ((n : Int) < 0) := by omega
    have h2 : min (n : Int).toNat k.bits = n := by simp; omega
    simp only [binA, binV, h1, if_false, Option.map_some, h2, hm]
    rw [Int.fdiv_eq_ediv_of_nonneg _ (by rw [← hm]; exact Int.pow_nonneg (by decide))])
theorem ok_shl (ho : o.op = .binOp .shl t p q t') (hi : tyI P t = some i) {k k' : IntKind} {a m : Int} (n : Nat) (hp : ev tm p = .v (.int k a)) (hq : ev tm q = .v (.int k' n)) (hn : n ≤ k.bits) (hm : (2 : Int) ^ n = m) : OpOk P tm H o (.v (.int k (k.wrap (a * m)))) H :=
  ok_binOp ho hi (by
    rw [hp, hq]
    have h1 : ¬ ((n : Int) < 0) := by omega
    have h2 : min (n : Int).toNat k.bits = n := by simp; omega
    simp only [binA, binV, h1, if_false, Option.map_some, h2, hm])
theorem ok_bits (op : BinOp) (ho : o.op = .binOp op t p q t') (hi : tyI P t = some i) {k : IntKind} {a b : Int} (hp : ev tm p = .v (.int k a)) (hq : ev tm q = .v (.int k b)) (hop : op = .and ∨ op = .or ∨ op = .xor) : OpOk P tm H o (.v (.int k (Go.bits op k a b))) H :=
  ok_binOp ho hi (by
    rw [hp, hq]
    rcases hop with rfl | rfl | rfl <;> simp [binA, binV, binI, Go.bits])
end
section
variable {P : Program} {tm : TM} {H : Heap}
theorem ok_len' {o : Oper} {p : Operand} {ts : Array TypeId} (ho : o.op = .call ⟨.builtin .len, #[p], ts⟩) {t : TypeId} (ht0 : ts[0]? = some t) {i : TI} (hi : tyI P t = some i) {n m : Nat} (hn : lenA H i.desc (ev tm p) = some n) (hm : n = m) : OpOk P tm H o (.v (.int .i64 m)) H := hm ▸ ok_len ho ht0 hi hn
end
/-- A number's last digits, one more at a time. -/
theorem emod_step (v A : Int) (hA : 0 < A) : v % (A * 256) = v / A % 256 * A + v % A := by
  have h1 := Int.mul_ediv_add_emod v A
  have h2 := Int.mul_ediv_add_emod (v / A) 256
  have h3 := Int.emod_nonneg (v / A) (show (256 : Int) ≠ 0 by decide)
  have h4 := Int.emod_lt_of_pos (v / A) (show (0 : Int) < 256 by decide)
  have h5 := Int.emod_nonneg v (Int.ne_of_gt hA)
  have h6 := Int.emod_lt_of_pos v hA
  have h7 : v / A % 256 * A ≤ 255 * A := Int.mul_le_mul_of_nonneg_right (by omega) (by omega)
  have h8 : 0 ≤ v / A % 256 * A := Int.mul_nonneg h3 (by omega)
  refine ((Int.ediv_emod_unique (a := v) (b := A * 256) (q := v / A / 256) (r := v / A % 256 * A + v % A) (by omega)).2 ⟨?_, by omega, by omega⟩).2
  have h9 : A * 256 * (v / A / 256) = A * (256 * (v / A / 256)) := Int.mul_assoc _ _ _
  have h10 : A * (v / A) = A * (256 * (v / A / 256)) + A * (v / A % 256) := by rw [← Int.mul_add, h2]
  have h11 : v / A % 256 * A = A * (v / A % 256) := Int.mul_comm _ _
  omega
theorem putA_ne {k : Nat} {el : AV} {f : Nat} {x : AV} {n : Nat} (h : n ≠ k) : putA k el f x n = .agg (splice el.cells f x.cells) := if_neg fun e => h e.2
end Go.AM
