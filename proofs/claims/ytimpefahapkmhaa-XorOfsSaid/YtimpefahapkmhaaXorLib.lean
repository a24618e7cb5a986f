/- Parities of bytes: what xor's functions compute, and the reference's. -/
import Derived.Test.YtimpefahapkmhaaMxor
import Derived.Test.YtimpefahapkmhaaMrref03
import Derived.Test.YtimpefahapkmhaaMyPure
namespace Go.Proofs.Ytimpefahapkmhaa.XorLib
open Go.RowKit Go.Proofs.Ytimpefahapkmhaa.M Go.Proofs.YtimpefahapkmhaaW.PrintWords Go.Proofs.YtimpefahapkmhaaW.PrintLast Go.Proofs.YtimpefahapkmhaaW.PrintMore Go.Proofs.YtimpefahapkmhaaW.MyPure
def X (a b : Int) : Int := Go.bits .xor .u8 a b
theorem X_nat (a b : Int) (ha : 0 ≤ a ∧ a < 256) (hb : 0 ≤ b ∧ b < 256) : X a b = ((a.toNat ^^^ b.toNat : Nat) : Int) := by
  have h := xor8_nat a.toNat b.toNat (by omega) (by omega)
  rw [Int.toNat_of_nonneg ha.1, Int.toNat_of_nonneg hb.1] at h
  exact h
theorem X_comm (a b : Int) (ha : 0 ≤ a ∧ a < 256) (hb : 0 ≤ b ∧ b < 256) : X a b = X b a := by
  rw [X_nat a b ha hb, X_nat b a hb ha, Nat.xor_comm]
theorem X_zero (a : Int) (ha : 0 ≤ a ∧ a < 256) : X a 0 = a := by
  rw [X_nat a 0 ha (by omega)]
  simp
  omega
theorem zero_X (a : Int) (ha : 0 ≤ a ∧ a < 256) : X 0 a = a := by rw [X_comm 0 a (by omega) ha, X_zero a ha]
theorem X_self (a : Int) (ha : 0 ≤ a ∧ a < 256) : X a a = 0 := by
  rw [X_nat a a ha ha]
  simp
theorem X_byte (a b : Int) : 0 ≤ X a b ∧ X a b < 256 := bits8 .xor a b
theorem X_assoc (a b c : Int) (ha : 0 ≤ a ∧ a < 256) (hb : 0 ≤ b ∧ b < 256) (hc : 0 ≤ c ∧ c < 256) : X (X a b) c = X a (X b c) := by
  have h1 := X_byte a b
  have h2 := X_byte b c
  rw [X_nat _ _ h1 hc, X_nat a (X b c) ha h2, X_nat a b ha hb, X_nat b c hb hc]
  simp only [Int.toNat_natCast, Nat.xor_assoc]
/-- Place by place; 0 behind an end. -/
def zipx : List Int → List Int → List Int
  | [], b => b.map (X 0)
  | x :: a, b => X x (b.headD 0) :: zipx a b.tail
theorem zipx_cn (x : Int) (a : List Int) : zipx (x :: a) [] = X x 0 :: zipx a [] := rfl
theorem zipx_nc (y : Int) (b : List Int) : zipx [] (y :: b) = X 0 y :: zipx [] b := rfl
theorem zipx_cc (x y : Int) (a b : List Int) : zipx (x :: a) (y :: b) = X x y :: zipx a b := rfl
theorem zipx_len : ∀ a b : List Int, (zipx a b).length = max a.length b.length
  | [], b => by simp [zipx]
  | x :: a, [] => by rw [zipx_cn, List.length_cons, zipx_len a []]; simp
  | x :: a, y :: b => by rw [zipx_cc, List.length_cons, zipx_len a b]; simp only [List.length_cons]; omega
theorem zipx_bytes : ∀ a b : List Int, Bytes (zipx a b)
  | [], [] => Bytes.nil
  | x :: a, [] => Bytes.cons (X_byte _ _) (zipx_bytes a [])
  | [], y :: b => Bytes.cons (X_byte _ _) (zipx_bytes [] b)
  | x :: a, y :: b => Bytes.cons (X_byte _ _) (zipx_bytes a b)
theorem hd {x : Int} {a : List Int} (h : Bytes (x :: a)) : 0 ≤ x ∧ x < 256 := h x List.mem_cons_self
theorem tl {x : Int} {a : List Int} (h : Bytes (x :: a)) : Bytes a := fun y hy => h y (List.mem_cons_of_mem _ hy)
theorem zipx_nil : ∀ a : List Int, Bytes a → zipx a [] = a
  | [], _ => rfl
  | x :: a, h => by rw [zipx_cn, X_zero x (hd h), zipx_nil a (tl h)]
theorem nil_zipx : ∀ a : List Int, Bytes a → zipx [] a = a
  | [], _ => rfl
  | x :: a, h => by rw [zipx_nc, zero_X x (hd h), nil_zipx a (tl h)]
/-- The second one, which is no longer, into the first. -/
def onto : List Int → List Int → List Int
  | a, [] => a
  | [], _ :: _ => []
  | x :: a, y :: b => X x y :: onto a b
theorem onto_zipx : ∀ a b : List Int, b.length ≤ a.length → Bytes a → onto a b = zipx a b
  | [], [], _, _ => rfl
  | x :: a, [], _, h => by rw [onto, zipx_nil _ h]
  | [], y :: b, h, _ => absurd h (by simp)
  | x :: a, y :: b, h, hb => by rw [onto, zipx_cc, onto_zipx a b (by simpa using h) (tl hb)]
theorem zipx_comm : ∀ a b : List Int, Bytes a → Bytes b → zipx a b = zipx b a
  | [], [], _, _ => rfl
  | x :: a, [], h, _ => by rw [zipx_nil _ h, nil_zipx _ h]
  | [], y :: b, _, h => by rw [zipx_nil _ h, nil_zipx _ h]
  | x :: a, y :: b, ha, hb => by rw [zipx_cc, zipx_cc, X_comm x y (hd ha) (hd hb), zipx_comm a b (tl ha) (tl hb)]
theorem rd_mid (p : List Int) (x : Int) (r : List Int) : rd (p ++ x :: r) (p.length : Int) = x := by
  unfold rd
  simp
theorem set_mid (p : List Int) (x v : Int) (r : List Int) : (p ++ x :: r).set ((p.length : Int)).toNat v = p ++ v :: r := by simp
theorem into_l0 : ∀ (s r p q : List Int) (k : Nat), p.length = q.length → s.length ≤ r.length → q.length + s.length ≤ 1000000 → s.length < k →
    xor_Into.l0 k (p ++ r) (q ++ s) ((q ++ s).length : Int) (q.length : Int) = some (p ++ onto r s)
  | [], r, p, q, k, hp, hl, hb, hk => by
    obtain ⟨k, rfl⟩ := rounds_succ' hk
    simp only [xor_Into.l0]
    rw [if_neg (by simp)]
    cases r <;> rfl
  | y :: s, [], p, q, k, hp, hl, hb, hk => absurd hl (by simp)
  | y :: s, x :: r, p, q, k, hp, hl, hb, hk => by
    obtain ⟨k, rfl⟩ := rounds_succ' hk
    simp only [List.length_cons] at hl hb hk
    simp only [xor_Into.l0]
    have e1 : rd (p ++ x :: r) (q.length : Int) = x := by rw [← hp]; exact rd_mid p x r
    have e2 : (p ++ x :: r).set ((q.length : Int)).toNat (Go.bits .xor .u8 x y) = p ++ X x y :: r := by rw [← hp]; exact set_mid p x _ r
    rw [if_pos (by simp; omega), if_pos (by omega), if_pos (by simp; omega), if_pos (by simp; omega), e1, rd_mid q y s, e2, wrap_succ _ (by omega) (by omega)]
    have ih := into_l0 s r (p ++ [X x y]) (q ++ [y]) k (by simp [hp]) (by omega) (by simp; omega) (by omega)
    simp only [List.append_assoc, List.singleton_append, List.length_append, List.length_cons, List.length_nil] at ih
    have e3 : ((q.length + (0 + 1) : Nat) : Int) = (q.length : Int) + 1 := by omega
    rw [e3] at ih
    rw [onto]
    simpa using ih
theorem into_tells (a b : List Int) (ha : Bytes a) (hb : Bytes b) (la : a.length ≤ 1000000) (lb : b.length ≤ 1000000) (k : Nat) (hk : a.length < k) (hk2 : b.length < k) : xor_Into.f k a b = some (zipx a b) := by
  unfold xor_Into.f slices_Clone_byte_byte.f
  by_cases c : (a.length : Int) < (b.length : Int)
  · rw [if_pos c, if_pos (by omega)]
    simp only [Option.bind_some]
    have h := into_l0 a b [] [] k rfl (by omega) (by simpa using la) hk
    simp only [List.nil_append, List.length_nil] at h
    have e : ((0 : Nat) : Int) = 0 := rfl
    rw [e] at h
    rw [h, onto_zipx b a (by omega) hb, zipx_comm b a hb ha]
  · rw [if_neg c, if_pos (by omega)]
    simp only [Option.bind_some]
    have h := into_l0 b a [] [] k rfl (by omega) (by simpa using lb) hk2
    simp only [List.nil_append, List.length_nil] at h
    have e : ((0 : Nat) : Int) = 0 := rfl
    rw [e] at h
    rw [h, onto_zipx a b (by omega) ha]
/-- A byte; 0 behind the end. -/
theorem at_tells (a : List Int) (i : Nat) : revetmentref03_at.f a (i : Int) = some ((a.drop i).headD 0) := by
  unfold revetmentref03_at.f
  by_cases c : i < a.length
  · rw [if_pos (by omega), if_pos (by omega)]
    unfold rd
    rw [List.drop_eq_getElem_cons c]
    simp [c]
  · rw [if_neg (by omega), List.drop_of_length_le (by omega)]
    rfl
theorem ref_into_l0 (a b : List Int) (la : a.length ≤ 1000000) (lb : b.length ≤ 1000000) : ∀ (d i k : Nat) (acc : List Int), i + d = max a.length b.length → 2 * d + 2 ≤ k → acc.length + d ≤ 2000000 →
    revetmentref03_Into.l0 k a b acc (i : Int) = some (acc ++ zipx (a.drop i) (b.drop i)) := by
  intro d
  induction d with
  | zero =>
    intro i k acc h hk hacc
    obtain ⟨k, rfl⟩ : ∃ m, k = m + 2 := ⟨k - 2, by omega⟩
    simp only [revetmentref03_Into.l0, revetmentref03_Into.j1]
    rw [if_neg (by omega), if_neg (by simp; omega), List.drop_of_length_le (by omega), List.drop_of_length_le (by omega)]
    simp [zipx]
  | succ d ih =>
    intro i k acc h hk hacc
    obtain ⟨k, rfl⟩ : ∃ m, k = m + 2 := ⟨k - 2, by omega⟩
    have step : revetmentref03_Into.j1 (k + 1) a b acc (i : Int) true = some (acc ++ zipx (a.drop i) (b.drop i)) := by
      simp only [revetmentref03_Into.j1]
      rw [if_pos trivial, at_tells, at_tells]
      simp only [Option.bind_some]
      rw [if_pos (by omega), wrap_succ _ (by omega) (by omega)]
      have e : ((i : Int) + 1) = ((i + 1 : Nat) : Int) := by omega
      rw [e, ih (i + 1) k _ (by omega) (by omega) (by simp; omega)]
      rw [List.append_assoc]
      congr 2
      by_cases ca : i < a.length
      · rw [List.drop_eq_getElem_cons ca]
        by_cases cb : i < b.length
        · rw [List.drop_eq_getElem_cons cb]
          rfl
        · rw [List.drop_of_length_le (i := i) (l := b) (by omega), List.drop_of_length_le (i := i + 1) (l := b) (by omega)]
          rfl
      · have cb : i < b.length := by omega
        rw [List.drop_of_length_le (i := i) (l := a) (by omega), List.drop_of_length_le (i := i + 1) (l := a) (by omega), List.drop_eq_getElem_cons cb]
        rfl
    rw [revetmentref03_Into.l0]
    by_cases ca : (i : Int) < (a.length : Int)
    · rw [if_pos ca]; exact step
    · rw [if_neg ca, decide_eq_true (by omega : (i : Int) < (b.length : Int))]; exact step
theorem ref_into_tells (a b : List Int) (la : a.length ≤ 1000000) (lb : b.length ≤ 1000000) (k : Nat) (hk : 2 * a.length + 2 ≤ k) (hk2 : 2 * b.length + 2 ≤ k) : revetmentref03_Into.f k a b = some (zipx a b) := by
  unfold revetmentref03_Into.f
  have h := ref_into_l0 a b la lb (max a.length b.length) 0 k [] (by omega) (by omega) (by simp; omega)
  have e : ((0 : Nat) : Int) = 0 := rfl
  rw [e] at h
  simpa using h
/-- Rows of bytes, none of them longer than n. -/
def RowsB (n : Nat) (l : List (List Int)) : Prop := ∀ r ∈ l, Bytes r ∧ r.length ≤ n
def par (l : List (List Int)) : List Int := l.foldl zipx []
theorem rrow (l : List (List Int)) (i : Int) (h0 : 0 ≤ i) (h1 : i < l.length) : l.drop i.toNat = rd_L1 l i :: l.drop (i + 1).toNat := by
  have e : (i + 1).toNat = i.toNat + 1 := by omega
  rw [e, List.drop_eq_getElem_cons (by omega)]
  congr 1
  unfold rd_L1
  rw [List.getD_eq_getElem?_getD, List.getElem?_eq_getElem (by omega)]; rfl
theorem rrow_mem {l : List (List Int)} (i : Int) (h0 : 0 ≤ i) (h1 : i < l.length) : rd_L1 l i ∈ l := by
  unfold rd_L1
  rw [List.getD_eq_getElem?_getD, List.getElem?_eq_getElem (by omega)]
  exact List.getElem_mem _
theorem of_l0 (n : Nat) (hn : n ≤ 1000000) (l : List (List Int)) (hr : RowsB n l) (hl : l.length ≤ 1000000) : ∀ (d k : Nat) (acc : List Int) (i : Int), 0 ≤ i → i + d = l.length → d + n + 1 < k → Bytes acc → acc.length ≤ n →
    xor_Of.l0 k acc l (l.length : Int) i = some ((l.drop i.toNat).foldl zipx acc) := by
  intro d
  induction d with
  | zero =>
    intro k acc i h0 h1 hk hb ha
    obtain ⟨k, rfl⟩ := rounds_succ' hk
    simp only [xor_Of.l0]
    rw [if_neg (by omega), List.drop_of_length_le (by omega)]
    rfl
  | succ d ih =>
    intro k acc i h0 h1 hk hb ha
    obtain ⟨k, rfl⟩ := rounds_succ' hk
    obtain ⟨b1, b2⟩ := hr _ (rrow_mem i h0 (by omega : i < (l.length : Int)))
    simp only [xor_Of.l0]
    rw [if_pos (by omega), if_pos h0, if_pos (by omega), rrow l i h0 (by omega), wrap_succ i h0 (by omega)]
    generalize rd_L1 l i = x at b1 b2 ⊢
    rw [into_tells acc x hb b1 (by omega) (by omega) k (by omega) (by omega)]
    simp only [Option.bind_some, List.foldl_cons]
    exact ih k _ (i + 1) (by omega) (by omega) (by omega) (zipx_bytes _ _) (by rw [zipx_len]; omega)
theorem of_tells (n : Nat) (hn : n ≤ 1000000) (l : List (List Int)) (hr : RowsB n l) (hl : l.length ≤ 1000000) (k : Nat) (hk : l.length + n + 1 < k) : xor_Of.f k l = some (par l) := by
  unfold xor_Of.f
  rw [of_l0 n hn l hr hl l.length k [] 0 (by omega) (by omega) (by omega) Bytes.nil (by simp)]
  rfl
theorem ref_of_l0 (n : Nat) (hn : n ≤ 1000000) (l : List (List Int)) (hr : RowsB n l) (hl : l.length ≤ 1000000) : ∀ (d k : Nat) (acc : List Int) (i : Int), 0 ≤ i → i + d = l.length → d + 2 * n + 3 < k → acc.length ≤ n →
    revetmentref03_Of.l0 k l acc i = some ((l.drop i.toNat).foldl zipx acc) := by
  intro d
  induction d with
  | zero =>
    intro k acc i h0 h1 hk ha
    obtain ⟨k, rfl⟩ := rounds_succ' hk
    simp only [revetmentref03_Of.l0]
    rw [if_neg (by omega), List.drop_of_length_le (by omega)]
    rfl
  | succ d ih =>
    intro k acc i h0 h1 hk ha
    obtain ⟨k, rfl⟩ := rounds_succ' hk
    obtain ⟨b1, b2⟩ := hr _ (rrow_mem i h0 (by omega : i < (l.length : Int)))
    simp only [revetmentref03_Of.l0]
    rw [if_pos (by omega), if_pos h0, rrow l i h0 (by omega), wrap_succ i h0 (by omega)]
    generalize rd_L1 l i = x at b1 b2 ⊢
    rw [ref_into_tells acc x (by omega) (by omega) k (by omega) (by omega)]
    simp only [Option.bind_some, List.foldl_cons]
    exact ih k _ (i + 1) (by omega) (by omega) (by omega) (by rw [zipx_len]; omega)
theorem ref_of_tells (n : Nat) (hn : n ≤ 1000000) (l : List (List Int)) (hr : RowsB n l) (hl : l.length ≤ 1000000) (k : Nat) (hk : l.length + 2 * n + 3 < k) : revetmentref03_Of.f k l = some (par l) := by
  unfold revetmentref03_Of.f
  rw [ref_of_l0 n hn l hr hl l.length k [] 0 (by omega) (by omega) (by omega) (by simp)]
  rfl
theorem self_zero : ∀ a : List Int, Bytes a → anyZ (zipx a a) = false
  | [], _ => rfl
  | x :: a, h => by
    have ih := self_zero a (tl h)
    rw [zipx_cc, X_self x (hd h)]
    unfold anyZ at ih ⊢
    simpa using ih
end Go.Proofs.Ytimpefahapkmhaa.XorLib
