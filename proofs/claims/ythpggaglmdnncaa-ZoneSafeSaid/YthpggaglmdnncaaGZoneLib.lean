/- Zones: what zone's functions compute beside the reference's. -/
import Derived.Test.YthpggaglmdnncaaGMyPure
import Derived.Laws.BytesArg
import Derived.ArgAppend
import Derived.Below
import Derived.BigQuiet
import Derived.Deep.AppendLies
import Derived.Deep.CutBlock
import Derived.Deep.DeepCutAuto
import Derived.Deep.Draws
import Derived.Deep.LoopGhost
import Derived.Deep.OwnRows
import Derived.Deep.QuietTactic
import Derived.Deep.RegionHeld3
import Derived.KernelRfl
import Derived.Laws.BitsLemmas
import Derived.Laws.IdiomCopy
import Derived.Laws.MakeOwn
import Derived.Laws.OwnMore
import Derived.Laws.Rows
import Derived.Laws.Slices
import Derived.Lib.AppendStr
import Derived.Lib.ConvBytes
import Derived.Maps.AppendAt
import Derived.OrdersHeld
import Derived.OwnWalk
import Derived.RowKit
import Derived.RowKit3
import Derived.Tactics
import Derived.Test.YthpggaglmdnncaaGMyWords
import Derived.Test.YthpggaglmdnncaaProg
import Derived.Test.YthpggaglmdnncaaGWApart
import Derived.Test.YthpggaglmdnncaaGWArr
import Derived.Test.YthpggaglmdnncaaGWAt
import Derived.Test.YthpggaglmdnncaaGWEqStruct
import Derived.Test.YthpggaglmdnncaaGWFoot
import Derived.Test.YthpggaglmdnncaaGWFootNe
import Derived.Test.YthpggaglmdnncaaGWFour
import Derived.Test.YthpggaglmdnncaaGWGuard
import Derived.Test.YthpggaglmdnncaaGWInv
import Derived.Test.YthpggaglmdnncaaGWInvWords
import Derived.Test.YthpggaglmdnncaaGWKept
import Derived.Test.YthpggaglmdnncaaGWLast
import Derived.Test.YthpggaglmdnncaaGWMore
import Derived.Test.YthpggaglmdnncaaGWN
import Derived.Test.YthpggaglmdnncaaGWNEv
import Derived.Test.YthpggaglmdnncaaGWQPut
import Derived.Test.YthpggaglmdnncaaGWRepsOne
import Derived.Test.YthpggaglmdnncaaGWShare
import Derived.Test.YthpggaglmdnncaaGWTab
import Derived.Test.YthpggaglmdnncaaGWWords
import Derived.Test.YthpggaglmdnncaaGWZeros
import Derived.WalkKit
import Derived.WideLaws
import Derived.Test.YthpggaglmdnncaaGM0
import Derived.Test.YthpggaglmdnncaaGMrref04
import Derived.Test.YthpggaglmdnncaaGMslices
import Derived.Test.YthpggaglmdnncaaGMzone
import Derived.Test.YthpggaglmdnncaaGMzonep2
import Derived.Test.YthpggaglmdnncaaGMzonep5
namespace Go.Proofs.Ythpggaglmdnncaa.ZoneLib
open Go.RowKit Go.Proofs.Ythpggaglmdnncaa.M Go.Proofs.YthpggaglmdnncaaW.PrintWords Go.Proofs.YthpggaglmdnncaaW.PrintLast Go.Proofs.YthpggaglmdnncaaW.PrintMore Go.Proofs.YthpggaglmdnncaaW.MyPure
theorem str_app (a b : List Int) : strOfNums (a ++ b) = strOfNums a ++ strOfNums b := by
  apply ByteArray.ext
  apply Array.toList_inj.1
  simp [strOfNums]
theorem str_nil : strOfNums [] = (⟨#[]⟩ : ByteArray) := rfl
def chunks (b : Nat) : Nat → List Int → List ByteArray
  | 0, _ => []
  | m + 1, d => strOfNums (d.take b) :: chunks b m (d.drop b)
theorem chunks_len (b : Nat) : ∀ (m : Nat) (d : List Int), (chunks b m d).length = m
  | 0, _ => rfl
  | m + 1, d => by simp only [chunks, List.length_cons, chunks_len b m]
theorem chunks_app (b : Nat) : ∀ (m n : Nat) (d e : List Int), d.length = b * m → chunks b (m + n) (d ++ e) = chunks b m d ++ chunks b n e
  | 0, n, d, e, h => by
    have : d = [] := List.length_eq_zero_iff.1 (by simpa using h)
    subst this
    simp [chunks]
  | m + 1, n, d, e, h => by
    have hb : b ≤ d.length := by rw [h, Nat.mul_succ]; omega
    have e1 : m + 1 + n = (m + n) + 1 := by omega
    rw [e1, chunks, chunks, List.take_append_of_le_length hb, List.drop_append_of_le_length hb, chunks_app b m n (d.drop b) e (by rw [List.length_drop, h, Nat.mul_succ]; omega)]
    rfl
theorem chunks_take (b : Nat) : ∀ (j m : Nat) (d : List Int), j ≤ m → (chunks b m d).take j = chunks b j d
  | 0, m, d, _ => by simp [chunks]
  | j + 1, 0, d, h => absurd h (by omega)
  | j + 1, m + 1, d, h => by simp only [chunks, List.take_succ_cons, chunks_take b j m (d.drop b) (by omega)]
theorem chunks_cut (b : Nat) : ∀ (m : Nat) (d : List Int) (n : Nat), b * m ≤ n → chunks b m (d.take n) = chunks b m d
  | 0, _, _, _ => rfl
  | m + 1, d, n, h => by
    rw [Nat.mul_succ] at h
    rw [chunks, chunks, List.take_take, Nat.min_eq_left (by omega), List.drop_take, chunks_cut b m (d.drop b) (n - b) (by omega)]
theorem chunks_get (b : Nat) : ∀ (m i : Nat) (d : List Int), i < m → (chunks b m d).getD i ByteArray.empty = strOfNums ((d.drop (b * i)).take b)
  | 0, i, _, h => absurd h (by omega)
  | m + 1, 0, d, _ => by simp [chunks]
  | m + 1, i + 1, d, h => by
    rw [chunks, List.getD_cons_succ, chunks_get b m i (d.drop b) (by omega), List.drop_drop, Nat.mul_succ, Nat.add_comm]
structure Rep (cap blk : Int) (d : List Int) (safe : Int) (L : List ByteArray) : Prop where
  c1 : 1 ≤ cap
  c2 : cap ≤ 4096
  b1 : 1 ≤ blk
  b2 : blk ≤ 4096
  len : (d.length : Int) = blk * L.length
  eq : L = chunks blk.toNat L.length d
  fit : (L.length : Int) ≤ cap
  s0 : 0 ≤ safe
  s1 : safe ≤ L.length
section
variable {cap blk safe : Int} {d : List Int} {L : List ByteArray} (h : Rep cap blk d safe L)
include h
theorem Rep.nlen : d.length = blk.toNat * L.length := by
  have := h.len
  have b1 := h.b1
  have e : blk = (blk.toNat : Int) := by omega
  rw [e] at this
  exact_mod_cast this
theorem Rep.le : d.length ≤ 16777216 := by
  have h1 := h.nlen
  have h2 : blk.toNat * L.length ≤ 4096 * 4096 := Nat.mul_le_mul (by have := h.b2; omega) (by have := h.fit; have := h.c2; omega)
  omega
theorem Rep.wp (done : Bool) : zone_wp.f cap blk d safe done = some (L.length : Int) := by
  have b1 := h.b1
  have f := h.fit
  have c2 := h.c2
  unfold zone_wp.f
  have e : mx blk 1 = blk := by unfold mx; omega
  rw [e, if_neg (by omega), h.len, Int.mul_ediv_cancel_left _ (by omega), wrap64_id (by omega) (by omega)]
theorem Rep.mul (n : Int) (h0 : 0 ≤ n) (h1 : n ≤ L.length) : 0 ≤ n * blk ∧ n * blk ≤ d.length ∧ (n * blk).toNat = blk.toNat * n.toNat := by
  have b1 := h.b1
  refine ⟨Int.mul_nonneg h0 (by omega), ?_, ?_⟩
  · rw [h.len, Int.mul_comm blk]
    exact Int.mul_le_mul_of_nonneg_right h1 (by omega)
  · rw [Int.toNat_mul h0 (by omega), Nat.mul_comm]
theorem Rep.look (done : Bool) : zone_Look.f cap blk d safe done = some ((L.length : Int), safe, done) := by
  unfold zone_Look.f
  rw [h.wp]; rfl
end
theorem concat_l1 (l : List (List Int)) : ∀ (n k : Nat) (acc : List Int) (i : Int), 0 ≤ i → i + n = l.length → l.length ≤ 1000 → n < k → acc.length + (l.drop i.toNat).flatten.length < 140737488355328 →
    slices_Concat_byte_byte.l1 k acc l (l.length : Int) i = some (acc ++ (l.drop i.toNat).flatten) := by
  intro n
  induction n with
  | zero =>
    intro k acc i h0 h1 h2 hk hb
    obtain ⟨k, rfl⟩ := rounds_succ' hk
    simp only [slices_Concat_byte_byte.l1]
    rw [if_neg (by omega), List.drop_of_length_le (by omega)]
    simp
  | succ n ih =>
    intro k acc i h0 h1 h2 hk hb
    obtain ⟨k, rfl⟩ := rounds_succ' hk
    have e : l.drop i.toNat = rd_L1 l i :: l.drop (i + 1).toNat := by
      have e : (i + 1).toNat = i.toNat + 1 := by omega
      rw [e, List.drop_eq_getElem_cons (by omega)]
      congr 1
      unfold rd_L1
      rw [List.getD_eq_getElem?_getD, List.getElem?_eq_getElem (by omega)]; rfl
    rw [e, List.flatten_cons] at hb
    simp only [List.length_append] at hb
    simp only [slices_Concat_byte_byte.l1]
    rw [if_pos (by omega), if_pos h0, if_pos (by omega), if_pos (by omega), wrap_succ i h0 (by omega), e, List.flatten_cons]
    rw [ih k (acc ++ rd_L1 l i) (i + 1) (by omega) (by omega) h2 (by omega) (by simp only [List.length_append]; omega), List.append_assoc]
theorem concat_l0 (l : List (List Int)) : ∀ (n k : Nat) (s i : Int), 0 ≤ i → i + n = l.length → l.length ≤ 1000 → n + l.length + 1 < k → 0 ≤ s → s + (l.drop i.toNat).flatten.length < 140737488355328 → l.flatten.length < 140737488355328 →
    slices_Concat_byte_byte.l0 k l s l (l.length : Int) i = some l.flatten := by
  intro n
  induction n with
  | zero =>
    intro k s i h0 h1 h2 hk hs hb hf
    obtain ⟨k, rfl⟩ := rounds_succ' (d := l.length + 1) (by omega : l.length + 1 < k)
    simp only [slices_Concat_byte_byte.l0]
    rw [if_neg (by omega), if_pos hs, if_pos (by omega), concat_l1 l l.length k [] 0 (by omega) (by omega) h2 (by omega) (by simpa using hf)]
    rfl
  | succ n ih =>
    intro k s i h0 h1 h2 hk hs hb hf
    obtain ⟨k, rfl⟩ := rounds_succ' (d := l.length + 1) (by omega : l.length + 1 < k)
    have e : l.drop i.toNat = rd_L1 l i :: l.drop (i + 1).toNat := by
      have e : (i + 1).toNat = i.toNat + 1 := by omega
      rw [e, List.drop_eq_getElem_cons (by omega)]
      congr 1
      unfold rd_L1
      rw [List.getD_eq_getElem?_getD, List.getElem?_eq_getElem (by omega)]; rfl
    rw [e, List.flatten_cons] at hb
    simp only [List.length_append] at hb
    simp only [slices_Concat_byte_byte.l0]
    have w : wrap64 (s + ((rd_L1 l i).length : Int)) = s + ((rd_L1 l i).length : Int) := wrap64_id (by omega) (by omega)
    rw [if_pos (by omega), if_pos h0, if_pos (by omega), w, if_neg (by omega), wrap_succ i h0 (by omega)]
    exact ih k _ (i + 1) (by omega) (by omega) h2 (by omega) (by omega) (by omega) hf
theorem concat_two (a b : List Int) (hl : a.length + b.length < 140737488355328) (k : Nat) (hk : 5 < k) : slices_Concat_byte_byte.f k [a, b] = some (a ++ b) := by
  unfold slices_Concat_byte_byte.f
  have := concat_l0 [a, b] 2 k 0 0 (by omega) (by simp) (by simp) (by simp; omega) (by omega) (by simp; omega) (by simpa using hl)
  rw [this]
  simp
theorem held_tells (a : Int) : revetmentref04_held.f a 4096 = some (mn (mx a 1) 4096) ∧ 1 ≤ mn (mx a 1) 4096 ∧ mn (mx a 1) 4096 ≤ 4096 := by
  unfold revetmentref04_held.f mn mx
  by_cases c : a < 1
  · rw [if_pos c]; simp [c]
  · rw [if_neg c]
    by_cases c2 : a > 4096
    · have c3 : (4096 : Int) < a := c2
      rw [if_pos c2]; simp [c, c3]
    · have c3 : ¬ (4096 : Int) < a := c2
      rw [if_neg c2]; simp [c, c3]; omega
theorem new_tells (a b : Int) : ∃ cap blk, zone_New.f a b = some (cap, blk, [], 0, false) ∧ revetmentref04_New.f a b = some (cap, blk, [], 0, false) ∧ Rep cap blk [] 0 [] := by
  obtain ⟨h1, h2, h3⟩ := held_tells a
  obtain ⟨h4, h5, h6⟩ := held_tells b
  refine ⟨_, _, rfl, ?_, ⟨h2, h3, h5, h6, by simp, rfl, by simp; omega, by omega, by simp⟩⟩
  unfold revetmentref04_New.f
  rw [h1, h4]; rfl
theorem ref_append_l0 (cap blk safe : Int) (done : Bool) (L0 : List ByteArray) (b : List Int) (hb1 : 1 ≤ blk) (hbl : b.length ≤ 16777216) : ∀ (n k : Nat) (acc : List ByteArray) (i : Int), 0 ≤ i → (i : Int) + blk * n = b.length → n < k → acc.length + n ≤ 1000000 → blk ≤ 4096 →
    revetmentref04_Append.l0 k b acc i cap blk L0 safe done = some (cap, blk, acc ++ chunks blk.toNat n (b.drop i.toNat), safe, done, 0) := by
  intro n
  induction n with
  | zero =>
    intro k acc i h0 h1 hk ha hb2
    obtain ⟨k, rfl⟩ := rounds_succ' hk
    simp only [revetmentref04_Append.l0]
    rw [if_neg (by simp at h1; omega)]
    simp [chunks]
  | succ n ih =>
    intro k acc i h0 h1 hk ha hb2
    obtain ⟨k, rfl⟩ := rounds_succ' hk
    have h2 : i + blk + blk * n = b.length := by
      have : blk * ((n + 1 : Nat) : Int) = blk * n + blk := by rw [Int.natCast_add, Int.mul_add]; simp
      omega
    have h3 : 0 ≤ blk * (n : Int) := Int.mul_nonneg (by omega) (by omega)
    simp only [revetmentref04_Append.l0]
    have w : wrap64 (i + blk) = i + blk := wrap64_id (by omega) (by omega)
    rw [if_pos (by omega), if_pos h0, w, if_pos (by omega), if_pos (by omega), if_pos (by omega), ih k _ (i + blk) (by omega) h2 (by omega) (by simp; omega) hb2]
    rw [chunks, List.append_assoc]
    have e1 : (b.take (i + blk).toNat).drop i.toNat = (b.drop i.toNat).take blk.toNat := by
      rw [List.drop_take]
      congr 1
      omega
    have e2 : b.drop (i + blk).toNat = (b.drop i.toNat).drop blk.toNat := by
      rw [List.drop_drop]
      congr 1
      omega
    rw [e1, e2]
    rfl
theorem append_tells {cap blk safe : Int} {d : List Int} {L : List ByteArray} (h : Rep cap blk d safe L) (done : Bool) (b : List Int) (hb : b.length ≤ 1000000) (k : Nat) (hk : 5000 < k) :
    (∃ e : Int, (e = 3 ∨ e = 6) ∧ zone_Append.f k cap blk d safe done b = some (0, 0, [], 0, false, e) ∧ revetmentref04_Append.f k cap blk L safe done b = some (cap, blk, L, safe, done, e)) ∨
    (done = false ∧ ∃ L', zone_Append.f k cap blk d safe done b = some (cap, blk, d ++ b, safe, done, 0) ∧ revetmentref04_Append.f k cap blk L safe done b = some (cap, blk, L', safe, done, 0) ∧ Rep cap blk (d ++ b) safe L' ∧ ∃ M, L' = L ++ M) := by
  obtain ⟨k, rfl⟩ : ∃ m, k = m + 3 := ⟨k - 3, by omega⟩
  have b1 := h.b1
  have b2 := h.b2
  have c2 := h.c2
  have hf := h.fit
  have hle := h.le
  have em : mx blk 1 = blk := by unfold mx; omega
  unfold zone_Append.f revetmentref04_Append.f
  rw [em]
  by_cases z : (b.length : Int) = 0
  · refine .inl ⟨3, .inl rfl, by rw [if_pos z], ?_⟩
    rw [if_pos z]
    simp only [revetmentref04_Append.j0]
    rw [if_pos trivial]
  · rw [if_neg z, if_neg z, if_neg (by omega : ¬ blk = 0), if_neg (by omega : ¬ blk = 0)]
    have r0 := Int.emod_nonneg (b.length : Int) (by omega : blk ≠ 0)
    by_cases r : (b.length : Int) % blk = 0
    · rw [if_pos r, decide_eq_false (by omega)]
      simp only [revetmentref04_Append.j0]
      rw [if_neg (by decide : ¬ (false = true))]
      have hq := Int.emod_add_mul_ediv (b.length : Int) blk
      rw [r, Int.zero_add] at hq
      have q0 : 0 ≤ (b.length : Int) / blk := Int.ediv_nonneg (by omega) (by omega)
      have q1 : (b.length : Int) / blk ≤ b.length := Int.ediv_le_self _ (by omega)
      generalize hqq : (b.length : Int) / blk = q at hq q0 q1 ⊢
      cases done with
      | true =>
        refine .inl ⟨6, .inr rfl, by rw [if_pos rfl], ?_⟩
        rw [if_pos rfl]
        simp only [revetmentref04_Append.j1]
        rw [if_pos trivial]
      | false =>
        rw [if_neg (by decide : ¬ (false = true)), if_neg (by decide : ¬ (false = true)), if_neg (by omega : ¬ blk = 0), h.wp]
        simp only [Option.bind_some]
        have w1 : wrap64 q = q := wrap64_id (by omega) (by omega)
        have w2 : wrap64 (cap - (L.length : Int)) = cap - L.length := wrap64_id (by omega) (by omega)
        have w3 : wrap64 ((L.length : Int) + q) = L.length + q := wrap64_id (by omega) (by omega)
        rw [w1, w2, w3]
        by_cases c : q > cap - (L.length : Int)
        · refine .inl ⟨6, .inr rfl, by rw [if_pos c], ?_⟩
          rw [decide_eq_true (by omega)]
          simp only [revetmentref04_Append.j1]
          rw [if_pos trivial]
        · refine .inr ⟨by first | rfl | trivial, L ++ chunks blk.toNat q.toNat b, ?_, ?_, ?_, ⟨_, rfl⟩⟩
          · rw [if_neg c, concat_two d b (by omega) _ (by omega)]
            rfl
          · rw [decide_eq_false (by omega)]
            simp only [revetmentref04_Append.j1]
            rw [if_neg (by decide : ¬ (false = true))]
            simp only [Option.bind_some, List.length_nil, List.nil_append]
            rw [if_pos (by omega), ref_append_l0 cap blk safe false L b b1 (by omega) q.toNat (k + 1) L 0 (by omega) (by rw [Int.toNat_of_nonneg q0]; omega) (by omega) (by omega) b2]
            rfl
          · have hl : (L ++ chunks blk.toNat q.toNat b).length = L.length + q.toNat := by rw [List.length_append, chunks_len]
            refine ⟨h.c1, c2, b1, b2, ?_, ?_, by omega, h.s0, by have := h.s1; omega⟩
            · rw [hl, List.length_append]
              have hlen := h.len
              have : ((L.length + q.toNat : Nat) : Int) = L.length + q := by omega
              rw [this, Int.mul_add, hq, ← hlen]
              omega
            · rw [hl, chunks_app _ _ _ _ _ h.nlen, ← h.eq]
    · refine .inl ⟨3, .inl rfl, by rw [if_neg r], ?_⟩
      rw [decide_eq_true (by omega)]
      simp only [revetmentref04_Append.j0]
      rw [if_pos trivial]
def part (d : List Int) (b p n : Nat) : List Int := (d.take (b * (p + n))).drop (b * p)
theorem part_zero (d : List Int) (b p : Nat) : part d b p 0 = [] := by
  unfold part
  rw [Nat.add_zero]
  exact List.drop_of_length_le (by rw [List.length_take]; omega)
theorem part_succ (d : List Int) (b p n : Nat) (h : b * (p + n) ≤ d.length) : part d b p (n + 1) = part d b p n ++ (d.drop (b * (p + n))).take b := by
  unfold part
  have e : b * (p + (n + 1)) = b * (p + n) + b := by rw [← Nat.add_assoc, Nat.mul_succ]
  have h2 : b * p ≤ b * (p + n) := Nat.mul_le_mul_left b (by omega)
  rw [e, List.take_add, List.drop_append_of_le_length (by rw [List.length_take]; omega)]
theorem ref_read_l0 {cap blk safe : Int} {d : List Int} {L : List ByteArray} (h : Rep cap blk d safe L) (done : Bool) (p n : Int) (hp : 0 ≤ p) (hn : 0 ≤ n) (hm : p + n ≤ L.length) : ∀ (j k i : Nat), i + j = n.toNat → j < k →
    revetmentref04_Read.l0 k p n (strOfNums (part d blk.toNat p.toNat i)) (p + i) cap blk L safe done = some (strOfNums (part d blk.toNat p.toNat n.toNat), 0) := by
  have hf := h.fit
  have c2 := h.c2
  have hle := h.le
  have hnl := h.nlen
  intro j
  induction j with
  | zero =>
    intro k i h1 hk
    obtain ⟨k, rfl⟩ := rounds_succ' hk
    simp only [revetmentref04_Read.l0]
    rw [wrap64_id (by omega) (by omega), if_neg (by omega)]
    have : i = n.toNat := by omega
    rw [this]
  | succ j ih =>
    intro k i h1 hk
    obtain ⟨k, rfl⟩ := rounds_succ' hk
    simp only [revetmentref04_Read.l0]
    have e1 : rdOf ByteArray.empty L (p + (i : Int)) = strOfNums ((d.drop (blk.toNat * (p.toNat + i))).take blk.toNat) := by
      show L.getD (p + (i : Int)).toNat ByteArray.empty = _
      have e : (p + (i : Int)).toNat = p.toNat + i := by omega
      have q := chunks_get blk.toNat L.length (p.toNat + i) d (by omega)
      rw [← h.eq] at q
      rw [e, q]
    have hlt : blk.toNat * (p.toNat + i) ≤ d.length := by rw [hnl]; exact Nat.mul_le_mul_left _ (by omega)
    have hsz : (strOfNums (part d blk.toNat p.toNat i)).size ≤ 16777216 := by
      rw [strOfNums_size]
      unfold part
      rw [List.length_drop, List.length_take]
      omega
    have hsz2 : (strOfNums ((d.drop (blk.toNat * (p.toNat + i))).take blk.toNat)).size ≤ 16777216 := by
      rw [strOfNums_size, List.length_take, List.length_drop]
      omega
    rw [wrap64_id (by omega) (by omega), if_pos (by omega), if_pos (by omega), if_pos (by omega), e1, if_pos (by omega), ← str_app, ← part_succ _ _ _ _ hlt, wrap_succ _ (by omega) (by omega)]
    have e2 : p + (i : Int) + 1 = p + ((i + 1 : Nat) : Int) := by omega
    rw [e2]
    exact ih k (i + 1) (by omega) (by omega)
theorem read_tells {cap blk safe : Int} {d : List Int} {L : List ByteArray} (h : Rep cap blk d safe L) (done : Bool) (p n : Int) (k : Nat) (hk : 5000 < k) :
    ∃ s e, zone_Read.f cap blk d safe done p n = some (s, e) ∧ revetmentref04_Read.f k cap blk L safe done p n = some (strOfNums s, e) ∧
      ((e = 4 ∧ s = [] ∧ ¬ (0 ≤ p ∧ 0 ≤ n ∧ p + n ≤ L.length)) ∨ (e = 0 ∧ (0 ≤ p ∧ 0 ≤ n ∧ p + n ≤ L.length) ∧ s = part d blk.toNat p.toNat n.toNat)) := by
  obtain ⟨k, rfl⟩ : ∃ m, k = m + 3 := ⟨k - 3, by omega⟩
  have b1 := h.b1
  have b2 := h.b2
  have c2 := h.c2
  have hf := h.fit
  have hle := h.le
  have em : mx blk 1 = blk := by unfold mx; omega
  have jt : revetmentref04_Read.j0 (k + 3) p n true cap blk L safe done = some (strOfNums [], 4) := by
    simp only [revetmentref04_Read.j0]
    rw [if_pos trivial]; rfl
  unfold zone_Read.f revetmentref04_Read.f
  rw [em, h.wp]
  simp only [Option.bind_some]
  by_cases p0 : p < 0
  · exact ⟨[], 4, by rw [if_pos p0], by rw [if_pos p0, jt], .inl ⟨rfl, rfl, by omega⟩⟩
  rw [if_neg p0, if_neg p0]
  by_cases n0 : n < 0
  · exact ⟨[], 4, by rw [if_pos n0], by rw [if_pos n0, jt], .inl ⟨rfl, rfl, by omega⟩⟩
  rw [if_neg n0, if_neg n0]
  by_cases p1 : p > (L.length : Int)
  · exact ⟨[], 4, by rw [if_pos p1], by rw [if_pos p1, jt], .inl ⟨rfl, rfl, by omega⟩⟩
  rw [if_neg p1, if_neg p1]
  have w1 : wrap64 ((L.length : Int) - p) = L.length - p := wrap64_id (by omega) (by omega)
  rw [w1]
  by_cases n1 : n > (L.length : Int) - p
  · exact ⟨[], 4, by rw [if_pos n1], by rw [decide_eq_true n1, jt], .inl ⟨rfl, rfl, by omega⟩⟩
  rw [if_neg n1, decide_eq_false n1]
  obtain ⟨m0, m1, m2⟩ := h.mul p (by omega) (by omega)
  obtain ⟨m3, m4, m5⟩ := h.mul (p + n) (by omega) (by omega)
  have w2 : wrap64 (p + n) = p + n := wrap64_id (by omega) (by omega)
  have w3 : wrap64 (p * blk) = p * blk := wrap64_id (by omega) (by omega)
  have w4 : wrap64 ((p + n) * blk) = (p + n) * blk := wrap64_id (by omega) (by omega)
  have m6 : p * blk ≤ (p + n) * blk := Int.mul_le_mul_of_nonneg_right (by omega) (by omega)
  rw [w2, w3, w4, if_pos m0, if_pos m6, if_pos m4, m2, m5]
  have e3 : (p + n).toNat = p.toNat + n.toNat := by omega
  have hp : (d.take (blk.toNat * (p + n).toNat)).drop (blk.toNat * p.toNat) = part d blk.toNat p.toNat n.toNat := by rw [e3]; rfl
  refine ⟨part d blk.toNat p.toNat n.toNat, 0, ?_, ?_, .inr ⟨rfl, by omega, rfl⟩⟩
  · unfold slices_Clone_byte_byte.f
    rw [hp, if_pos (by unfold part; rw [List.length_drop, List.length_take]; omega)]
    rfl
  · simp only [revetmentref04_Read.j0]
    rw [if_neg (by decide : ¬ (false = true))]
    have q := ref_read_l0 h done p n (by omega) (by omega) (by omega) n.toNat (k + 2) 0 (by omega) (by omega)
    rw [part_zero, str_nil] at q
    simpa using q
end Go.Proofs.Ythpggaglmdnncaa.ZoneLib
