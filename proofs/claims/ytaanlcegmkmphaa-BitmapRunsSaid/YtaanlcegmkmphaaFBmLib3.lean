/- Maps of bits: what the printed functions of layer 19 compute, beside a list of truths. -/
import Derived.Test.YtaanlcegmkmphaaFMyPure
import Derived.ArgAppend
import Derived.Below
import Derived.BigQuiet
import Derived.Deep.AppendLies
import Derived.Deep.CutBlock
import Derived.Deep.DeepCutAuto
import Derived.Deep.Draws
import Derived.Deep.LoopGhost
import Derived.Deep.OwnRows
import Derived.Deep.QuietTactic
import Derived.Deep.RegionHeld3
import Derived.KernelRfl
import Derived.Laws.BitsLemmas
import Derived.Laws.BytesArg
import Derived.Laws.IdiomCopy
import Derived.Laws.MakeOwn
import Derived.Laws.OwnMore
import Derived.Laws.Rows
import Derived.Laws.Slices
import Derived.Lib.AppendStr
import Derived.Lib.ConvBytes
import Derived.Maps.AppendAt
import Derived.OrdersHeld
import Derived.OwnWalk
import Derived.RowKit
import Derived.RowKit3
import Derived.Tactics
import Derived.Test.YtaanlcegmkmphaaFMyWords
import Derived.Test.YtaanlcegmkmphaaProg
import Derived.Test.YtaanlcegmkmphaaFWApart
import Derived.Test.YtaanlcegmkmphaaFWArr
import Derived.Test.YtaanlcegmkmphaaFWAt
import Derived.Test.YtaanlcegmkmphaaFWEqStruct
import Derived.Test.YtaanlcegmkmphaaFWFoot
import Derived.Test.YtaanlcegmkmphaaFWFootNe
import Derived.Test.YtaanlcegmkmphaaFWFour
import Derived.Test.YtaanlcegmkmphaaFWGuard
import Derived.Test.YtaanlcegmkmphaaFWInv
import Derived.Test.YtaanlcegmkmphaaFWInvWords
import Derived.Test.YtaanlcegmkmphaaFWKept
import Derived.Test.YtaanlcegmkmphaaFWLast
import Derived.Test.YtaanlcegmkmphaaFWMore
import Derived.Test.YtaanlcegmkmphaaFWN
import Derived.Test.YtaanlcegmkmphaaFWNEv
import Derived.Test.YtaanlcegmkmphaaFWQPut
import Derived.Test.YtaanlcegmkmphaaFWRepsOne
import Derived.Test.YtaanlcegmkmphaaFWShare
import Derived.Test.YtaanlcegmkmphaaFWTab
import Derived.Test.YtaanlcegmkmphaaFWWords
import Derived.Test.YtaanlcegmkmphaaFWZeros
import Derived.WalkKit
import Derived.WideLaws
import Derived.Test.YtaanlcegmkmphaaFM0
import Derived.Test.YtaanlcegmkmphaaFMbitmap
import Derived.Test.YtaanlcegmkmphaaFMrlaw19
import Derived.Test.YtaanlcegmkmphaaFMrref19
import Derived.Test.YtaanlcegmkmphaaFMslices
namespace Go.Proofs.Ytaanlcegmkmphaa.BmLib
open Go.RowKit Go.Proofs.Ytaanlcegmkmphaa.M Go.Proofs.YtaanlcegmkmphaaW.PrintWords Go.Proofs.YtaanlcegmkmphaaW.PrintLast Go.Proofs.YtaanlcegmkmphaaW.PrintMore Go.Proofs.YtaanlcegmkmphaaW.MyWords Go.Proofs.YtaanlcegmkmphaaW.MyPure

theorem wraps_u64 (n : Int) (h0 : 0 ≤ n) (h1 : n < 2 ^ 64) : IntKind.u64.wrap n = n := by
  simp [IntKind.wrap, IntKind.bits, IntKind.signed]
  omega
def W64 (x : Int) : Prop := 0 ≤ x ∧ x < 18446744073709551616
theorem W64.nat {x : Int} (h : W64 x) : ∃ n : Nat, x = n ∧ n < 2 ^ 64 := ⟨x.toNat, by have := h.1; omega, by have := h.1; have := h.2; omega⟩
def bit (x : Int) (i : Nat) : Bool := x.toNat.testBit i
theorem bit_nat (n i : Nat) : bit (n : Int) i = n.testBit i := rfl
theorem or_u64 {a b : Int} (ha : W64 a) (hb : W64 b) : W64 (Go.bits .or .u64 a b) ∧ ∀ i, bit (Go.bits .or .u64 a b) i = (bit a i || bit b i) := by
  obtain ⟨m, rfl, hm⟩ := ha.nat
  obtain ⟨n, rfl, hn⟩ := hb.nat
  have e := (bits_nat .u64 64 (by decide) wraps_u64 m n hm hn).2
  have hl : m ||| n < 2 ^ 64 := Nat.or_lt_two_pow hm hn
  rw [e]
  exact ⟨⟨by omega, by omega⟩, fun i => by simp only [bit_nat, Nat.testBit_or]⟩
theorem andNot_u64 {a b : Int} (ha : W64 a) (hb : W64 b) : W64 (Go.bits .andNot .u64 a b) ∧ ∀ i, bit (Go.bits .andNot .u64 a b) i = (bit a i && !bit b i) := by
  obtain ⟨m, rfl, hm⟩ := ha.nat
  obtain ⟨n, rfl, hn⟩ := hb.nat
  have e : Go.bits .andNot .u64 (m : Int) (n : Int) = (((BitVec.ofNat 64 m &&& ~~~ BitVec.ofNat 64 n).toNat : Nat) : Int) := by
    simp only [Go.bits, BitVec.ofInt_natCast]
    exact wraps_u64 _ (Int.natCast_nonneg _) (by have hh := (BitVec.ofNat 64 m &&& ~~~ BitVec.ofNat 64 n).isLt; exact_mod_cast hh)
  rw [e]
  have hl := (BitVec.ofNat 64 m &&& ~~~ BitVec.ofNat 64 n).isLt
  refine ⟨⟨by omega, by omega⟩, fun i => ?_⟩
  simp only [bit_nat, BitVec.testBit_toNat, BitVec.getLsbD_and, BitVec.getLsbD_not, BitVec.getLsbD_ofNat]
  by_cases hi : i < 64
  · simp [hi]
  · have : m.testBit i = false := Nat.testBit_lt_two_pow (Nat.lt_of_lt_of_le hm (Nat.pow_le_pow_right (by decide) (by omega)))
    simp [hi, this]
theorem shl_one (s : Nat) (h : s < 64) : shl .u64 1 (s : Int) = ((2 ^ s : Nat) : Int) := by
  unfold shl
  have e : min (s : Int).toNat IntKind.u64.bits = s := by
    have : IntKind.u64.bits = 64 := rfl
    rw [this]; omega
  have hp : 2 ^ s < 2 ^ 64 := Nat.pow_lt_pow_right (by decide) h
  have e2 : (1 : Int) * 2 ^ s = ((2 ^ s : Nat) : Int) := by simp
  rw [e, e2]
  exact wraps_u64 _ (Int.natCast_nonneg _) (by exact_mod_cast hp)
theorem shl_bit (s : Nat) (h : s < 64) : W64 (shl .u64 1 (s : Int)) ∧ ∀ i, bit (shl .u64 1 (s : Int)) i = decide (s = i) := by
  have hp : 2 ^ s < 2 ^ 64 := Nat.pow_lt_pow_right (by decide) h
  rw [shl_one s h]
  have hp2 : 2 ^ s < 18446744073709551616 := hp
  exact ⟨⟨Int.natCast_nonneg _, Int.ofNat_lt.2 hp2⟩, fun i => by rw [bit_nat, Nat.testBit_two_pow]⟩
theorem get_bit {x : Int} (hx : W64 x) (s : Nat) (h : s < 64) : (Go.bits .and .u64 (shr .u64 x (s : Int)) 1 == 1) = bit x s := by
  obtain ⟨m, rfl, hm⟩ := hx.nat
  unfold shr
  have e : min (s : Int).toNat IntKind.u64.bits = s := by
    have : IntKind.u64.bits = 64 := rfl
    rw [this]; omega
  have e2 : (m : Int) / 2 ^ s = ((m / 2 ^ s : Nat) : Int) := by simp
  rw [e, e2]
  have hd : m / 2 ^ s < 2 ^ 64 := Nat.lt_of_le_of_lt (Nat.div_le_self _ _) hm
  have e3 := (bits_nat .u64 64 (by decide) wraps_u64 (m / 2 ^ s) 1 hd (by decide)).1
  have e4 : ((1 : Nat) : Int) = 1 := rfl
  rw [← e4, e3, Nat.and_one_is_mod, bit_nat, Nat.testBit_eq_decide_div_mod_eq]
  by_cases c : m / 2 ^ s % 2 = 1
  · rw [c]; rfl
  · have : m / 2 ^ s % 2 = 0 := by omega
    rw [this]; rfl

def bitAt (ws : List Int) (i : Nat) : Bool := bit (ws.getD (i / 64) 0) (i % 64)
structure Rep (ws : List Int) (n : Int) (bs : List Bool) : Prop where
  len : (bs.length : Int) = n
  le : bs.length ≤ 65536
  wl : ws.length = (bs.length + 63) / 64
  w : ∀ x ∈ ws, W64 x
  b : ∀ i, bitAt ws i = bs.getD i false
theorem getD_mem {ws : List Int} {j : Nat} (h : j < ws.length) : ws.getD j 0 ∈ ws := by
  rw [List.getD_eq_getElem?_getD, List.getElem?_eq_getElem h]
  exact List.getElem_mem _
theorem zero_bits (m : Nat) (i : Nat) : bitAt (List.replicate m 0) i = false := by
  unfold bitAt
  have : (List.replicate m (0 : Int)).getD (i / 64) 0 = 0 := by
    rw [List.getD_eq_getElem?_getD, List.getElem?_replicate]
    split <;> rfl
  rw [this]
  simp [bit]
def size0 (a : Int) : Nat := (mn (mx a 0) 65536).toNat
theorem size0_le (a : Int) : size0 a ≤ 65536 := by unfold size0 mn mx; (repeat' split) <;> omega
theorem new_tells (a : Int) : ∃ ws, bitmap_New.f a = some (ws, (size0 a : Int)) ∧ Rep ws (size0 a) (List.replicate (size0 a) false) := by
  have h0 : (size0 a : Int) = mn (mx a 0) 65536 := by unfold size0 mn mx; (repeat' split) <;> omega
  have hle := size0_le a
  unfold bitmap_New.f
  rw [← h0, if_pos (by omega), if_pos (by omega)]
  refine ⟨_, rfl, ?_, ?_, ?_, ?_, ?_⟩
  · simp
  · simpa using hle
  · simp only [List.length_replicate]; omega
  · intro x hx
    rw [List.eq_of_mem_replicate hx]
    exact ⟨by omega, by omega⟩
  · intro i
    rw [zero_bits, List.getD_eq_getElem?_getD, List.getElem?_replicate]
    split <;> rfl
theorem ref_new (a : Int) : revetmentref19_New.f a = some (List.replicate (size0 a) false) := by
  unfold revetmentref19_New.f
  have e : ∀ b : Int, size0 b = (if b < 0 then 0 else if b > 65536 then 65536 else b.toNat) := fun b => by
    unfold size0 mn mx
    (repeat' split) <;> omega
  rw [e a]
  by_cases h1 : a < 0
  · rw [if_pos h1, if_pos h1]
  · rw [if_neg h1, if_neg h1]
    by_cases h2 : a > 65536
    · rw [if_pos h2, if_pos h2]
    · rw [if_neg h2, if_neg h2, if_pos (by omega), if_pos (by omega)]
theorem there_tells (ws : List Int) (n i : Int) : bitmap_there.f ws n i = some (decide (0 ≤ i ∧ i < n)) := by
  unfold bitmap_there.f
  by_cases h : i ≥ 0
  · rw [if_pos h]
    congr 1
    by_cases h2 : i < n
    · simp [h, h2]
    · simp [h, h2]
  · rw [if_neg h]
    congr 1
    have : ¬ (0 ≤ i ∧ i < n) := fun q => h q.1
    simp [this]
theorem at_word {i : Int} (h0 : 0 ≤ i) (h1 : i < 65536) : wrap64 (Int.tdiv i 64) = ((i.toNat / 64 : Nat) : Int) ∧ Int.tmod i 64 = ((i.toNat % 64 : Nat) : Int) := by
  rw [Int.tdiv_eq_ediv_of_nonneg h0, Int.tmod_eq_emod_of_nonneg h0]
  unfold wrap64
  omega
theorem get_tells {ws : List Int} {n : Int} {bs : List Bool} (h : Rep ws n bs) (i : Int) : bitmap_Get.f ws n i = some (decide (0 ≤ i) && bs.getD i.toNat false) := by
  unfold bitmap_Get.f
  rw [there_tells]
  simp only [Option.bind_some]
  by_cases c : 0 ≤ i ∧ i < n
  · have hlen := h.len
    have hle := h.le
    have hwl := h.wl
    obtain ⟨e1, e2⟩ := at_word c.1 (by omega : i < 65536)
    rw [if_pos (by simpa using c), e1, e2, if_pos (by omega), if_pos (by omega), if_pos (by omega), rd_nat]
    have hj : i.toNat / 64 < ws.length := by omega
    rw [get_bit (h.w _ (getD_mem hj)) _ (Nat.mod_lt _ (by decide))]
    have := h.b i.toNat
    unfold bitAt at this
    rw [this]
    simp [c.1]
  · rw [if_neg (by simpa using c)]
    congr 1
    by_cases c0 : 0 ≤ i
    · have hlen := h.len
      have : bs.getD i.toNat false = false := by
        rw [List.getD_eq_getElem?_getD, List.getElem?_eq_none (by omega)]; rfl
      rw [this]; simp
    · simp [c0]
def set1 (is : Bool) (bs : List Bool) (i : Int) : List Bool := if 0 ≤ i ∧ i < bs.length then bs.set i.toNat is else bs
def setL (is : Bool) (l : List Int) (bs : List Bool) : List Bool := l.foldl (set1 is) bs
theorem set1_len (is : Bool) (bs : List Bool) (i : Int) : (set1 is bs i).length = bs.length := by unfold set1; split <;> simp
theorem setL_len (is : Bool) : ∀ (l : List Int) (bs : List Bool), (setL is l bs).length = bs.length
  | [], _ => rfl
  | i :: l, bs => by
    show (setL is l (set1 is bs i)).length = _
    rw [setL_len is l, set1_len]
theorem set1_getD (is : Bool) (bs : List Bool) (i : Int) (j : Nat) : (set1 is bs i).getD j false = if i = (j : Int) ∧ j < bs.length then is else bs.getD j false := by
  unfold set1
  by_cases c : 0 ≤ i ∧ i < bs.length
  · rw [if_pos c]
    simp only [List.getD_eq_getElem?_getD, List.getElem?_set]
    by_cases e : i.toNat = j
    · subst e
      rw [if_pos rfl, if_pos (by omega), if_pos (by omega)]; rfl
    · rw [if_neg e, if_neg (by omega)]
  · rw [if_neg c, if_neg (by omega)]
theorem rep_set {ws : List Int} {n : Int} {bs : List Bool} (h : Rep ws n bs) (i : Int) (c : 0 ≤ i ∧ i < n) (is : Bool) (x : Int) (hx : W64 x) (hb : ∀ j, bit x j = if j = i.toNat % 64 then is else bit (ws.getD (i.toNat / 64) 0) j) :
    Rep (ws.set (i.toNat / 64) x) n (set1 is bs i) := by
  have hlen := h.len
  have hle := h.le
  have hwl := h.wl
  refine ⟨by rw [set1_len]; exact hlen, by rw [set1_len]; exact hle, by rw [set1_len, List.length_set]; exact hwl, fun y hy => ?_, fun j => ?_⟩
  · rcases List.mem_or_eq_of_mem_set hy with hy | rfl
    · exact h.w y hy
    · exact hx
  · rw [set1_getD]
    unfold bitAt
    have hw : i.toNat / 64 < ws.length := by omega
    by_cases e : j / 64 = i.toNat / 64
    · have e1 : (ws.set (i.toNat / 64) x).getD (j / 64) 0 = x := by
        rw [e, List.getD_eq_getElem?_getD, List.getElem?_set_self hw]; rfl
      rw [e1, hb]
      by_cases e2 : j % 64 = i.toNat % 64
      · have : j = i.toNat := by omega
        rw [if_pos e2, if_pos (by omega)]
      · rw [if_neg e2, if_neg (by omega)]
        have := h.b j
        unfold bitAt at this
        rw [← e]
        exact this
    · have e1 : (ws.set (i.toNat / 64) x).getD (j / 64) 0 = ws.getD (j / 64) 0 := by
        rw [List.getD_eq_getElem?_getD, List.getElem?_set_ne (by omega), ← List.getD_eq_getElem?_getD]
      rw [e1, if_neg (by omega)]
      exact h.b j
theorem set_l0 (is : Bool) (l : List Int) (hl : l.length ≤ 140737488351232) : ∀ (d k : Nat) (j : Int) (ws : List Int) (n : Int) (bs : List Bool), 0 ≤ j → j + d = l.length → d < k → Rep ws n bs →
    ∃ ws', bitmap_Set.l0 k is l (l.length : Int) j ws n = some (ws', n) ∧ Rep ws' n (setL is (l.drop j.toNat) bs) := by
  intro d
  induction d with
  | zero =>
    intro k j ws n bs h0 h1 hk h
    obtain ⟨k, rfl⟩ := rounds_succ' hk
    refine ⟨ws, ?_, by rw [List.drop_of_length_le (by omega)]; exact h⟩
    simp only [bitmap_Set.l0]
    rw [if_neg (by omega)]
  | succ d ih =>
    intro k j ws n bs h0 h1 hk h
    obtain ⟨k, rfl⟩ := rounds_succ' hk
    simp only [bitmap_Set.l0]
    rw [if_pos (by omega), if_pos h0, if_pos (by omega), there_tells]
    simp only [Option.bind_some]
    rw [wrap_succ j h0 (by omega), drop_rd l j h0 (by omega)]
    have hlen := h.len
    have hle := h.le
    have hwl := h.wl
    by_cases c : 0 ≤ rd l j ∧ rd l j < n
    · rw [if_pos (by simpa using c)]
      obtain ⟨e1, e2⟩ := at_word c.1 (by omega : rd l j < 65536)
      have hw : (rd l j).toNat / 64 < ws.length := by omega
      have hx := h.w _ (getD_mem hw)
      have hs := shl_bit ((rd l j).toNat % 64) (Nat.mod_lt _ (by decide))
      have hmod : (rd l j).toNat % 64 < 64 := Nat.mod_lt _ (by decide)
      rw [e1, e2, rd_nat]
      cases is with
      | true =>
        rw [if_pos rfl, if_pos (by omega), if_pos (by omega), if_pos (by omega)]
        obtain ⟨q1, q2⟩ := or_u64 hx hs.1
        exact ih k (j + 1) _ n _ (by omega) (by omega) (by omega) (rep_set h (rd l j) c true _ q1 (fun i => by
          rw [q2, hs.2]
          by_cases e : i = (rd l j).toNat % 64
          · subst e; simp
          · rw [if_neg e]; have : ¬ (rd l j).toNat % 64 = i := fun z => e z.symm
            simp [this]))
      | false =>
        rw [if_neg (by simp), if_pos (by omega), if_pos (by omega), if_pos (by omega)]
        obtain ⟨q1, q2⟩ := andNot_u64 hx hs.1
        exact ih k (j + 1) _ n _ (by omega) (by omega) (by omega) (rep_set h (rd l j) c false _ q1 (fun i => by
          rw [q2, hs.2]
          by_cases e : i = (rd l j).toNat % 64
          · subst e; simp
          · rw [if_neg e]; have : ¬ (rd l j).toNat % 64 = i := fun z => e z.symm
            simp [this]))
    · rw [if_neg (by simpa using c)]
      have e : setL is (rd l j :: l.drop (j + 1).toNat) bs = setL is (l.drop (j + 1).toNat) bs := by
        show setL is _ (set1 is bs (rd l j)) = _
        unfold set1
        rw [if_neg (by omega)]
      rw [e]
      exact ih k (j + 1) ws n bs (by omega) (by omega) (by omega) h
theorem set_tells {ws : List Int} {n : Int} {bs : List Bool} (h : Rep ws n bs) (is : Bool) (l : List Int) (hl : l.length ≤ 140737488351232) (k : Nat) (hk : l.length < k) :
    ∃ ws', bitmap_Set.f k ws n is l = some (ws', n) ∧ Rep ws' n (setL is l bs) := by
  have hwl := h.wl
  have hle := h.le
  obtain ⟨ws', e, hr⟩ := set_l0 is l hl l.length k 0 ws n bs (by omega) (by omega) hk h
  refine ⟨ws', ?_, by simpa using hr⟩
  unfold bitmap_Set.f slices_Clone_uint64_uint64.f
  rw [if_pos (by omega)]
  exact e
theorem ref_set_l0 (m : List Bool) (is : Bool) (l : List Int) (hl : l.length ≤ 140737488351232) : ∀ (d k : Nat) (j : Int) (bs : List Bool), 0 ≤ j → j + d = l.length → d < k → bs.length = m.length →
    revetmentref19_Set.l0 k m is l bs j = some (setL is (l.drop j.toNat) bs) := by
  intro d
  induction d with
  | zero =>
    intro k j bs h0 h1 hk h
    obtain ⟨k, rfl⟩ := rounds_succ' hk
    simp only [revetmentref19_Set.l0]
    rw [if_neg (by omega), List.drop_of_length_le (by omega)]
    rfl
  | succ d ih =>
    intro k j bs h0 h1 hk h
    obtain ⟨k, rfl⟩ := rounds_succ' hk
    simp only [revetmentref19_Set.l0]
    rw [if_pos (by omega), if_pos h0, wrap_succ j h0 (by omega), drop_rd l j h0 (by omega)]
    show _ = some (setL is (l.drop (j + 1).toNat) (set1 is bs (rd l j)))
    unfold set1
    by_cases c1 : rd l j ≥ 0
    · rw [if_pos c1]
      by_cases c2 : rd l j < (m.length : Int)
      · rw [if_pos c2, if_pos c1, if_pos (by omega), if_pos (by omega)]
        exact ih k (j + 1) _ (by omega) (by omega) (by omega) (by simpa using h)
      · rw [if_neg c2, if_neg (by omega)]
        exact ih k (j + 1) _ (by omega) (by omega) (by omega) h
    · rw [if_neg c1, if_neg (by omega)]
      exact ih k (j + 1) _ (by omega) (by omega) (by omega) h
theorem ref_set (bs : List Bool) (hb : bs.length ≤ 65536) (is : Bool) (l : List Int) (hl : l.length ≤ 140737488351232) (k : Nat) (hk : l.length < k) : revetmentref19_Set.f k bs is l = some (setL is l bs) := by
  unfold revetmentref19_Set.f
  simp only [Option.bind_some, List.nil_append]
  rw [if_pos (by simp; omega), ref_set_l0 bs is l hl l.length k 0 bs (by omega) (by omega) hk rfl]
  simp
def fillL (bs : List Bool) (a b : Int) : List Bool := (List.range bs.length).map fun i => bs.getD i false || (decide (a ≤ (i : Int)) && decide ((i : Int) < b))
theorem fillL_len (bs : List Bool) (a b : Int) : (fillL bs a b).length = bs.length := by simp [fillL]
theorem fillL_getD (bs : List Bool) (a b : Int) (i : Nat) (h : i < bs.length) : (fillL bs a b).getD i false = (bs.getD i false || (decide (a ≤ (i : Int)) && decide ((i : Int) < b))) := by
  unfold fillL
  rw [List.getD_eq_getElem?_getD, List.getElem?_map, List.getElem?_range h]; rfl
theorem setL_getD : ∀ (l : List Int) (bs : List Bool) (j : Nat), j < bs.length → (setL true l bs).getD j false = (bs.getD j false || l.contains (j : Int))
  | [], bs, j, _ => by simp [setL]
  | i :: l, bs, j, h => by
    show (setL true l (set1 true bs i)).getD j false = _
    rw [setL_getD l _ j (by rw [set1_len]; exact h), set1_getD, List.contains_cons]
    by_cases e : i = (j : Int)
    · subst e; simp [h]
    · rw [if_neg (fun q => e q.1)]
      have : ((j : Int) == i) = false := by rw [beq_eq_false_iff_ne]; exact fun z => e z.symm
      rw [this]; simp
theorem ext_getD {a b : List Bool} (hl : a.length = b.length) (h : ∀ i, i < a.length → a.getD i false = b.getD i false) : a = b := by
  apply List.ext_getElem hl
  intro i h1 h2
  have := h i h1
  rw [List.getD_eq_getElem?_getD, List.getD_eq_getElem?_getD, List.getElem?_eq_getElem h1, List.getElem?_eq_getElem h2] at this
  exact this
theorem fill_l0 (b : Int) {ws : List Int} {n : Int} {bs : List Bool} (h : Rep ws n bs) (a : Int) : ∀ (d k : Nat) (j : Int) (acc : List Int), 0 ≤ j → (mn b n - j).toNat ≤ d → 2 * d + acc.length + 1 < k → acc.length + d ≤ 65536 →
    (∀ x, acc.contains x = (decide (mx a 0 ≤ x) && decide (x < j) && decide (x < mn b n))) → mx a 0 ≤ j →
    ∃ ws', bitmap_Fill.l0 k b acc j ws n = some (ws', n) ∧ Rep ws' n (fillL bs a b) := by
  intro d
  induction d with
  | zero =>
    intro k j acc h0 h1 hk hs hc hj
    obtain ⟨k, rfl⟩ := rounds_succ' hk
    simp only [bitmap_Fill.l0]
    rw [if_neg (by omega)]
    have hlen := h.len
    obtain ⟨ws', e, hr⟩ := set_tells h true acc (by omega) k (by omega)
    rw [e]
    refine ⟨ws', rfl, ?_⟩
    have e2 : fillL bs a b = setL true acc bs := ext_getD (by rw [fillL_len, setL_len]) (fun i hi => by
      rw [fillL_len] at hi
      rw [fillL_getD _ _ _ _ hi, setL_getD _ _ _ hi, hc]
      congr 1
      have hz : (i : Int) < n := by omega
      have m1 : (mn b n = b ∨ mn b n = n) ∧ mn b n ≤ b ∧ mn b n ≤ n := by unfold mn; split <;> omega
      have m2 : a ≤ mx a 0 ∧ 0 ≤ mx a 0 ∧ (mx a 0 = a ∨ mx a 0 = 0) := by unfold mx; split <;> omega
      by_cases c1 : a ≤ (i : Int) <;> by_cases c2 : (i : Int) < b
      · have : mx a 0 ≤ (i : Int) ∧ (i : Int) < mn b n ∧ (i : Int) < j := by omega
        simp [c1, c2, this]
      · have : ¬ (i : Int) < mn b n := by omega
        simp [c2, this]
      · have : ¬ mx a 0 ≤ (i : Int) := by omega
        simp [c1, this]
      · have : ¬ mx a 0 ≤ (i : Int) := by omega
        simp [c1, this])
    rw [e2]
    exact hr
  | succ d ih =>
    intro k j acc h0 h1 hk hs hc hj
    by_cases c : j < mn b n
    · obtain ⟨k, rfl⟩ := rounds_succ' hk
      have hlen := h.len
      have hle := h.le
      have m1 : mn b n ≤ n := by unfold mn; split <;> omega
      simp only [bitmap_Fill.l0]
      rw [if_pos c, if_pos (by omega), wrap_succ j h0 (by omega)]
      refine ih k (j + 1) (acc ++ [j]) (by omega) (by omega) (by simp; omega) (by simp; omega) (fun x => ?_) (by omega)
      rw [List.contains_eq_any_beq, List.any_append, ← List.contains_eq_any_beq, hc]
      simp only [List.any_cons, List.any_nil, Bool.or_false]
      by_cases e : x = j
      · subst e; simp [hj, c]; omega
      · have e2 : (x == j) = false := by simpa using e
        rw [e2, Bool.or_false]
        by_cases q : x < j
        · have : x < j + 1 := by omega
          simp [q, this]
        · have : ¬ x < j + 1 := by omega
          simp [q, this]
    · exact (ih k j acc h0 (by omega) (by omega) (by omega) hc hj)
theorem fill_tells {ws : List Int} {n : Int} {bs : List Bool} (h : Rep ws n bs) (a b : Int) (k : Nat) (hk : 200000 < k) : ∃ ws', bitmap_Fill.f k ws n a b = some (ws', n) ∧ Rep ws' n (fillL bs a b) := by
  unfold bitmap_Fill.f
  have hlen := h.len
  have hle := h.le
  have m1 : mn b n ≤ n := by unfold mn; split <;> omega
  have m2 : 0 ≤ mx a 0 := by unfold mx; split <;> omega
  exact fill_l0 b h a 65536 k (mx a 0) [] m2 (by omega) (by simp; omega) (by simp) (fun x => by
    by_cases q : mx a 0 ≤ x
    · have : ¬ x < mx a 0 := by omega
      simp [this]
    · simp [q]) (Int.le_refl _)
theorem ref_fill_l0 (m : List Bool) (hm : m.length ≤ 65536) (a b : Int) : ∀ (d k : Nat) (j : Int) (bs : List Bool), 0 ≤ j → j + d = m.length → d < k → bs.length = m.length →
    (∀ i : Nat, i < m.length → bs.getD i false = if (i : Int) < j then (fillL m a b).getD i false else m.getD i false) → revetmentref19_Fill.l0 k m a b bs j = some (fillL m a b) := by
  intro d
  induction d with
  | zero =>
    intro k j bs h0 h1 hk hl h
    obtain ⟨k, rfl⟩ := rounds_succ' hk
    simp only [revetmentref19_Fill.l0]
    rw [if_neg (by omega)]
    congr 1
    exact ext_getD (by rw [hl, fillL_len]) (fun i hi => by rw [h i (by omega), if_pos (by omega)])
  | succ d ih =>
    intro k j bs h0 h1 hk hl h
    obtain ⟨k, rfl⟩ := rounds_succ' hk
    simp only [revetmentref19_Fill.l0]
    rw [if_pos (by omega), if_pos h0, wrap_succ j h0 (by omega)]
    have step : ∀ v : Bool, v = (fillL m a b).getD j.toNat false → revetmentref19_Fill.l0 k m a b (bs.set j.toNat v) (j + 1) = some (fillL m a b) := fun v hv =>
      ih k (j + 1) _ (by omega) (by omega) (by omega) (by simpa using hl) (fun i hi => by
        rw [List.getD_eq_getElem?_getD, List.getElem?_set]
        by_cases e : j.toNat = i
        · subst e
          rw [if_pos rfl, if_pos (by omega), if_pos (by omega)]; exact hv
        · rw [if_neg e, ← List.getD_eq_getElem?_getD, h i hi]
          by_cases q : (i : Int) < j
          · rw [if_pos q, if_pos (by omega)]
          · rw [if_neg q, if_neg (by omega)])
    have hf := fillL_getD m a b j.toNat (by omega)
    have ej : ((j.toNat : Nat) : Int) = j := by omega
    rw [ej] at hf
    have hrd : rdOf false m j = m.getD j.toNat false := rfl
    rw [hrd]
    by_cases c1 : m.getD j.toNat false = true
    · rw [if_pos c1, if_pos (by omega)]
      exact step true (by rw [hf, c1]; rfl)
    · have c1' : m.getD j.toNat false = false := by simpa using c1
      rw [if_neg c1]
      by_cases c2 : j ≥ a
      · rw [if_pos c2, if_pos (by omega)]
        exact step _ (by rw [hf, c1']; simp [c2])
      · rw [if_neg c2, if_pos (by omega)]
        exact step false (by rw [hf, c1']; have : ¬ a ≤ j := by omega
                             simp [this])
theorem ref_fill (bs : List Bool) (hb : bs.length ≤ 65536) (a b : Int) (k : Nat) (hk : 65536 < k) : revetmentref19_Fill.f k bs a b = some (fillL bs a b) := by
  unfold revetmentref19_Fill.f
  simp only [Option.bind_some, List.nil_append]
  rw [if_pos (by simp; omega)]
  exact ref_fill_l0 bs hb a b bs.length k 0 bs (by omega) (by omega) (by omega) rfl (fun i _ => by rw [if_neg (by omega)])

def txt (bs : List Bool) : ByteArray := ⟨(bs.map fun b => if b then (49 : UInt8) else 48).toArray⟩
theorem txt_snoc (bs : List Bool) (b : Bool) : txt bs ++ (⟨#[if b then 49 else 48]⟩ : ByteArray) = txt (bs ++ [b]) := by
  apply ByteArray.ext
  simp [txt, ByteArray.data_append]
theorem txt_size (bs : List Bool) : (txt bs).size = bs.length := by simp [txt, ByteArray.size]
theorem take_getD (bs : List Bool) (j : Int) (h0 : 0 ≤ j) (h1 : j < bs.length) : bs.take (j + 1).toNat = bs.take j.toNat ++ [bs.getD j.toNat false] := by
  have e : (j + 1).toNat = j.toNat + 1 := by omega
  rw [e, List.take_succ_eq_append_getElem (by omega), List.getD_eq_getElem?_getD, List.getElem?_eq_getElem (by omega)]; rfl
theorem ref_text_l0 (bs : List Bool) (hb : bs.length ≤ 65536) : ∀ (d k : Nat) (j : Int), 0 ≤ j → j + d = bs.length → d < k → revetmentref19_Text.l0 k bs (txt (bs.take j.toNat)) j = some (txt bs) := by
  intro d
  induction d with
  | zero =>
    intro k j h0 h1 hk
    obtain ⟨k, rfl⟩ := rounds_succ' hk
    simp only [revetmentref19_Text.l0]
    rw [if_neg (by omega), List.take_of_length_le (by omega)]
  | succ d ih =>
    intro k j h0 h1 hk
    obtain ⟨k, rfl⟩ := rounds_succ' hk
    simp only [revetmentref19_Text.l0]
    have hs : (txt (bs.take j.toNat)).size + 1 ≤ 9223372036854775807 := by rw [txt_size, List.length_take]; omega
    have hrd : rdOf false bs j = bs.getD j.toNat false := rfl
    rw [if_pos (by omega), if_pos h0, wrap_succ j h0 (by omega), hrd]
    have := ih k (j + 1) (by omega) (by omega) (by omega)
    rw [take_getD bs j h0 (by omega), ← txt_snoc] at this
    by_cases c : bs.getD j.toNat false = true
    · rw [if_pos c, if_pos hs]; rw [c] at this; exact this
    · have c' : bs.getD j.toNat false = false := by simpa using c
      rw [if_neg c, if_pos hs]; rw [c'] at this; exact this
theorem ref_text (bs : List Bool) (hb : bs.length ≤ 65536) (k : Nat) (hk : bs.length < k) : revetmentref19_Text.f k bs = some (txt bs) := by
  unfold revetmentref19_Text.f
  exact ref_text_l0 bs hb bs.length k 0 (by omega) (by omega) hk
def nums (bs : List Bool) : List Int := bs.map fun b => if b then 49 else 48
theorem nums_txt (bs : List Bool) : strOfNums (nums bs) = txt bs := by
  unfold strOfNums nums txt
  congr 2
  rw [List.map_map]
  apply List.map_congr_left
  intro b _
  cases b <;> rfl
theorem text_l0 {ws : List Int} {n : Int} {bs : List Bool} (h : Rep ws n bs) : ∀ (d k : Nat) (j : Int), 0 ≤ j → j + d = bs.length → d < k → bitmap_Text.l0 k (nums (bs.take j.toNat)) n j ws n = some (txt bs) := by
  have hlen := h.len
  have hle := h.le
  intro d
  induction d with
  | zero =>
    intro k j h0 h1 hk
    obtain ⟨k, rfl⟩ := rounds_succ' hk
    simp only [bitmap_Text.l0]
    rw [if_neg (by omega), List.take_of_length_le (by omega), nums_txt]
  | succ d ih =>
    intro k j h0 h1 hk
    obtain ⟨k, rfl⟩ := rounds_succ' hk
    simp only [bitmap_Text.l0]
    have hs : (nums (bs.take j.toNat)).length < 140737488355328 := by unfold nums; rw [List.length_map, List.length_take]; omega
    rw [if_pos (by omega), get_tells h j]
    simp only [Option.bind_some, h0, decide_true, Bool.true_and]
    rw [wrap_succ j h0 (by omega)]
    have := ih k (j + 1) (by omega) (by omega) (by omega)
    rw [take_getD bs j h0 (by omega)] at this
    have e : ∀ b, nums (bs.take j.toNat ++ [b]) = nums (bs.take j.toNat) ++ [if b then 49 else 48] := fun b => by simp [nums]
    rw [e] at this
    by_cases c : bs.getD j.toNat false = true
    · rw [if_pos c, if_pos hs]; rw [c] at this; exact this
    · have c' : bs.getD j.toNat false = false := by simpa using c
      rw [if_neg c, if_pos hs]; rw [c'] at this; exact this
theorem text_tells {ws : List Int} {n : Int} {bs : List Bool} (h : Rep ws n bs) (k : Nat) (hk : bs.length < k) : bitmap_Text.f k ws n = some (txt bs) := by
  unfold bitmap_Text.f
  exact text_l0 h bs.length k 0 (by omega) (by omega) hk
theorem live_60 : revetmentlaw19_live.f 60 = some true := by decide +kernel
theorem live (k : Nat) (hk : 60 ≤ k) : revetmentlaw19_live.f k = some true := at_rounds (fun k => revetmentlaw19_live.mono k) hk live_60

def ActOk (x : S172) : Prop := x.f2.length ≤ 140737488351232
def does (bs : List Bool) (x : S172) : List Bool := if x.f0 = 0 then setL x.f1 x.f2 bs else fillL bs x.f3 x.f4
theorem drop_T (l : List (S172)) (i : Int) (h0 : 0 ≤ i) (h1 : i < l.length) : l.drop i.toNat = rd_T172 l i :: l.drop (i + 1).toNat := by
  have e : (i + 1).toNat = i.toNat + 1 := by omega
  rw [e, List.drop_eq_getElem_cons (by omega)]
  congr 1
  unfold rd_T172
  rw [List.getD_eq_getElem?_getD, List.getElem?_eq_getElem (by omega)]; rfl
theorem rd_T_mem (l : List (S172)) (i : Int) (h0 : 0 ≤ i) (h1 : i < l.length) : rd_T172 l i ∈ l := by
  unfold rd_T172
  rw [List.getD_eq_getElem?_getD, List.getElem?_eq_getElem (by omega)]
  exact List.getElem_mem _
theorem play_l0 (l : List (S172)) (hl : l.length ≤ 140737488351232) (K : Nat) (hK : 200000 < K) (hk2 : ∀ x ∈ l, ActOk x ∧ x.f2.length < K) : ∀ (d k : Nat) (j : Int) (ws : List Int) (n : Int) (bs : List Bool), 0 ≤ j → j + d = l.length → d + K < k → Rep ws n bs →
    ∃ ws', revetmentlaw19_play.l0 k l bs j ws n = some (ws', n, (l.drop j.toNat).foldl does bs) ∧ Rep ws' n ((l.drop j.toNat).foldl does bs) := by
  intro d
  induction d with
  | zero =>
    intro k j ws n bs h0 h1 hk h
    obtain ⟨k, rfl⟩ := rounds_succ' hk
    refine ⟨ws, ?_, by rw [List.drop_of_length_le (by omega)]; exact h⟩
    simp only [revetmentlaw19_play.l0]
    rw [if_neg (by omega), List.drop_of_length_le (by omega)]
    rfl
  | succ d ih =>
    intro k j ws n bs h0 h1 hk h
    obtain ⟨k, rfl⟩ := rounds_succ' hk
    simp only [revetmentlaw19_play.l0]
    have hx := hk2 _ (rd_T_mem l j h0 (by omega))
    have hle := h.le
    rw [if_pos (by omega), if_pos h0, wrap_succ j h0 (by omega), drop_T l j h0 (by omega), List.foldl_cons]
    by_cases c : (rd_T172 l j).f0 = 0
    · obtain ⟨w1, e1, r1⟩ := set_tells h (rd_T172 l j).f1 (rd_T172 l j).f2 hx.1 k (by omega)
      rw [if_pos c, e1]
      simp only [Option.bind_some]
      rw [ref_set bs hle _ _ hx.1 k (by omega)]
      simp only [Option.bind_some]
      have e2 : does bs (rd_T172 l j) = setL (rd_T172 l j).f1 (rd_T172 l j).f2 bs := by unfold does; rw [if_pos c]
      rw [e2]
      exact ih k (j + 1) w1 n _ (by omega) (by omega) (by omega) r1
    · obtain ⟨w1, e1, r1⟩ := fill_tells h (rd_T172 l j).f3 (rd_T172 l j).f4 k (by omega)
      rw [if_neg c, e1]
      simp only [Option.bind_some]
      rw [ref_fill bs hle _ _ k (by omega)]
      simp only [Option.bind_some]
      have e2 : does bs (rd_T172 l j) = fillL bs (rd_T172 l j).f3 (rd_T172 l j).f4 := by unfold does; rw [if_neg c]
      rw [e2]
      exact ih k (j + 1) w1 n _ (by omega) (by omega) (by omega) r1
def played (a : Int) (l : List (S172)) : List Bool := l.foldl does (List.replicate (size0 a) false)
theorem play_tells (a : Int) (l : List (S172)) (hl : l.length ≤ 140737488351232) (K : Nat) (hK : 200000 < K) (hk2 : ∀ x ∈ l, ActOk x ∧ x.f2.length < K) (k : Nat) (hk : l.length + K < k) :
    ∃ ws, revetmentlaw19_play.f k a l = some (ws, (size0 a : Int), played a l) ∧ Rep ws (size0 a) (played a l) := by
  obtain ⟨w0, e0, r0⟩ := new_tells a
  obtain ⟨ws, e, r⟩ := play_l0 l hl K hK hk2 l.length k 0 w0 (size0 a) _ (by omega) (by omega) hk r0
  refine ⟨ws, ?_, by simpa [played] using r⟩
  unfold revetmentlaw19_play.f
  rw [e0, ref_new]
  simp only [Option.bind_some]
  rw [e]
  simp [played]
theorem rounds_for (l : List (S172)) : ∃ K, 200000 < K ∧ ∀ x ∈ l, x.f2.length < K := by
  induction l with
  | nil => exact ⟨200001, by omega, fun x h => by cases h⟩
  | cons y l ih =>
    obtain ⟨K, h1, h2⟩ := ih
    refine ⟨K + y.f2.length + 1, by omega, fun x hx => ?_⟩
    rcases List.mem_cons.1 hx with rfl | hx
    · omega
    · have := h2 x hx; omega
end Go.Proofs.Ytaanlcegmkmphaa.BmLib
