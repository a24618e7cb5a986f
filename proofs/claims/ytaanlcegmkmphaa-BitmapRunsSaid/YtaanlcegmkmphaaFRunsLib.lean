/- The rows of places that a map has, what one of two has, and what it has not: beside a list of truths. -/
import Derived.Test.YtaanlcegmkmphaaFBmLib3
import Derived.ArgAppend
import Derived.Below
import Derived.BigQuiet
import Derived.Deep.AppendLies
import Derived.Deep.CutBlock
import Derived.Deep.DeepCutAuto
import Derived.Deep.Draws
import Derived.Deep.LoopGhost
import Derived.Deep.OwnRows
import Derived.Deep.QuietTactic
import Derived.Deep.RegionHeld3
import Derived.KernelRfl
import Derived.Laws.BitsLemmas
import Derived.Laws.BytesArg
import Derived.Laws.IdiomCopy
import Derived.Laws.MakeOwn
import Derived.Laws.OwnMore
import Derived.Laws.Rows
import Derived.Laws.Slices
import Derived.Lib.AppendStr
import Derived.Lib.ConvBytes
import Derived.Maps.AppendAt
import Derived.OrdersHeld
import Derived.OwnWalk
import Derived.RowKit
import Derived.RowKit3
import Derived.Tactics
import Derived.Test.YtaanlcegmkmphaaFMyWords
import Derived.Test.YtaanlcegmkmphaaProg
import Derived.Test.YtaanlcegmkmphaaFWApart
import Derived.Test.YtaanlcegmkmphaaFWArr
import Derived.Test.YtaanlcegmkmphaaFWAt
import Derived.Test.YtaanlcegmkmphaaFWEqStruct
import Derived.Test.YtaanlcegmkmphaaFWFoot
import Derived.Test.YtaanlcegmkmphaaFWFootNe
import Derived.Test.YtaanlcegmkmphaaFWFour
import Derived.Test.YtaanlcegmkmphaaFWGuard
import Derived.Test.YtaanlcegmkmphaaFWInv
import Derived.Test.YtaanlcegmkmphaaFWInvWords
import Derived.Test.YtaanlcegmkmphaaFWKept
import Derived.Test.YtaanlcegmkmphaaFWLast
import Derived.Test.YtaanlcegmkmphaaFWMore
import Derived.Test.YtaanlcegmkmphaaFWN
import Derived.Test.YtaanlcegmkmphaaFWNEv
import Derived.Test.YtaanlcegmkmphaaFWQPut
import Derived.Test.YtaanlcegmkmphaaFWRepsOne
import Derived.Test.YtaanlcegmkmphaaFWShare
import Derived.Test.YtaanlcegmkmphaaFWTab
import Derived.Test.YtaanlcegmkmphaaFWWords
import Derived.Test.YtaanlcegmkmphaaFWZeros
import Derived.WalkKit
import Derived.WideLaws
import Derived.Test.YtaanlcegmkmphaaFMbitmap
import Derived.Test.YtaanlcegmkmphaaFMbitmapp2
import Derived.Test.YtaanlcegmkmphaaFMrref19
namespace Go.Proofs.Ytaanlcegmkmphaa.RunsLib
open Go.RowKit Go.Proofs.Ytaanlcegmkmphaa.M Go.Proofs.Ytaanlcegmkmphaa.BmLib Go.Proofs.YtaanlcegmkmphaaW.PrintWords Go.Proofs.YtaanlcegmkmphaaW.PrintLast Go.Proofs.YtaanlcegmkmphaaW.PrintMore Go.Proofs.YtaanlcegmkmphaaW.MyWords Go.Proofs.YtaanlcegmkmphaaW.MyPure
def orL (a b : List Bool) : List Bool := (List.range (max a.length b.length)).map fun i => a.getD i false || b.getD i false
theorem orL_len (a b : List Bool) : (orL a b).length = max a.length b.length := by simp [orL]
theorem orL_getD (a b : List Bool) (i : Nat) : (orL a b).getD i false = (a.getD i false || b.getD i false) := by
  unfold orL
  by_cases h : i < max a.length b.length
  · rw [List.getD_eq_getElem?_getD, List.getElem?_map, List.getElem?_range h]; rfl
  · have h1 : a.getD i false = false := by rw [List.getD_eq_getElem?_getD, List.getElem?_eq_none (by omega)]; rfl
    have h2 : b.getD i false = false := by rw [List.getD_eq_getElem?_getD, List.getElem?_eq_none (by omega)]; rfl
    rw [h1, h2, List.getD_eq_getElem?_getD, List.getElem?_eq_none (by simp; omega)]; rfl
theorem ref_or_l0 (a b : List Bool) (ha : a.length ≤ 65536) (hb : b.length ≤ 65536) : ∀ (d k : Nat) (j : Int), 0 ≤ j → j + d = max a.length b.length → d < k → revetmentref19_Or.l0 k a b ((orL a b).take j.toNat) j = some (orL a b) := by
  intro d
  induction d with
  | zero =>
    intro k j h0 h1 hk
    obtain ⟨k, rfl⟩ := rounds_succ' hk
    simp only [revetmentref19_Or.l0]
    rw [if_neg (by omega), if_neg (by omega), List.take_of_length_le (by rw [orL_len]; omega)]
  | succ d ih =>
    intro k j h0 h1 hk
    obtain ⟨k, rfl⟩ := rounds_succ' hk
    simp only [revetmentref19_Or.l0]
    have hs : ((orL a b).take j.toNat).length < 140737488355328 := by rw [List.length_take, orL_len]; omega
    have e := take_getD (orL a b) j h0 (by rw [orL_len]; omega)
    rw [orL_getD] at e
    have ih' := ih k (j + 1) (by omega) (by omega) (by omega)
    rw [e] at ih'
    have r1 : rdOf false a j = a.getD j.toNat false := rfl
    have r2 : rdOf false b j = b.getD j.toNat false := rfl
    rw [wrap_succ j h0 (by omega), r1, r2]
    by_cases c1 : j < (a.length : Int)
    · rw [if_pos c1, if_pos h0]
      by_cases c3 : a.getD j.toNat false = true
      · rw [if_pos c3, if_pos hs]; rw [c3, Bool.true_or] at ih'; exact ih'
      · have c3' : a.getD j.toNat false = false := by simpa using c3
        rw [if_neg c3]; rw [c3', Bool.false_or] at ih'
        by_cases c2 : j < (b.length : Int)
        · rw [if_pos c2, if_pos hs]; exact ih'
        · have z : b.getD j.toNat false = false := by rw [List.getD_eq_getElem?_getD, List.getElem?_eq_none (by omega)]; rfl
          rw [if_neg c2, if_pos hs]; rw [z] at ih'; exact ih'
    · have z : a.getD j.toNat false = false := by rw [List.getD_eq_getElem?_getD, List.getElem?_eq_none (by omega)]; rfl
      rw [if_neg c1, if_pos (by omega), if_pos h0, if_pos hs]; rw [z, Bool.false_or] at ih'; exact ih'
theorem ref_or (a b : List Bool) (ha : a.length ≤ 65536) (hb : b.length ≤ 65536) (k : Nat) (hk : 65536 < k) : revetmentref19_Or.f k a b = some (orL a b) := by
  unfold revetmentref19_Or.f
  exact ref_or_l0 a b ha hb (max a.length b.length) k 0 (by omega) (by omega) (by omega)
theorem rd_set_self (l : List Int) (j x : Int) (h0 : 0 ≤ j) (h1 : j < l.length) : rd (l.set j.toNat x) j = x := by
  have e : rd (l.set j.toNat x) j = (l.set j.toNat x).getD j.toNat 0 := rfl
  rw [e, List.getD_eq_getElem?_getD, List.getElem?_set_self (by omega)]; rfl
theorem rd_getD (l : List Int) (j : Int) : rd l j = l.getD j.toNat 0 := rfl
theorem bitAt_set (ws : List Int) (j : Nat) (x : Int) (h : j < ws.length) (i : Nat) : bitAt (ws.set j x) i = if i / 64 = j then bit x (i % 64) else bitAt ws i := by
  unfold bitAt
  by_cases z : i / 64 = j
  · rw [if_pos z, z, List.getD_eq_getElem?_getD, List.getElem?_set_self h]; rfl
  · rw [if_neg z, List.getD_eq_getElem?_getD, List.getElem?_set_ne (by omega), ← List.getD_eq_getElem?_getD]
theorem or_l0 {u v : List Int} {m n : Int} {a b : List Bool} (ha : Rep u m a) (hb : Rep v n b) (N : Int) : ∀ (d k : Nat) (j : Int) (ws : List Int), 0 ≤ j → j + d = ws.length → d < k →
    ws.length = max u.length v.length → (∀ x ∈ ws, W64 x) → (∀ i, bitAt ws i = if ((i / 64 : Nat) : Int) < j then (bitAt u i || bitAt v i) else false) →
    ∃ ws', bitmap_Or.l0 k (ws.length : Int) j u m v n ws N = some (ws', N) ∧ ws'.length = ws.length ∧ (∀ x ∈ ws', W64 x) ∧ ∀ i, bitAt ws' i = (bitAt u i || bitAt v i) := by
  have out : ∀ (q : List Int) (i : Nat), q.length ≤ i / 64 → bitAt q i = false := fun q i h => by
    unfold bitAt
    rw [List.getD_eq_getElem?_getD, List.getElem?_eq_none h]
    simp [bit]
  have hul := ha.wl
  have hvl := hb.wl
  have hale := ha.le
  have hble := hb.le
  intro d
  induction d with
  | zero =>
    intro k j ws h0 h1 hk hl hw hbit
    obtain ⟨k, rfl⟩ := rounds_succ' hk
    refine ⟨ws, ?_, rfl, hw, fun i => ?_⟩
    · simp only [bitmap_Or.l0]
      rw [if_neg (by omega)]
    · rw [hbit]
      split
      · rfl
      · rw [out u i (by omega), out v i (by omega)]; rfl
  | succ d ih =>
    intro k j ws h0 h1 hk hl hw hbit
    obtain ⟨k, rfl⟩ := rounds_succ' hk
    have hj : j.toNat < ws.length := by omega
    have hwj := hw _ (rd_mem (l := ws) j h0 (by omega))
    have zero : ∀ t, t < 64 → bit (rd ws j) t = false := fun t ht => by
      have := hbit (64 * j.toNat + t)
      have e1 : (64 * j.toNat + t) / 64 = j.toNat := by omega
      have e2 : (64 * j.toNat + t) % 64 = t := by omega
      rw [if_neg (by rw [e1]; omega)] at this
      unfold bitAt at this
      rw [e1, e2] at this
      exact this
    have step : ∀ x, W64 x → (∀ t, t < 64 → bit x t = (bit (u.getD j.toNat 0) t || bit (v.getD j.toNat 0) t)) → ∃ ws', bitmap_Or.l0 k (ws.length : Int) (j + 1) u m v n (ws.set j.toNat x) N = some (ws', N) ∧ ws'.length = ws.length ∧ (∀ x ∈ ws', W64 x) ∧ ∀ i, bitAt ws' i = (bitAt u i || bitAt v i) := fun x hx hb2 => by
      have := ih k (j + 1) (ws.set j.toNat x) (by omega) (by rw [List.length_set]; omega) (by omega) (by rw [List.length_set]; exact hl) (fun y hy => by
        rcases List.mem_or_eq_of_mem_set hy with hy | rfl
        · exact hw y hy
        · exact hx) (fun i => by
        rw [bitAt_set ws j.toNat x hj]
        by_cases z : i / 64 = j.toNat
        · rw [if_pos z, if_pos (by omega), hb2 _ (Nat.mod_lt _ (by decide))]
          unfold bitAt
          rw [z]
        · rw [if_neg z, hbit i]
          by_cases y : ((i / 64 : Nat) : Int) < j
          · rw [if_pos y, if_pos (by omega)]
          · rw [if_neg y, if_neg (by omega)])
      rw [List.length_set] at this
      exact this
    have zu : ¬ j < (u.length : Int) → ∀ t, bit (u.getD j.toNat 0) t = false := fun h t => by
      rw [List.getD_eq_getElem?_getD, List.getElem?_eq_none (by omega)]; simp [bit]
    have zv : ¬ j < (v.length : Int) → ∀ t, bit (v.getD j.toNat 0) t = false := fun h t => by
      rw [List.getD_eq_getElem?_getD, List.getElem?_eq_none (by omega)]; simp [bit]
    simp only [bitmap_Or.l0]
    rw [if_pos (by omega), wrap_succ j h0 (by omega)]
    by_cases c1 : j < (u.length : Int)
    · have hu := ha.w _ (rd_mem (l := u) j h0 c1)
      obtain ⟨q1, q2⟩ := or_u64 hwj hu
      rw [if_pos c1, if_pos h0, if_pos (by omega)]
      by_cases c2 : j < (v.length : Int)
      · have hv := hb.w _ (rd_mem (l := v) j h0 c2)
        simp only [Option.bind_some]
        rw [if_pos c2, rd_set_self ws j _ h0 (by omega), List.set_set]
        obtain ⟨q3, q4⟩ := or_u64 q1 hv
        exact step _ q3 (fun t ht => by rw [q4, q2, zero t ht, rd_getD, rd_getD, Bool.false_or])
      · simp only [Option.bind_some]
        rw [if_neg c2]
        exact step _ q1 (fun t ht => by rw [q2, zero t ht, zv c2 t, rd_getD, Bool.false_or, Bool.or_false])
    · rw [if_neg c1, if_pos (by omega), if_pos h0, if_pos (by omega)]
      have hv := hb.w _ (rd_mem (l := v) j h0 (by omega))
      obtain ⟨q1, q2⟩ := or_u64 hwj hv
      exact step _ q1 (fun t ht => by rw [q2, zero t ht, zu c1 t, rd_getD])
theorem or_tells {u v : List Int} {m n : Int} {a b : List Bool} (ha : Rep u m a) (hb : Rep v n b) (k : Nat) (hk : 65536 < k) : ∃ ws N, bitmap_Or.f k u m v n = some (ws, N) ∧ Rep ws N (orL a b) := by
  unfold bitmap_Or.f
  obtain ⟨w0, e0, r0⟩ := new_tells (mx m n)
  rw [e0]
  simp only [Option.bind_some]
  have hal := ha.len
  have hbl := hb.len
  have hul := ha.wl
  have hvl := hb.wl
  have hale := ha.le
  have hble := hb.le
  have hs : size0 (mx m n) = max a.length b.length := by unfold size0 mn mx; (repeat' split) <;> omega
  have hw0 := r0.wl
  simp only [List.length_replicate] at hw0
  obtain ⟨ws, e, l', w', b'⟩ := or_l0 ha hb (size0 (mx m n)) w0.length k 0 w0 (by omega) (by omega) (by omega) (by omega) r0.w (fun i => by
    rw [if_neg (by omega), r0.b, List.getD_eq_getElem?_getD, List.getElem?_replicate]
    split <;> rfl)
  refine ⟨ws, _, e, ?_, ?_, ?_, w', fun i => ?_⟩
  · rw [orL_len]; omega
  · rw [orL_len]; omega
  · rw [orL_len, l']; omega
  · rw [b', ha.b, hb.b, orL_getD]
def notL (bs : List Bool) : List Bool := bs.map (!·)
theorem notL_len (bs : List Bool) : (notL bs).length = bs.length := by simp [notL]
theorem notL_getD (bs : List Bool) (i : Nat) (h : i < bs.length) : (notL bs).getD i false = !(bs.getD i false) := by
  unfold notL
  rw [List.getD_eq_getElem?_getD, List.getElem?_map, List.getD_eq_getElem?_getD, List.getElem?_eq_getElem h]
  rfl
theorem ref_not_l0 (bs : List Bool) (hb : bs.length ≤ 65536) : ∀ (d k : Nat) (j : Int), 0 ≤ j → j + d = bs.length → d < k → revetmentref19_Not.l0 k bs ((notL bs).take j.toNat) j = some (notL bs) := by
  intro d
  induction d with
  | zero =>
    intro k j h0 h1 hk
    obtain ⟨k, rfl⟩ := rounds_succ' hk
    simp only [revetmentref19_Not.l0]
    rw [if_neg (by omega), List.take_of_length_le (by rw [notL_len]; omega)]
  | succ d ih =>
    intro k j h0 h1 hk
    obtain ⟨k, rfl⟩ := rounds_succ' hk
    simp only [revetmentref19_Not.l0]
    have hs : ((notL bs).take j.toNat).length < 140737488355328 := by rw [List.length_take, notL_len]; omega
    have e := take_getD (notL bs) j h0 (by rw [notL_len]; omega)
    rw [notL_getD bs _ (by omega)] at e
    have ih' := ih k (j + 1) (by omega) (by omega) (by omega)
    rw [e] at ih'
    have r1 : rdOf false bs j = bs.getD j.toNat false := rfl
    rw [if_pos (by omega), if_pos h0, if_pos hs, wrap_succ j h0 (by omega), r1]
    exact ih'
theorem ref_not (bs : List Bool) (hb : bs.length ≤ 65536) (k : Nat) (hk : 65536 < k) : revetmentref19_Not.f k bs = some (notL bs) := by
  unfold revetmentref19_Not.f
  exact ref_not_l0 bs hb bs.length k 0 (by omega) (by omega) (by omega)
def curL (bs : List Bool) (j : Nat) : List Bool := (List.range bs.length).map fun i => decide (i < j) && !(bs.getD i false)
theorem curL_len (bs : List Bool) (j : Nat) : (curL bs j).length = bs.length := by simp [curL]
theorem curL_getD (bs : List Bool) (j i : Nat) (h : i < bs.length) : (curL bs j).getD i false = (decide (i < j) && !(bs.getD i false)) := by
  unfold curL
  rw [List.getD_eq_getElem?_getD, List.getElem?_map, List.getElem?_range h]; rfl
theorem not_l0 {u : List Int} {n : Int} {bs : List Bool} (hu : Rep u n bs) : ∀ (d k : Nat) (j : Int) (ws : List Int), 0 ≤ j → j + d = bs.length → d < k → Rep ws n (curL bs j.toNat) →
    ∃ ws', bitmap_Not.l0 k n j u n ws n = some (ws', n) ∧ Rep ws' n (notL bs) := by
  have hlen := hu.len
  have hle := hu.le
  intro d
  induction d with
  | zero =>
    intro k j ws h0 h1 hk hr
    obtain ⟨k, rfl⟩ := rounds_succ' hk
    refine ⟨ws, ?_, ?_⟩
    · simp only [bitmap_Not.l0]
      rw [if_neg (by omega)]
    · have e : curL bs j.toNat = notL bs := ext_getD (by rw [curL_len, notL_len]) (fun i hi => by
        rw [curL_len] at hi
        rw [curL_getD _ _ _ hi, notL_getD _ _ hi, decide_eq_true (by omega), Bool.true_and])
      rw [← e]; exact hr
  | succ d ih =>
    intro k j ws h0 h1 hk hr
    obtain ⟨k, rfl⟩ := rounds_succ' hk
    simp only [bitmap_Not.l0]
    rw [if_pos (by omega), get_tells hu j]
    simp only [Option.bind_some, h0, decide_true, Bool.true_and]
    rw [wrap_succ j h0 (by omega)]
    by_cases c : bs.getD j.toNat false = true
    · rw [if_pos c]
      have e : curL bs j.toNat = curL bs (j + 1).toNat := ext_getD (by rw [curL_len, curL_len]) (fun i hi => by
        rw [curL_len] at hi
        rw [curL_getD _ _ _ hi, curL_getD _ _ _ hi]
        by_cases z : i = j.toNat
        · subst z; rw [c]; simp
        · congr 1
          exact decide_eq_decide.2 (by omega))
      rw [e] at hr
      exact ih k (j + 1) ws (by omega) (by omega) (by omega) hr
    · rw [if_neg c]
      obtain ⟨e1, e2⟩ := at_word h0 (by omega : j < 65536)
      have hwl := hr.wl
      rw [curL_len] at hwl
      have hw : j.toNat / 64 < ws.length := by omega
      have hx := hr.w _ (getD_mem hw)
      have hmod : j.toNat % 64 < 64 := Nat.mod_lt _ (by decide)
      have hs := shl_bit (j.toNat % 64) hmod
      rw [e1, e2, rd_nat, if_pos (by omega), if_pos (by omega), if_pos (by omega)]
      obtain ⟨q1, q2⟩ := or_u64 hx hs.1
      have hr2 := rep_set hr j ⟨h0, by omega⟩ true _ q1 (fun i => by
          rw [q2, hs.2]
          by_cases e : i = j.toNat % 64
          · subst e; simp
          · rw [if_neg e]; have : ¬ j.toNat % 64 = i := fun z => e z.symm
            simp [this])
      have e : set1 true (curL bs j.toNat) j = curL bs (j + 1).toNat := ext_getD (by rw [set1_len, curL_len, curL_len]) (fun i hi => by
        rw [set1_len, curL_len] at hi
        rw [set1_getD, curL_len, curL_getD _ _ _ hi, curL_getD _ _ _ hi]
        by_cases z : j = (i : Int)
        · rw [if_pos ⟨z, hi⟩, decide_eq_true (by omega), Bool.true_and]
          have : i = j.toNat := by omega
          subst this
          simpa using c
        · rw [if_neg (fun q => z q.1)]
          congr 1
          exact decide_eq_decide.2 (by omega))
      rw [e] at hr2
      exact ih k (j + 1) _ (by omega) (by omega) (by omega) hr2
theorem not_tells {u : List Int} {n : Int} {bs : List Bool} (hu : Rep u n bs) (k : Nat) (hk : 65536 < k) : ∃ ws, bitmap_Not.f k u n = some (ws, n) ∧ Rep ws n (notL bs) := by
  unfold bitmap_Not.f
  have hlen := hu.len
  have hle := hu.le
  obtain ⟨w0, e0, r0⟩ := new_tells n
  have hs : size0 n = bs.length := by unfold size0 mn mx; (repeat' split) <;> omega
  rw [e0]
  simp only [Option.bind_some]
  rw [hs] at r0 ⊢
  rw [hlen] at r0 ⊢
  have e : List.replicate bs.length false = curL bs 0 := ext_getD (by rw [curL_len]; simp) (fun i hi => by
    simp at hi
    rw [curL_getD _ _ _ hi, List.getD_eq_getElem?_getD, List.getElem?_replicate]
    simp [hi])
  rw [e] at r0
  exact not_l0 hu bs.length k 0 w0 (by omega) (by omega) (by omega) r0

end Go.Proofs.Ytaanlcegmkmphaa.RunsLib
