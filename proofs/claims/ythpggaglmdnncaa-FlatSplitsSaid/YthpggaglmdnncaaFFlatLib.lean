/- Ranges of blocks: joined, and counted, as flat does it and as the reference does it. -/
import Derived.Test.YthpggaglmdnncaaFMyPure
import Derived.ArgAppend
import Derived.Below
import Derived.BigQuiet
import Derived.Deep.AppendLies
import Derived.Deep.CutBlock
import Derived.Deep.DeepCutAuto
import Derived.Deep.Draws
import Derived.Deep.LoopGhost
import Derived.Deep.OwnRows
import Derived.Deep.QuietTactic
import Derived.Deep.RegionHeld3
import Derived.KernelRfl
import Derived.Laws.BitsLemmas
import Derived.Laws.BytesArg
import Derived.Laws.IdiomCopy
import Derived.Laws.MakeOwn
import Derived.Laws.OwnMore
import Derived.Laws.Rows
import Derived.Laws.Slices
import Derived.Lib.AppendStr
import Derived.Lib.ConvBytes
import Derived.Maps.AppendAt
import Derived.OrdersHeld
import Derived.OwnWalk
import Derived.RowKit
import Derived.RowKit3
import Derived.Tactics
import Derived.Test.YthpggaglmdnncaaFMyWords
import Derived.Test.YthpggaglmdnncaaProg
import Derived.Test.YthpggaglmdnncaaFWApart
import Derived.Test.YthpggaglmdnncaaFWArr
import Derived.Test.YthpggaglmdnncaaFWAt
import Derived.Test.YthpggaglmdnncaaFWEqStruct
import Derived.Test.YthpggaglmdnncaaFWFoot
import Derived.Test.YthpggaglmdnncaaFWFootNe
import Derived.Test.YthpggaglmdnncaaFWFour
import Derived.Test.YthpggaglmdnncaaFWGuard
import Derived.Test.YthpggaglmdnncaaFWInv
import Derived.Test.YthpggaglmdnncaaFWInvWords
import Derived.Test.YthpggaglmdnncaaFWKept
import Derived.Test.YthpggaglmdnncaaFWLast
import Derived.Test.YthpggaglmdnncaaFWMore
import Derived.Test.YthpggaglmdnncaaFWN
import Derived.Test.YthpggaglmdnncaaFWNEv
import Derived.Test.YthpggaglmdnncaaFWQPut
import Derived.Test.YthpggaglmdnncaaFWRepsOne
import Derived.Test.YthpggaglmdnncaaFWShare
import Derived.Test.YthpggaglmdnncaaFWTab
import Derived.Test.YthpggaglmdnncaaFWWords
import Derived.Test.YthpggaglmdnncaaFWZeros
import Derived.WalkKit
import Derived.WideLaws
import Derived.Test.YthpggaglmdnncaaFM0
import Derived.Test.YthpggaglmdnncaaFMflat
import Derived.Test.YthpggaglmdnncaaFMflatp2
import Derived.Test.YthpggaglmdnncaaFMrref33
import Derived.Test.YthpggaglmdnncaaFMrref33p2
namespace Go.Proofs.Ythpggaglmdnncaa.FlatLib
open Go.RowKit Go.Proofs.Ythpggaglmdnncaa.M Go.Proofs.YthpggaglmdnncaaW.PrintWords Go.Proofs.YthpggaglmdnncaaW.PrintLast Go.Proofs.YthpggaglmdnncaaW.PrintMore Go.Proofs.YthpggaglmdnncaaW.MyPure
abbrev RG := S70
theorem rg_drop (l : List RG) (i : Int) (h0 : 0 ≤ i) (h1 : i < l.length) : l.drop i.toNat = rd_T70 l i :: l.drop (i + 1).toNat := by
  have e : (i + 1).toNat = i.toNat + 1 := by omega
  rw [e, List.drop_eq_getElem_cons (by omega)]
  congr 1
  unfold rd_T70
  rw [List.getD_eq_getElem?_getD, List.getElem?_eq_getElem (by omega)]; rfl
def lst (l : List RG) : RG := l.getD (l.length - 1) z70
theorem rd_lst {l : List RG} (h : 1 ≤ l.length) : rd_T70 l ((l.length : Int) - 1) = lst l := by
  unfold rd_T70 lst
  congr 1
  omega
def jstep (acc : List RG) (x : RG) : List RG :=
  if x.f2 < 1 then acc
  else if 1 ≤ acc.length ∧ (lst acc).f0 = x.f0 ∧ wrap64 ((lst acc).f1 + (lst acc).f2) = x.f1 then acc.set (acc.length - 1) ⟨(lst acc).f0, (lst acc).f1, wrap64 ((lst acc).f2 + x.f2)⟩
  else acc ++ [x]
theorem jstep_len (acc : List RG) (x : RG) : (jstep acc x).length ≤ acc.length + 1 := by
  unfold jstep
  split
  · omega
  · split
    · simp
    · simp
theorem join_l0 (l : List RG) (hl : l.length ≤ 1000000) : ∀ (d k : Nat) (acc : List RG) (i : Int), 0 ≤ i → i + d = l.length → d < k → acc.length + d ≤ 1000000 →
    flat_Join.l0 k acc l (l.length : Int) i = some ((l.drop i.toNat).foldl jstep acc) := by
  intro d
  induction d with
  | zero =>
    intro k acc i h0 h1 hk ha
    obtain ⟨k, rfl⟩ := rounds_succ' hk
    simp only [flat_Join.l0]
    rw [if_neg (by omega), List.drop_of_length_le (by omega)]
    rfl
  | succ d ih =>
    intro k acc i h0 h1 hk ha
    obtain ⟨k, rfl⟩ := rounds_succ' hk
    simp only [flat_Join.l0]
    rw [if_pos (by omega), if_pos h0, if_pos (by omega), rg_drop l i h0 (by omega), wrap_succ i h0 (by omega), List.foldl_cons]
    have step := fun a h => ih k a (i + 1) (by omega) (by omega) (by omega) h
    have hs := jstep_len acc (rd_T70 l i)
    rw [← step _ (by omega)]
    generalize rd_T70 l i = x at hs step ⊢
    unfold jstep
    by_cases c1 : x.f2 < 1
    · rw [if_pos c1, if_pos c1]
    · rw [if_neg c1, if_neg c1]
      by_cases c2 : 1 ≤ acc.length
      · have w1 : wrap64 ((acc.length : Int) - 1) = (acc.length : Int) - 1 := wrap64_id (by omega) (by omega)
        rw [w1, if_pos (by omega), if_pos (by omega), if_pos (by omega), rd_lst c2]
        simp only [flat_behind.f, Option.bind_some]
        have e : ((acc.length : Int) - 1).toNat = acc.length - 1 := by omega
        rw [e]
        by_cases c3 : (lst acc).f0 = x.f0 ∧ wrap64 ((lst acc).f1 + (lst acc).f2) = x.f1
        · rw [if_pos (by simp [c3.1, c3.2]), if_pos ⟨c2, c3⟩]
        · rw [if_neg (by simpa using c3), if_pos (by omega), if_neg (fun h => c3 h.2)]
      · have w1 : wrap64 ((acc.length : Int) - 1) = (acc.length : Int) - 1 := wrap64_id (by omega) (by omega)
        rw [w1, if_neg (by omega), if_pos (by omega), if_neg (fun h => c2 h.1)]
theorem join_tells (l : List RG) (hl : l.length ≤ 1000000) (k : Nat) (hk : l.length < k) : flat_Join.f k l = some (l.foldl jstep []) := by
  unfold flat_Join.f
  rw [join_l0 l hl l.length k [] 0 (by omega) (by omega) hk (by simpa using hl)]
  rfl
theorem ref_join_l0 (l : List RG) (hl : l.length ≤ 1000000) : ∀ (d k : Nat) (acc : List RG) (i : Int), 0 ≤ i → i + d = l.length → d < k → acc.length + d ≤ 1000000 →
    revetmentref33_Join.l0 k l acc i = some ((l.drop i.toNat).foldl jstep acc) := by
  intro d
  induction d with
  | zero =>
    intro k acc i h0 h1 hk ha
    obtain ⟨k, rfl⟩ := rounds_succ' hk
    simp only [revetmentref33_Join.l0]
    rw [if_neg (by omega), List.drop_of_length_le (by omega)]
    rfl
  | succ d ih =>
    intro k acc i h0 h1 hk ha
    obtain ⟨k, rfl⟩ := rounds_succ' hk
    simp only [revetmentref33_Join.l0]
    rw [if_pos (by omega), if_pos h0, rg_drop l i h0 (by omega), wrap_succ i h0 (by omega), List.foldl_cons]
    have step := fun a h => ih k a (i + 1) (by omega) (by omega) (by omega) h
    have hs := jstep_len acc (rd_T70 l i)
    rw [← step _ (by omega)]
    generalize rd_T70 l i = x at hs step ⊢
    unfold jstep
    by_cases c1 : x.f2 < 1
    · rw [if_pos c1, if_pos c1]
    · rw [if_neg c1, if_neg c1]
      by_cases c2 : 1 ≤ acc.length
      · have w1 : wrap64 ((acc.length : Int) - 1) = (acc.length : Int) - 1 := wrap64_id (by omega) (by omega)
        rw [w1, if_pos (by omega), if_pos (by omega), if_pos (by omega), rd_lst c2]
        have e : ((acc.length : Int) - 1).toNat = acc.length - 1 := by omega
        rw [e]
        by_cases c3 : (lst acc).f0 = x.f0
        · by_cases c4 : wrap64 ((lst acc).f1 + (lst acc).f2) = x.f1
          · rw [if_pos c3, if_pos c4, if_pos ⟨c2, c3, c4⟩]
          · rw [if_pos c3, if_neg c4, if_pos (by omega), if_neg (fun h => c4 h.2.2)]
        · rw [if_neg c3, if_pos (by omega), if_neg (fun h => c3 h.2.1)]
      · have w1 : wrap64 ((acc.length : Int) - 1) = (acc.length : Int) - 1 := wrap64_id (by omega) (by omega)
        rw [w1, if_neg (by omega), if_pos (by omega), if_neg (fun h => c2 h.1)]
theorem ref_join_tells (l : List RG) (hl : l.length ≤ 1000000) (k : Nat) (hk : l.length < k) : revetmentref33_Join.f k l = some (l.foldl jstep []) := by
  unfold revetmentref33_Join.f
  rw [ref_join_l0 l hl l.length k [] 0 (by omega) (by omega) hk (by simpa using hl)]
  rfl
theorem foldl_len (l : List RG) : ∀ acc : List RG, (l.foldl jstep acc).length ≤ acc.length + l.length := by
  induction l with
  | nil => intro acc; simp
  | cons x l ih =>
    intro acc
    have h1 := ih (jstep acc x)
    have h2 := jstep_len acc x
    simp only [List.foldl_cons, List.length_cons]
    omega
theorem same_l0 (l : List RG) (hl : l.length ≤ 1000000) : ∀ (d k : Nat) (i : Int), 0 ≤ i → i + d = l.length → d < k → revetmentref33_Same.l0 k l l i = some true := by
  intro d
  induction d with
  | zero =>
    intro k i h0 h1 hk
    obtain ⟨k, rfl⟩ := rounds_succ' hk
    simp only [revetmentref33_Same.l0]
    rw [if_neg (by omega)]
  | succ d ih =>
    intro k i h0 h1 hk
    obtain ⟨k, rfl⟩ := rounds_succ' hk
    simp only [revetmentref33_Same.l0]
    rw [if_pos (by omega), if_pos h0, if_pos (by omega), if_neg (by simp), wrap_succ i h0 (by omega)]
    exact ih k (i + 1) (by omega) (by omega) (by omega)
theorem same_tells (l : List RG) (hl : l.length ≤ 1000000) (k : Nat) (hk : l.length < k) : revetmentref33_Same.f k l l = some true := by
  unfold revetmentref33_Same.f
  rw [if_pos rfl]
  exact same_l0 l hl l.length k 0 (by omega) (by omega) hk
def cnt (x : RG) : Int := mn (mx x.f2 0) 1099511627776
theorem cnt_bd (x : RG) : 0 ≤ cnt x ∧ cnt x ≤ 1099511627776 := by unfold cnt mn mx; omega
def cnts (l : List RG) : Int := (l.map cnt).sum
theorem cnts_bd (l : List RG) : 0 ≤ cnts l ∧ cnts l ≤ 1099511627776 * l.length := by
  unfold cnts
  induction l with
  | nil => simp
  | cons x l ih =>
    have := cnt_bd x
    simp only [List.map_cons, List.sum_cons, List.length_cons]
    omega
theorem blocks_l0 (l : List RG) (hl : l.length ≤ 1000000) : ∀ (d k : Nat) (n i : Int), 0 ≤ i → i + d = l.length → d < k → 0 ≤ n → n ≤ 1099511627776 * i →
    flat_Blocks.l0 k n l (l.length : Int) i = some (n + cnts (l.drop i.toNat)) := by
  intro d
  induction d with
  | zero =>
    intro k n i h0 h1 hk hn hn2
    obtain ⟨k, rfl⟩ := rounds_succ' hk
    simp only [flat_Blocks.l0]
    rw [if_neg (by omega), List.drop_of_length_le (by omega)]
    simp [cnts]
  | succ d ih =>
    intro k n i h0 h1 hk hn hn2
    obtain ⟨k, rfl⟩ := rounds_succ' hk
    simp only [flat_Blocks.l0]
    rw [if_pos (by omega), if_pos h0, if_pos (by omega), rg_drop l i h0 (by omega), wrap_succ i h0 (by omega)]
    generalize rd_T70 l i = x
    have hx := cnt_bd x
    have e : mn (mx x.f2 0) 1099511627776 = cnt x := rfl
    rw [e, wrap64_id (by omega) (by omega), ih k (n + cnt x) (i + 1) (by omega) (by omega) (by omega) (by omega) (by omega)]
    simp only [cnts, List.map_cons, List.sum_cons]
    congr 1
    omega
theorem blocks_tells (l : List RG) (hl : l.length ≤ 1000000) (k : Nat) (hk : l.length < k) : flat_Blocks.f k l = some (cnts l) := by
  unfold flat_Blocks.f
  rw [blocks_l0 l hl l.length k 0 0 (by omega) (by omega) hk (by omega) (by omega)]
  simp
end Go.Proofs.Ythpggaglmdnncaa.FlatLib
