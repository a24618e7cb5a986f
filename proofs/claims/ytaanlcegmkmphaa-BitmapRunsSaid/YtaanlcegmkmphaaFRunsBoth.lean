/- The rows of places that any map has: as the reference says. -/
import Derived.Test.YtaanlcegmkmphaaFAskBitmapRuns
import Derived.Test.YtaanlcegmkmphaaFRunsLib
namespace Go.Proofs.Ytaanlcegmkmphaa.Pure
open Go.RowKit Go.Proofs.Ytaanlcegmkmphaa.M Go.Proofs.Ytaanlcegmkmphaa.BmLib Go.Proofs.Ytaanlcegmkmphaa.RunsLib Go.Proofs.Ytaanlcegmkmphaa.AskBitmapRuns Go.Proofs.YtaanlcegmkmphaaW.PrintWords Go.Proofs.YtaanlcegmkmphaaW.PrintLast Go.Proofs.YtaanlcegmkmphaaW.PrintMore Go.Proofs.YtaanlcegmkmphaaW.MyPure
theorem set_last (A : List S67) (x y : S67) : (A ++ [x]).set (((A ++ [x]).length : Int) - 1).toNat y = A ++ [y] := by
  have e : (((A ++ [x]).length : Int) - 1).toNat = A.length := by rw [List.length_append]; simp
  rw [e]; simp
theorem rd_last (A : List S67) (x : S67) : rd_T67 (A ++ [x]) (((A ++ [x]).length : Int) - 1) = x := by
  have e : (((A ++ [x]).length : Int) - 1).toNat = A.length := by rw [List.length_append]; simp
  unfold rd_T67
  rw [e]; simp
theorem ref_old (bs : List Bool) (k : Nat) (A : List S67) (p q j : Int) (h0 : 0 ≤ j) (h1 : j < bs.length) (hb : bs.length ≤ 65536) (hA : A.length ≤ 70000) (hi : bs.getD j.toNat false = true) :
    revetmentref19_Runs.j1 (k + 1) bs (A ++ [⟨p, q⟩]) j false = revetmentref19_Runs.l0 k bs (A ++ [⟨p, j + 1⟩]) (j + 1) := by
  have r1 : rdOf false bs j = bs.getD j.toNat false := rfl
  have hl : (A ++ [(⟨p, q⟩ : S67)]).length = A.length + 1 := by simp
  have w1 : wrap64 (((A ++ [(⟨p, q⟩ : S67)]).length : Int) - 1) = ((A ++ [(⟨p, q⟩ : S67)]).length : Int) - 1 := wrap64_id (by omega) (by omega)
  rw [revetmentref19_Runs.j1, if_neg (by decide), if_pos h0, if_pos h1, r1, if_pos hi, w1, if_pos (by omega), if_pos (by omega), rd_last, set_last, wrap_succ j h0 (by omega)]
theorem ref_new1 (bs : List Bool) (k : Nat) (A : List S67) (j : Int) (h0 : 0 ≤ j) (h1 : j < bs.length) (hb : bs.length ≤ 65536) (hA : A.length ≤ 70000) (hi : bs.getD j.toNat false = true) :
    revetmentref19_Runs.j1 (k + 1) bs A j true = revetmentref19_Runs.l0 k bs (A ++ [⟨j, j + 1⟩]) (j + 1) := by
  have r1 : rdOf false bs j = bs.getD j.toNat false := rfl
  have hl : (A ++ [(⟨j, j⟩ : S67)]).length = A.length + 1 := by simp
  have w1 : wrap64 (((A ++ [(⟨j, j⟩ : S67)]).length : Int) - 1) = ((A ++ [(⟨j, j⟩ : S67)]).length : Int) - 1 := wrap64_id (by omega) (by omega)
  rw [revetmentref19_Runs.j1, if_pos rfl, if_pos (by omega)]
  simp only [Option.bind_some]
  rw [if_pos h0, if_pos h1, r1, if_pos hi, w1, if_pos (by omega), if_pos (by omega), rd_last, set_last, wrap_succ j h0 (by omega)]
theorem ref_none (bs : List Bool) (k : Nat) (A : List S67) (j : Int) (h0 : 0 ≤ j) (h1 : j < bs.length) (hb : bs.length ≤ 65536) (hi : bs.getD j.toNat false = false) :
    revetmentref19_Runs.j1 (k + 1) bs A j false = revetmentref19_Runs.l0 k bs A (j + 1) := by
  have r1 : rdOf false bs j = bs.getD j.toNat false := rfl
  rw [revetmentref19_Runs.j1, if_neg (by decide), if_pos h0, if_pos h1, r1, if_neg (by rw [hi]; decide), wrap_succ j h0 (by omega)]
theorem runs_both {ws : List Int} {n : Int} {bs : List Bool} (h : Rep ws n bs) : ∀ (d k k' : Nat) (j s : Int) (A : List S67), 0 ≤ j → j + d = bs.length → 2 * d + 4 < k → 2 * d + 4 < k' → A.length ≤ j →
    (s = -1 ∧ (0 < j → bs.getD (j - 1).toNat false = false) ∨ (0 ≤ s ∧ s < j ∧ bs.getD (j - 1).toNat false = true)) →
    ∃ L, bitmap_Runs.l0 k A s (n + 1) j ws n = some L ∧ revetmentref19_Runs.l0 k' bs (if s < 0 then A else A ++ [⟨s, j⟩]) j = some L ∧ L.length ≤ 65537 := by
  have hlen := h.len
  have hle := h.le
  intro d
  induction d with
  | zero =>
    intro k k' j s A h0 h1 hk hk' hA hs
    obtain ⟨k, rfl⟩ : ∃ q, k = q + 3 := ⟨k - 3, by omega⟩
    obtain ⟨k', rfl⟩ := rounds_succ' hk'
    have z : bs.getD j.toNat false = false := by rw [List.getD_eq_getElem?_getD, List.getElem?_eq_none (by omega)]; rfl
    rw [revetmentref19_Runs.l0, if_neg (by omega), bitmap_Runs.l0, if_pos (by omega), get_tells h j, z]
    simp only [Option.bind_some, Bool.and_false]
    rw [if_neg (by decide), bitmap_Runs.j1, if_neg (by decide), if_neg (by decide), wrap_succ j h0 (by omega)]
    by_cases c : s ≥ 0
    · rw [if_pos c, if_pos (by omega), if_neg (by omega), bitmap_Runs.l0, if_neg (by omega)]
      exact ⟨_, rfl, rfl, by simp; omega⟩
    · rw [if_neg c, if_pos (by omega), bitmap_Runs.l0, if_neg (by omega)]
      exact ⟨_, rfl, rfl, by omega⟩
  | succ d ih =>
    intro k k' j s A h0 h1 hk hk' hA hs
    obtain ⟨k, rfl⟩ : ∃ q, k = q + 2 := ⟨k - 2, by omega⟩
    obtain ⟨k', rfl⟩ : ∃ q, k' = q + 2 := ⟨k' - 2, by omega⟩
    have r1 : rdOf false bs j = bs.getD j.toNat false := rfl
    have r2 : rdOf false bs (j - 1) = bs.getD (j - 1).toNat false := rfl
    have ej : (j + 1 - 1).toNat = j.toNat := by omega
    have next := ih k k' (j + 1)
    rw [ej] at next
    rw [revetmentref19_Runs.l0, if_pos (by omega), if_pos h0, r1, bitmap_Runs.l0, if_pos (by omega), get_tells h j]
    simp only [Option.bind_some, h0, decide_true, Bool.true_and]
    by_cases c : bs.getD j.toNat false = true
    · rw [if_pos c, if_pos c, c, bitmap_Runs.j1, wrap_succ j h0 (by omega)]
      rcases hs with ⟨rfl, hp⟩ | ⟨s0, s1, hp⟩
      · have eR : (if (-1 : Int) < 0 then A else A ++ [(⟨-1, j⟩ : S67)]) = A := if_pos (by omega)
        rw [decide_eq_true (by omega), if_pos rfl, eR]
        obtain ⟨L, l1, l2, l3⟩ := next j A (by omega) (by omega) (by omega) (by omega) (by omega) (.inr ⟨h0, by omega, c⟩)
        rw [if_neg (by omega)] at l2
        refine ⟨L, l1, ?_, l3⟩
        have hn : revetmentref19_Runs.j1 (k' + 1) bs A j true = some L := by rw [ref_new1 bs k' A j h0 (by omega) hle (by omega) c]; exact l2
        by_cases j0 : j = 0
        · rw [if_pos j0]; exact hn
        · rw [if_neg j0, wrap64_id (by omega) (by omega), if_pos (by omega), if_pos (by omega), r2, hp (by omega)]; exact hn
      · have eR : (if s < 0 then A else A ++ [(⟨s, j⟩ : S67)]) = A ++ [⟨s, j⟩] := if_neg (by omega)
        rw [decide_eq_false (by omega), if_neg (by decide), if_pos rfl, eR, if_neg (by omega), wrap64_id (by omega) (by omega), if_pos (by omega), if_pos (by omega), r2, hp]
        obtain ⟨L, l1, l2, l3⟩ := next s A (by omega) (by omega) (by omega) (by omega) (by omega) (.inr ⟨s0, by omega, c⟩)
        rw [if_neg (by omega)] at l2
        refine ⟨L, l1, ?_, l3⟩
        show revetmentref19_Runs.j1 (k' + 1) bs (A ++ [⟨s, j⟩]) j false = some L
        rw [ref_old bs k' A s j j h0 (by omega) hle (by omega) c]
        exact l2
    · have c' : bs.getD j.toNat false = false := by simpa using c
      rw [if_neg c, if_neg c, c', bitmap_Runs.j1, if_neg (by decide), if_neg (by decide), wrap_succ j h0 (by omega), ref_none bs k' _ j h0 (by omega) hle c']
      rcases hs with ⟨rfl, hp⟩ | ⟨s0, s1, hp⟩
      · rw [if_neg (by omega), if_pos (by omega)]
        obtain ⟨L, l1, l2, l3⟩ := next (-1) A (by omega) (by omega) (by omega) (by omega) (by omega) (.inl ⟨rfl, fun _ => c'⟩)
        rw [if_pos (by omega)] at l2
        exact ⟨L, l1, l2, l3⟩
      · rw [if_pos (by omega), if_pos (by omega), if_neg (by omega)]
        obtain ⟨L, l1, l2, l3⟩ := next (-1) (A ++ [⟨s, j⟩]) (by omega) (by omega) (by omega) (by omega) (by simp; omega) (.inl ⟨rfl, fun _ => c'⟩)
        rw [if_pos (by omega)] at l2
        exact ⟨L, l1, l2, l3⟩
theorem runs_tells {ws : List Int} {n : Int} {bs : List Bool} (h : Rep ws n bs) (k : Nat) (hk : 140000 < k) : ∃ L, bitmap_Runs.f k ws n = some L ∧ revetmentref19_Runs.f k bs = some L ∧ L.length ≤ 65537 := by
  have hlen := h.len
  have hle := h.le
  obtain ⟨L, l1, l2, l3⟩ := runs_both h bs.length k k 0 (-1) [] (by omega) (by omega) (by omega) (by omega) (by simp) (.inl ⟨rfl, fun q => by omega⟩)
  rw [if_pos (by omega)] at l2
  refine ⟨L, ?_, l2, l3⟩
  unfold bitmap_Runs.f
  rw [wrap64_id (by omega) (by omega)]
  exact l1
end Go.Proofs.Ytaanlcegmkmphaa.Pure
