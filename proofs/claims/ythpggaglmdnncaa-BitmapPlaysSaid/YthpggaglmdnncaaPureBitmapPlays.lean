/- What any calls leave in a map, how many places, which is the first: as a list of truths has it. No condition. -/
import Derived.Test.YthpggaglmdnncaaAskBitmapPlays
import Derived.Test.YthpggaglmdnncaaPopLib
namespace Go.Proofs.Ythpggaglmdnncaa.Pure
open Go.RowKit Go.Proofs.Ythpggaglmdnncaa.M Go.Proofs.Ythpggaglmdnncaa.BmLib Go.Proofs.Ythpggaglmdnncaa.PopLib Go.Proofs.Ythpggaglmdnncaa.AskBitmapPlays Go.Proofs.YthpggaglmdnncaaW.PrintWords Go.Proofs.YthpggaglmdnncaaW.PrintLast Go.Proofs.YthpggaglmdnncaaW.PrintMore Go.Proofs.YthpggaglmdnncaaW.MyPure
theorem ref_first_l0 (bs : List Bool) (hb : bs.length ≤ 65536) (is : Bool) (r : Int) (hr0 : 0 ≤ r) (hr1 : r ≤ bs.length) (lo : ∀ i : Nat, (i : Int) < r → bs.getD i false ≠ is) (hi : r < bs.length → bs.getD r.toNat false = is) :
    ∀ (d k : Nat) (j : Int), 0 ≤ j → j ≤ r → j + d = bs.length → d < k → revetmentref19_First.l0 k bs is j = some r := by
  intro d
  induction d with
  | zero =>
    intro k j h0 h1 h2 hk
    obtain ⟨k, rfl⟩ := rounds_succ' hk
    simp only [revetmentref19_First.l0]
    rw [if_neg (by omega)]
    congr 1
    omega
  | succ d ih =>
    intro k j h0 h1 h2 hk
    obtain ⟨k, rfl⟩ := rounds_succ' hk
    simp only [revetmentref19_First.l0]
    have r1 : rdOf false bs j = bs.getD j.toNat false := rfl
    rw [if_pos (by omega), if_pos h0, wrap_succ j h0 (by omega), r1]
    by_cases c : j = r
    · subst c
      rw [hi (by omega), if_pos (by simp)]
    · have := lo j.toNat (by omega)
      rw [if_neg (by simpa using this)]
      exact ih k (j + 1) (by omega) (by omega) (by omega) (by omega)
theorem firsts {ws : List Int} {n : Int} {bs : List Bool} (h : Rep ws n bs) (is : Bool) (k : Nat) (hk : bs.length < k) : ∃ r, bitmap_First.f k ws n is = some r ∧ revetmentref19_First.f k bs is = some r := by
  obtain ⟨r, e, h0, h1, h2, h3⟩ := first_tells h is k hk
  have hl := h.len
  refine ⟨r, e, ?_⟩
  unfold revetmentref19_First.f
  exact ref_first_l0 bs h.le is r h0 (by omega) h2 (fun z => h3 (by omega)) bs.length k 0 (by omega) h0 (by omega) hk
theorem plays_j2 (k : Nat) (hk : 70000 < k) (a : Int) {ws : List Int} {n : Int} {bs : List Bool} (h : Rep ws n bs) :
    revetmentlaw19_BitmapPlays.j2 (k + 1) a bs (many bs bs.length : Nat) (decide (0 ≤ a) && bs.getD a.toNat false) ws n = some true := by
  have hl := h.len
  have hle := h.le
  simp only [revetmentlaw19_BitmapPlays.j2]
  have e0 : bitmap_Len.f ws n = some n := rfl
  rw [e0]
  simp only [Option.bind_some]
  rw [if_pos hl.symm, text_tells h k (by omega), ref_text _ hle k (by omega)]
  simp only [Option.bind_some]
  rw [if_pos trivial, count_tells h k (by omega)]
  simp only [Option.bind_some]
  rw [if_pos trivial, get_tells h]
  simp only [Option.bind_some]
  obtain ⟨r1, f1, g1⟩ := firsts h true k (by omega)
  obtain ⟨r2, f2, g2⟩ := firsts h false k (by omega)
  rw [if_pos (by simp), f1, g1]
  simp only [Option.bind_some]
  rw [if_pos trivial, f2, g2]
  simp only [Option.bind_some]
  rw [if_pos trivial, live k (by omega)]
  rfl
theorem plays_l1 (a : Int) {ws : List Int} {n : Int} {bs : List Bool} (h : Rep ws n bs) : ∀ (d k : Nat) (j : Int), 0 ≤ j → j + d = bs.length → d + 70010 < k →
    revetmentlaw19_BitmapPlays.l1 k a bs (many bs j.toNat : Nat) j ws n = some true := by
  have hl := h.len
  have hle := h.le
  intro d
  induction d with
  | zero =>
    intro k j h0 h1 hk
    obtain ⟨k, rfl⟩ := rounds_succ' hk
    obtain ⟨k, rfl⟩ : ∃ m, k = m + 1 := ⟨k - 1, by omega⟩
    simp only [revetmentlaw19_BitmapPlays.l1]
    have hj : j.toNat = bs.length := by omega
    have hk7 : 70000 < k := by omega
    have q := plays_j2 k hk7 a h
    have r1 : rdOf false bs a = bs.getD a.toNat false := rfl
    rw [if_neg (by omega), hj, r1]
    by_cases c1 : a ≥ 0
    · rw [if_pos c1]
      by_cases c2 : a < (bs.length : Int)
      · rw [if_pos c2, if_pos c1]
        rw [decide_eq_true c1, Bool.true_and] at q
        exact q
      · have z : bs.getD a.toNat false = false := by rw [List.getD_eq_getElem?_getD, List.getElem?_eq_none (by omega)]; rfl
        rw [if_neg c2]
        rw [z, Bool.and_false] at q
        exact q
    · rw [if_neg c1]
      have z : decide (0 ≤ a) = false := decide_eq_false c1
      rw [z, Bool.false_and] at q
      exact q
  | succ d ih =>
    intro k j h0 h1 hk
    obtain ⟨k, rfl⟩ := rounds_succ' hk
    simp only [revetmentlaw19_BitmapPlays.l1]
    have r1 : rdOf false bs j = bs.getD j.toNat false := rfl
    rw [if_pos (by omega), if_pos h0, wrap_succ j h0 (by omega), r1]
    have e : many bs (j + 1).toNat = many bs j.toNat + (bs.getD j.toNat false).toNat := by
      rw [show (j + 1).toNat = j.toNat + 1 from by omega]; rfl
    have b : many bs j.toNat ≤ j.toNat := cnt_le _ _
    have q := ih k (j + 1) (by omega) (by omega) (by omega)
    rw [e] at q
    by_cases c : bs.getD j.toNat false = true
    · rw [if_pos c, wrap_succ ((many bs j.toNat : Nat) : Int) (by omega) (by omega)]
      rw [c] at q
      exact q
    · have c' : bs.getD j.toNat false = false := by simpa using c
      rw [if_neg c]
      rw [c'] at q
      exact q
theorem plays_l0 (a : Int) (l : List (S102)) (i : Int) (hl : l.length ≤ 20) (K : Nat) (hK : 200000 < K) (hk2 : ∀ x ∈ l, ActOk x ∧ x.f2.length < K) :
    ∀ (d k : Nat) (j : Int), 0 ≤ j → j + d = l.length → d + K + 200000 < k → revetmentlaw19_BitmapPlays.l0 k a l i j = some true := by
  intro d
  induction d with
  | zero =>
    intro k j h0 h1 hk
    obtain ⟨k, rfl⟩ := rounds_succ' hk
    simp only [revetmentlaw19_BitmapPlays.l0]
    obtain ⟨ws, e, r⟩ := play_tells a l (by omega) K hK hk2 k (by omega)
    rw [if_neg (by omega), e]
    simp only [Option.bind_some]
    have hle := r.le
    exact plays_l1 i r _ k 0 (by omega) (Int.zero_add _) (by omega)
  | succ d ih =>
    intro k j h0 h1 hk
    obtain ⟨k, rfl⟩ := rounds_succ' hk
    simp only [revetmentlaw19_BitmapPlays.l0]
    rw [if_pos (by omega), if_pos h0]
    by_cases c : ((rd_T102 l j).f2.length : Int) > 50
    · rw [if_pos c, live k (by omega)]; rfl
    · rw [if_neg c, wrap_succ j h0 (by omega)]
      exact ih k (j + 1) (by omega) (by omega) (by omega)
theorem BitmapPlays : AskBitmapPlays.Pure := by
  intro n l i _ hl _
  obtain ⟨_, hl1, hl2⟩ := hl
  obtain ⟨K, hK1, hK2⟩ := rounds_for l
  refine ⟨l.length + K + 300000, ?_⟩
  unfold revetmentlaw19_BitmapPlays.f
  by_cases c1 : n > 300
  · obtain ⟨ws, e, r⟩ := new_tells n
    have hb := r.len
    rw [if_pos c1, e, ref_new]
    have e0 : bitmap_Len.f ws (size0 n : Int) = some (size0 n : Int) := rfl
    simp only [Option.bind_some]
    rw [e0]
    simp only [Option.bind_some]
    rw [if_pos (by simp), live _ (by omega)]
    rfl
  rw [if_neg c1]
  by_cases c3 : (l.length : Int) > 20
  · rw [if_pos c3, live _ (by omega)]; rfl
  rw [if_neg c3]
  exact plays_l0 n l i (by omega) K hK1 (fun x hx => ⟨by have := (hl2 x hx).2.2.1.2.1; unfold ActOk; omega, hK2 x hx⟩) l.length _ 0 (by omega) (by omega) (by omega)
end Go.Proofs.Ythpggaglmdnncaa.Pure
