/- The parity of any blocks, and of any two, is the reference's. No condition. -/
import Derived.Test.YtimpefahapkmhaaAskXorOfs
import Derived.Test.YtimpefahapkmhaaXorLib
namespace Go.Proofs.Ytimpefahapkmhaa.Pure
open Go.RowKit Go.Proofs.Ytimpefahapkmhaa.M Go.Proofs.Ytimpefahapkmhaa.XorLib Go.Proofs.Ytimpefahapkmhaa.AskXorOfs Go.Proofs.YtimpefahapkmhaaW.PrintWords Go.Proofs.YtimpefahapkmhaaW.PrintLast Go.Proofs.YtimpefahapkmhaaW.PrintMore Go.Proofs.YtimpefahapkmhaaW.MyPure
theorem live03_20 : revetmentlaw03_live.f 20 = some true := by decide +kernel
theorem live03 (k : Nat) (hk : 20 ≤ k) : revetmentlaw03_live.f k = some true := at_rounds (fun k => revetmentlaw03_live.mono k) hk live03_20
/-- What much says: too much, or not more than 2000 bytes in not more than 20 blocks. -/
theorem much_l0 (l : List (List Int)) (hb : ∀ r ∈ l, r.length ≤ 140737488351232) : ∀ (d k : Nat) (n i : Int), 0 ≤ i → i + d = 30 → 2 * d + 4 < k → 0 ≤ n → n ≤ 2000 → i ≤ l.length →
    ∃ b, revetmentlaw03_much.l0 k l n i = some b ∧ (b = false → l.length ≤ 20 ∧ ∀ r ∈ l.drop i.toNat, r.length ≤ 2000) := by
  intro d
  induction d with
  | zero =>
    intro k n i h0 h1 hk hn hn2 hi
    obtain ⟨k, rfl⟩ : ∃ m, k = m + 2 := ⟨k - 2, by omega⟩
    refine ⟨decide ((l.length : Int) > 20), ?_, fun h => ?_⟩
    · simp only [revetmentlaw03_much.l0, revetmentlaw03_much.j1]
      by_cases c : i < (l.length : Int)
      · rw [if_pos c, if_neg (by simp; omega)]
      · rw [if_neg c, if_neg (by simp)]
    · have := of_decide_eq_false h
      omega
  | succ d ih =>
    intro k n i h0 h1 hk hn hn2 hi
    obtain ⟨k, rfl⟩ : ∃ m, k = m + 2 := ⟨k - 2, by omega⟩
    by_cases c : i < (l.length : Int)
    · have hr := hb _ (rrow_mem i h0 c)
      by_cases c2 : n + ((rd_L1 l i).length : Int) > 2000
      · refine ⟨true, ?_, fun h => by cases h⟩
        simp only [revetmentlaw03_much.l0, revetmentlaw03_much.j1]
        rw [if_pos c, if_pos (by simp; omega), if_pos h0, if_pos c, wrap64_id (by omega) (by omega), if_pos c2]
      · obtain ⟨b, hb1, hb2⟩ := ih k (n + ((rd_L1 l i).length : Int)) (i + 1) (by omega) (by omega) (by omega) (by omega) (by omega) (by omega)
        refine ⟨b, ?_, fun h => ?_⟩
        · simp only [revetmentlaw03_much.l0, revetmentlaw03_much.j1]
          rw [if_pos c, if_pos (by simp; omega), if_pos h0, if_pos c, wrap64_id (by omega) (by omega), if_neg c2, wrap_succ i h0 (by omega)]
          exact hb1
        · obtain ⟨h3, h4⟩ := hb2 h
          refine ⟨h3, fun r hr => ?_⟩
          rw [rrow l i h0 c] at hr
          rcases List.mem_cons.1 hr with rfl | hr
          · omega
          · exact h4 r hr
    · refine ⟨decide ((l.length : Int) > 20), ?_, fun h => ?_⟩
      · simp only [revetmentlaw03_much.l0, revetmentlaw03_much.j1]
        rw [if_neg c, if_neg (by simp)]
      · have := of_decide_eq_false h
        refine ⟨by omega, fun r hr => ?_⟩
        rw [List.drop_of_length_le (by omega)] at hr
        cases hr
theorem much_tells (l : List (List Int)) (hb : ∀ r ∈ l, r.length ≤ 140737488351232) (k : Nat) (hk : 70 < k) : ∃ b, revetmentlaw03_much.f k l = some b ∧ (b = false → l.length ≤ 20 ∧ ∀ r ∈ l, r.length ≤ 2000) := by
  obtain ⟨b, h1, h2⟩ := much_l0 l hb 30 k 0 0 (by omega) (by omega) (by omega) (by omega) (by omega) (by omega)
  exact ⟨b, h1, by simpa using h2⟩
theorem XorOfs : AskXorOfs.Pure := by
  intro l a b hl ha hb
  have hrl : ∀ r ∈ l, r.length ≤ 140737488351232 := fun r hr => by have := (hl.2.2 r hr).2.1; omega
  have hrb : ∀ r ∈ l, Bytes r := fun r hr => bytes_of (hl.2.2 r hr).2.2
  have hab := bytes_of ha.2.2
  have hbb := bytes_of hb.2.2
  clear hl ha hb
  refine ⟨5000, ?_⟩
  unfold revetmentlaw03_XorOfs.f
  obtain ⟨m, hm, hm2⟩ := much_tells l hrl 5000 (by omega)
  rw [hm]
  simp only [Option.bind_some]
  have jt : revetmentlaw03_XorOfs.j0 5000 l a b true = some true := by
    simp only [revetmentlaw03_XorOfs.j0]
    rw [if_pos trivial, live03 _ (by omega)]; rfl
  cases m with
  | true => rw [if_pos rfl]; exact jt
  | false =>
    rw [if_neg (fun h => Bool.noConfusion h)]
    obtain ⟨h20, h2000⟩ := hm2 rfl
    by_cases c1 : (a.length : Int) > 500
    · rw [if_pos c1]; exact jt
    rw [if_neg c1]
    by_cases c2 : (b.length : Int) > 500
    · rw [decide_eq_true c2]; exact jt
    rw [decide_eq_false c2]
    have hR : RowsB 2000 l := fun r hr => ⟨hrb r hr, h2000 r hr⟩
    simp only [revetmentlaw03_XorOfs.j0]
    rw [if_neg (fun h => Bool.noConfusion h), of_tells 2000 (by omega) l hR (by omega) _ (by omega), ref_of_tells 2000 (by omega) l hR (by omega) _ (by omega), into_tells a b hab hbb (by omega) (by omega) _ (by omega) (by omega), ref_into_tells a b (by omega) (by omega) _ (by omega) (by omega), into_tells a a hab hab (by omega) (by omega) _ (by omega) (by omega), live03 _ (by omega)]
    simp only [Option.bind_some, xor_Zero.f, self_zero a hab, if_true, Bool.not_false]
end Go.Proofs.Ytimpefahapkmhaa.Pure
