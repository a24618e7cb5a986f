/- Walks over the abstract machine: the least slot is the first in order. -/
import Derived.Test.YtknhemdpfdopaaaAfOrder2
namespace Go.Proofs.Ytknhemdpfdopaaa.AmF
open Go Go.AM
set_option maxRecDepth 100000
set_option linter.unusedSimpArgs false
set_option linter.unusedVariables false
def tf (tb : List Int) (j : Nat) : Int := tb.getD j 0
/-- What is known of the least slot of those seen. -/
def LP (tb : List Int) (seen : List Int) (p : Nat × Bool) : Prop :=
  (p = (0, false) ∧ ∀ s : Nat, (s : Int) ∈ seen → ¬ s < 64) ∨ (p.2 = true ∧ (p.1 : Int) ∈ seen ∧ p.1 < 64 ∧ ∀ s : Nat, (s : Int) ∈ seen → s < 64 → s = p.1 ∨ ltO (tf tb) p.1 s)
theorem LP_step {tb seen : List Int} {p : Nat × Bool} {s : Int} (h : LP tb seen p) : LP tb (seen ++ [s]) (lstep tb p s) := by
  unfold lstep
  have hm : ∀ x : Nat, (x : Int) ∈ seen ++ [s] ↔ (x : Int) ∈ seen ∨ (x : Int) = s := by intro x; simp
  by_cases hv : 0 ≤ s ∧ s < 64
  · rw [if_pos hv]
    obtain ⟨k, rfl⟩ := Int.eq_ofNat_of_zero_le hv.1
    have hk : ((k : Int)).toNat = k := rfl
    rw [hk]
    rcases h with ⟨rfl, h⟩ | ⟨h1, h2, h3, h4⟩
    · rw [if_pos (.inl rfl)]
      refine .inr ⟨rfl, by simp, by dsimp only; omega, fun x hx h64 => ?_⟩
      rcases (hm x).1 hx with hx | hx
      · exact absurd h64 (h x hx)
      · exact .inl (by dsimp only; omega)
    · split
      · rename_i hc
        have hlt : ltO (tf tb) k p.1 := by
          rcases hc with hc | hc | hc
          · rw [h1] at hc; cases hc
          · exact .inl hc
          · exact .inr hc
        refine .inr ⟨rfl, by simp, by dsimp only; omega, fun x hx h64 => ?_⟩
        rcases (hm x).1 hx with hx | hx
        · rcases h4 x hx h64 with e | e
          · exact .inr (e ▸ hlt)
          · exact .inr (ltO_trans hlt e)
        · exact .inl (by dsimp only; omega)
      · rename_i hc
        refine .inr ⟨h1, List.mem_append.2 (.inl h2), h3, fun x hx h64 => ?_⟩
        rcases (hm x).1 hx with hx | hx
        · exact h4 x hx h64
        · obtain rfl : x = k := by omega
          by_cases he : x = p.1
          · exact .inl he
          · refine .inr ((ltO_tot (t := tf tb) (Ne.symm he)).resolve_right fun h' => hc ?_)
            rcases h' with h' | h'
            · exact .inr (.inl h')
            · exact .inr (.inr h')
  · rw [if_neg hv]
    rcases h with ⟨rfl, h⟩ | ⟨h1, h2, h3, h4⟩
    · refine .inl ⟨rfl, fun x hx => ?_⟩
      rcases (hm x).1 hx with hx | hx
      · exact h x hx
      · omega
    · refine .inr ⟨h1, List.mem_append.2 (.inl h2), h3, fun x hx h64 => ?_⟩
      rcases (hm x).1 hx with hx | hx
      · exact h4 x hx h64
      · exfalso; omega
theorem LP_fold {tb : List Int} : ∀ (l seen : List Int) (p : Nat × Bool), LP tb seen p → LP tb (seen ++ l) (l.foldl (lstep tb) p)
  | [], seen, p, h => by simpa using h
  | s :: l, seen, p, h => by
    have := LP_fold l (seen ++ [s]) (lstep tb p s) (LP_step h)
    rw [List.append_assoc] at this
    exact this
theorem lst_spec (tb l : List Int) : LP tb l (lst tb l) := by
  have := LP_fold (tb := tb) l [] (0, false) (.inl ⟨rfl, fun s hs => absurd hs List.not_mem_nil⟩)
  rw [List.nil_append] at this
  exact this
/-- The least of any slots is the first of them in order. -/
theorem lst_head (tb l : List Int) : lst tb l = match ordL (tf tb) l 64 with
    | [] => (0, false)
    | x :: _ => (x, true) := by
  obtain ⟨hs, hm⟩ := ordL_spec (tf tb) l 64
  have h := lst_spec tb l
  generalize ordL (tf tb) l 64 = O at hs hm
  generalize lst tb l = p at h
  obtain ⟨b, f⟩ := p
  rcases h with ⟨h, h'⟩ | ⟨h1, h2, h3, h4⟩
  · match O with
    | [] => exact h
    | x :: O => 
      have := (hm x).1 List.mem_cons_self
      exact absurd this.1 (h' x this.2)
  · dsimp only at h1 h2 h3 h4
    match O with
    | [] => exact absurd ((hm b).2 ⟨h3, h2⟩) List.not_mem_nil
    | x :: O =>
      have hx := (hm x).1 List.mem_cons_self
      have hb := (hm b).2 ⟨h3, h2⟩
      have e : b = x := by
        rcases List.mem_cons.1 hb with e | hb
        · exact e
        · rcases h4 x hx.2 hx.1 with e | e
          · exact e.symm
          · exact absurd ((List.pairwise_cons.1 hs).1 b hb) (ltO_asym e)
      rw [e, h1]
theorem ins_at {t : Nat → Int} {slots : List Int} {s k : Nat} (hm : (s : Int) ∈ slots) (h1 : ∀ x ∈ (ordL t slots s).take k, t x ≤ t s) (h2 : ∀ x ∈ (ordL t slots s).drop k, t s < t x) : (ordL t slots s).take k ++ s :: (ordL t slots s).drop k = ordL t slots (s + 1) := by
  obtain ⟨hs, hO⟩ := ordL_spec t slots s
  have hsp := List.take_append_drop k (ordL t slots s)
  generalize hA : (ordL t slots s).take k = A at h1 hsp ⊢
  generalize hB : (ordL t slots s).drop k = B at h2 hsp ⊢
  rw [← hsp] at hs hO
  rw [List.pairwise_append] at hs
  refine ordL_of ?_ fun x => ?_
  · rw [List.pairwise_append, List.pairwise_cons]
    refine ⟨hs.1, ⟨fun y hy => .inl (h2 y hy), hs.2.1⟩, fun a ha y hy => ?_⟩
    rcases List.mem_cons.1 hy with e | hy
    · subst e
      have h3 := h1 a ha
      have h4 := (hO a).1 (List.mem_append.2 (.inl ha))
      unfold ltO
      omega
    · exact hs.2.2 a ha y hy
  · have := hO x
    rw [List.mem_append] at this
    rw [List.mem_append, List.mem_cons]
    constructor
    · rintro (h | h | h)
      · have := this.1 (.inl h); exact ⟨by omega, this.2⟩
      · subst h; exact ⟨by omega, hm⟩
      · have := this.1 (.inr h); exact ⟨by omega, this.2⟩
    · rintro ⟨h, h'⟩
      rcases Nat.lt_or_ge x s with hx | hx
      · rcases this.2 ⟨hx, h'⟩ with h | h
        · exact .inl h
        · exact .inr (.inr h)
      · exact .inr (.inl (by omega))
/-- What is left behind the first. -/
theorem ordL_tail {t : Nat → Int} {l : List Int} {n m : Nat} {O : List Nat} (h : ordL t l n = m :: O) : ordL t (l.filter fun x => decide (x ≠ (m : Int))) n = O := by
  obtain ⟨hs, hm⟩ := ordL_spec t l n
  rw [h] at hs hm
  rw [List.pairwise_cons] at hs
  refine (ordL_of hs.2 fun x => ?_).symm
  have := hm x
  rw [List.mem_cons] at this
  rw [List.mem_filter]
  constructor
  · intro hx
    have h1 := this.1 (.inr hx)
    refine ⟨h1.1, h1.2, decide_eq_true fun e => ?_⟩
    have e : x = m := by omega
    subst e
    exact ltO_irr (hs.1 x hx)
  · rintro ⟨h1, h2, h3⟩
    rcases this.2 ⟨h1, h2⟩ with e | h'
    · exact absurd (by rw [e]) (of_decide_eq_true h3)
    · exact h'
end Go.Proofs.Ytknhemdpfdopaaa.AmF
