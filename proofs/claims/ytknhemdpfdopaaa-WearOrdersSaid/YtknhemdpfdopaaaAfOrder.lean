/- Walks over the abstract machine: slots in order. -/
import Derived.Test.YtknhemdpfdopaaaAmFacts
import Derived.Test.YtknhemdpfdopaaaAmNum
namespace Go.Proofs.Ytknhemdpfdopaaa.AmF
open Go Go.AM
set_option maxRecDepth 100000
set_option linter.unusedSimpArgs false
set_option linter.unusedVariables false
/-- The order in which slots are chosen. -/
def ltO (t : Nat → Int) (a b : Nat) : Prop := t a < t b ∨ (t a = t b ∧ a < b)
instance (t : Nat → Int) (a b : Nat) : Decidable (ltO t a b) := by unfold ltO; infer_instance
theorem ltO_irr {t : Nat → Int} {a : Nat} : ¬ ltO t a a := by unfold ltO; omega
theorem ltO_asym {t : Nat → Int} {a b : Nat} (h : ltO t a b) : ¬ ltO t b a := by unfold ltO at h ⊢; omega
theorem ltO_trans {t : Nat → Int} {a b c : Nat} (h : ltO t a b) (h' : ltO t b c) : ltO t a c := by unfold ltO at h h' ⊢; omega
theorem ltO_tot {t : Nat → Int} {a b : Nat} (h : a ≠ b) : ltO t a b ∨ ltO t b a := by unfold ltO; omega
/-- Two rows in order with the same members are the same. -/
theorem sorted_ext {t : Nat → Int} : ∀ {a b : List Nat}, a.Pairwise (ltO t) → b.Pairwise (ltO t) → (∀ x, x ∈ a ↔ x ∈ b) → a = b
  | [], [], _, _, _ => rfl
  | [], y :: b, _, _, h => absurd ((h y).2 List.mem_cons_self) List.not_mem_nil
  | x :: a, [], _, _, h => absurd ((h x).1 List.mem_cons_self) List.not_mem_nil
  | x :: a, y :: b, ha, hb, h => by
    rw [List.pairwise_cons] at ha hb
    have hxy : x = y := by
      have h1 := (h x).1 List.mem_cons_self
      have h2 := (h y).2 List.mem_cons_self
      rcases List.mem_cons.1 h1 with e | h1
      · exact e
      · rcases List.mem_cons.1 h2 with e | h2
        · exact e.symm
        · exact absurd (ha.1 y h2) (ltO_asym (hb.1 x h1))
    subst hxy
    refine congrArg (x :: ·) (sorted_ext ha.2 hb.2 fun z => ?_)
    constructor
    · intro hz
      rcases List.mem_cons.1 ((h z).1 (List.mem_cons_of_mem _ hz)) with e | h'
      · subst e; exact absurd (ha.1 z hz) ltO_irr
      · exact h'
    · intro hz
      rcases List.mem_cons.1 ((h z).2 (List.mem_cons_of_mem _ hz)) with e | h'
      · subst e; exact absurd (hb.1 z hz) ltO_irr
      · exact h'
def insO (t : Nat → Int) (s : Nat) : List Nat → List Nat
  | [] => [s]
  | x :: l => if ltO t s x then s :: x :: l else x :: insO t s l
theorem insO_mem {t : Nat → Int} {s y : Nat} : ∀ {l : List Nat}, y ∈ insO t s l ↔ y = s ∨ y ∈ l
  | [] => by simp [insO]
  | x :: l => by
    have ih := insO_mem (t := t) (s := s) (y := y) (l := l)
    unfold insO
    split
    · simp
    · simp only [List.mem_cons, ih]
      constructor
      · rintro (h | h | h)
        · exact .inr (.inl h)
        · exact .inl h
        · exact .inr (.inr h)
      · rintro (h | h | h)
        · exact .inr (.inl h)
        · exact .inl h
        · exact .inr (.inr h)
theorem insO_sorted {t : Nat → Int} {s : Nat} : ∀ {l : List Nat}, l.Pairwise (ltO t) → s ∉ l → (insO t s l).Pairwise (ltO t)
  | [], _, _ => by simp [insO]
  | x :: l, h, hs => by
    rw [List.pairwise_cons] at h
    have hsx : s ≠ x := fun e => hs (e ▸ List.mem_cons_self)
    unfold insO
    split
    · rename_i hlt
      refine List.pairwise_cons.2 ⟨fun y hy => ?_, List.pairwise_cons.2 h⟩
      rcases List.mem_cons.1 hy with e | hy
      · exact e ▸ hlt
      · exact ltO_trans hlt (h.1 y hy)
    · rename_i hlt
      have hxs : ltO t x s := (ltO_tot hsx).resolve_left hlt
      refine List.pairwise_cons.2 ⟨fun y hy => ?_, insO_sorted h.2 fun h' => hs (List.mem_cons_of_mem _ h')⟩
      rcases insO_mem.1 hy with e | hy
      · exact e ▸ hxs
      · exact h.1 y hy
/-- The slots below n that are told, in order. -/
def ordL (t : Nat → Int) (slots : List Int) : Nat → List Nat
  | 0 => []
  | n + 1 => if (n : Int) ∈ slots then insO t n (ordL t slots n) else ordL t slots n
theorem ordL_spec (t : Nat → Int) (slots : List Int) : ∀ n, (ordL t slots n).Pairwise (ltO t) ∧ ∀ x : Nat, x ∈ ordL t slots n ↔ x < n ∧ (x : Int) ∈ slots
  | 0 => ⟨List.Pairwise.nil, fun x => by simp [ordL]⟩
  | n + 1 => by
    obtain ⟨h1, h2⟩ := ordL_spec t slots n
    have hn : n ∉ ordL t slots n := fun h => by have := (h2 n).1 h; omega
    unfold ordL
    split
    · rename_i hm
      refine ⟨insO_sorted h1 hn, fun x => ?_⟩
      rw [insO_mem, h2]
      constructor
      · rintro (rfl | ⟨h, h'⟩)
        · exact ⟨by omega, hm⟩
        · exact ⟨by omega, h'⟩
      · rintro ⟨h, h'⟩
        rcases Nat.lt_or_ge x n with hx | hx
        · exact .inr ⟨hx, h'⟩
        · exact .inl (by omega)
    · rename_i hm
      refine ⟨h1, fun x => ?_⟩
      rw [h2]
      constructor
      · rintro ⟨h, h'⟩
        exact ⟨by omega, h'⟩
      · rintro ⟨h, h'⟩
        refine ⟨?_, h'⟩
        rcases Nat.lt_or_ge x n with hx | hx
        · exact hx
        · obtain rfl : x = n := by omega
          exact absurd h' hm
theorem ordL_of {t : Nat → Int} {slots : List Int} {l : List Nat} {n : Nat} (h : l.Pairwise (ltO t)) (hm : ∀ x : Nat, x ∈ l ↔ x < n ∧ (x : Int) ∈ slots) : l = ordL t slots n :=
  sorted_ext h (ordL_spec t slots n).1 fun x => by rw [hm, (ordL_spec t slots n).2]
end Go.Proofs.Ytknhemdpfdopaaa.AmF
