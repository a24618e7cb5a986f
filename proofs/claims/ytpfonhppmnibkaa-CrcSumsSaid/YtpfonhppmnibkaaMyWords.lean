/- Small words beside the print's own, for one seat. -/
import Derived.Test.YtpfonhppmnibkaaWMore
import Derived.Test.YtpfonhppmnibkaaWSized
import Derived.WalkSpells
import Derived.Laws.IdiomStrings
import Derived.Lib.SlBytesConst
namespace Go.Proofs.YtpfonhppmnibkaaW.MyWords
open Go.RowKit Go.Proofs.YtpfonhppmnibkaaW.PrintWords Go.Proofs.YtpfonhppmnibkaaW.PrintLast

theorem my_C_none {α : Type} {d : Kd α} {w : World} {n : Nat} {xs : List α} (h : Kd.C d w none n xs) : xs = [] := by
  obtain ⟨h1, _, h3⟩ := h
  cases hn : n with
  | zero => rw [hn] at h1; exact List.length_eq_zero_iff.1 h1
  | succ m =>
    obtain ⟨ad, e, _⟩ := h3 (by omega)
    cases e

/-- A block that was just made is read. -/
theorem my_C_new {k : IntKind} (w : World) (cells : Array Value) (e : TypeId) (m : Nat × Nat) (xs : List Int) (hc : cells = (xs.map (Value.int k)).toArray) (hl : xs.length ≤ 9223372036854775807) :
    Kd.C (Kd.int k) (w.alloc (.cells cells e m)) (some ⟨w.heap.size, 0, none⟩) xs.length xs := by
  subst hc
  refine ⟨rfl, hl, fun _ => ⟨_, rfl, fun j p hj => ⟨[.int k p], rfl, rfl, fun i u hu => ?_⟩⟩⟩
  have hi : i = 0 := by
    cases i with
    | zero => rfl
    | succ i => simp at hu
  subst hi
  simp at hu
  subst hu
  have hq : ((⟨w.heap.size, 0, none⟩ : Addr).add (j * (Kd.int k).sz + 0)) = ⟨w.heap.size, j, none⟩ := by
    have : (Kd.int k).sz = 1 := rfl
    rw [this]
    unfold Addr.add
    by_cases h : j = 0
    · subst h; simp
    · simp [h]
  rw [hq]
  rw [World.cell?_alloc_mark]
  simp [hj]

end Go.Proofs.YtpfonhppmnibkaaW.MyWords
