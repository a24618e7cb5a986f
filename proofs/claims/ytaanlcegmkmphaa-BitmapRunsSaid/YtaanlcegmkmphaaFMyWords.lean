/- Small words beside the print's own, for one seat. -/
import Derived.Test.YtaanlcegmkmphaaFWMore
import Derived.Test.YtaanlcegmkmphaaFWSized
import Derived.WalkSpells
import Derived.Laws.IdiomStrings
import Derived.Lib.SlBytesConst
import Derived.StillTailTactics
namespace Go.Proofs.YtaanlcegmkmphaaW.MyWords
open Go.RowKit Go.Proofs.YtaanlcegmkmphaaW.PrintWords Go.Proofs.YtaanlcegmkmphaaW.PrintLast

theorem my_C_none {α : Type} {d : Kd α} {w : World} {n : Nat} {xs : List α} (h : Kd.C d w none n xs) : xs = [] := by
  obtain ⟨h1, _, h3⟩ := h
  cases hn : n with
  | zero => rw [hn] at h1; exact List.length_eq_zero_iff.1 h1
  | succ m =>
    obtain ⟨ad, e, _⟩ := h3 (by omega)
    cases e

/-- A block that was just made is read. -/
theorem my_C_new {k : IntKind} (w : World) (cells : Array Value) (e : TypeId) (m : Nat × Nat) (xs : List Int) (hc : cells = (xs.map (Value.int k)).toArray) (hl : xs.length ≤ 9223372036854775807) :
    Kd.C (Kd.int k) (w.alloc (.cells cells e m)) (some ⟨w.heap.size, 0, none⟩) xs.length xs := by
  subst hc
  refine ⟨rfl, hl, fun _ => ⟨_, rfl, fun j p hj => ⟨[.int k p], rfl, rfl, fun i u hu => ?_⟩⟩⟩
  have hi : i = 0 := by
    cases i with
    | zero => rfl
    | succ i => simp at hu
  subst hi
  simp at hu
  subst hu
  have hq : ((⟨w.heap.size, 0, none⟩ : Addr).add (j * (Kd.int k).sz + 0)) = ⟨w.heap.size, j, none⟩ := by
    have : (Kd.int k).sz = 1 := rfl
    rw [this]
    unfold Addr.add
    by_cases h : j = 0
    · subst h; simp
    · simp [h]
  rw [hq]
  rw [World.cell?_alloc_mark]
  simp [hj]

theorem my_ret_int {k : IntKind} {a b : Int} (h : a = b) : Ending.returned (.int k a) = .returned (.int k b) := by rw [h]
theorem my_ret_bool {a b : Bool} (h : a = b) : Ending.returned (.bool a) = .returned (.bool b) := by rw [h]
theorem bcell {W w1 : World} (hb : Below W.heap.size W w1) : (∀ b o, b < W.heap.size → w1.cell? ⟨b, o, none⟩ = W.cell? ⟨b, o, none⟩) ∧ (∀ b o, b < W.heap.size → w1.frozen? ⟨b, o, none⟩ = W.frozen? ⟨b, o, none⟩) :=
  ⟨fun b o h => hb.cell (p := ⟨b, o, none⟩) h, fun b o h => hb.frozen (p := ⟨b, o, none⟩) h⟩

def okN (n : Int) : Bool := decide (1 ≤ n) && decide (n ≤ 1048576)
def saneB (l : List Int) : Bool := l.all okN
theorem saneB_stop {l : List Int} {k : Nat} (hk : k < l.length) (h : okN (l.getD k 0) = false) : saneB l = false := by
  unfold saneB
  rw [List.all_eq_false]
  refine ⟨l[k], List.getElem_mem _, ?_⟩
  rw [List.getD_eq_getElem?_getD, List.getElem?_eq_getElem hk] at h
  simpa using h
theorem saneB_step {l : List Int} {k : Nat} (hk : k < l.length) (h : okN (l.getD k 0) = true) (hs : saneB (l.take k) = true) : saneB (l.take (k + 1)) = true := by
  unfold saneB at hs ⊢
  rw [List.take_succ_eq_append_getElem hk, List.all_append, hs]
  rw [List.getD_eq_getElem?_getD, List.getElem?_eq_getElem hk] at h
  simpa using h
theorem saneB_at {v1 v2 v3 v4 v5 v6 v7 v8 v9 v10 : Int} (h : saneB [v1, v2, v3, v4, v5, v6, v7, v8, v9, v10] = true) : (1 ≤ v1 ∧ v1 ≤ 1048576) ∧ (1 ≤ v2 ∧ v2 ≤ 1048576) ∧ (1 ≤ v3 ∧ v3 ≤ 1048576) ∧ (1 ≤ v4 ∧ v4 ≤ 1048576) ∧ (1 ≤ v5 ∧ v5 ≤ 1048576) ∧ (1 ≤ v6 ∧ v6 ≤ 1048576) ∧ (1 ≤ v7 ∧ v7 ≤ 1048576) ∧ (1 ≤ v8 ∧ v8 ≤ 1048576) ∧ (1 ≤ v9 ∧ v9 ≤ 1048576) ∧ (1 ≤ v10 ∧ v10 ≤ 1048576) := by
  simp [saneB, okN] at h
  omega

end Go.Proofs.YtaanlcegmkmphaaW.MyWords
