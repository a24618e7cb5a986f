/- What a reading of an argument says of it, kind by kind: for the rows of laws over structs and rows of rows. -/
import Derived.Test.YtaanlcegmkmphaaFMyWords
import Derived.ChangeArms
import Derived.DataReads
import Derived.SizedLaws
import Derived.WideShapes
import Derived.ChangeMaps5
import Derived.ChangeShapes
namespace Go.Proofs.YtaanlcegmkmphaaW.MyWords
open Go.RowKit Go.WideShapes Go.Proofs.YtaanlcegmkmphaaW.PrintWords Go.Proofs.YtaanlcegmkmphaaW.PrintLast

def Opens (P : Program) (w : World) {α : Type} (d : Kd α) (t : TypeId) (Wf : α → Prop) : Prop :=
  ∀ (H : Type) (enc : TypeId × Value → H) (base : Nat) (spare : Nat → Bool) (held : Bool) (fuel : Nat) (cs : List Value) (x : DataW H × List MemPlace),
    DataW.trod enc P w base spare held fuel t cs = some x → (∀ n ∈ x.1.weights P t, n ≤ 140737488351232) → ∃ a, d.K w a cs ∧ Wf a

theorem list_of {α : Type} {Q : Nat → α → Prop} : ∀ {n : Nat}, (∀ i, i < n → ∃ a, Q i a) → ∃ xs : List α, xs.length = n ∧ ∀ i a, xs[i]? = some a → Q i a
  | 0, _ => ⟨[], rfl, fun i a h => by simp at h⟩
  | n + 1, h => by
    obtain ⟨xs, hl, hq⟩ := list_of (n := n) (fun i hi => h i (by omega))
    obtain ⟨a, ha⟩ := h n (by omega)
    refine ⟨xs ++ [a], by simp [hl], fun i b hb => ?_⟩
    rw [List.getElem?_append] at hb
    split at hb
    · exact hq i b hb
    · rename_i hi
      have hi2 : i < (xs ++ [a]).length := by
        rcases Nat.lt_or_ge i (xs ++ [a]).length with h1 | h1
        · exact h1
        · rw [List.getElem?_eq_none (by simp at h1 ⊢; omega)] at hb; cases hb
      have e : i = n := by simp at hi2; omega
      subst e
      rw [show i - xs.length = 0 by omega] at hb
      simp at hb
      subst hb
      exact ha

theorem add_add (a : Addr) (m n : Nat) : (a.add m).add n = a.add (m + n) := by
  unfold Addr.add
  by_cases hm : m = 0
  · subst hm; simp
  · by_cases hn : n = 0
    · subst hn; simp
    · have : m + n ≠ 0 := by omega
      simp [hm, hn]; omega

theorem weightsAll_mem {H : Type} {P : Program} {e : TypeId} : ∀ {l : List (DataW H)} {d : DataW H}, d ∈ l → ∀ n ∈ d.weights P e, n ∈ DataW.weightsAll P e l
  | [], _, h, _, _ => by cases h
  | y :: r, d, h, n, hn => by
    simp only [DataW.weightsAll, List.mem_append]
    rcases List.mem_cons.1 h with rfl | h
    · exact .inl hn
    · exact .inr (weightsAll_mem h n hn)

section
variable {P : Program} {w : World} {t e : TypeId}
theorem Opens.int {k : IntKind} (ht : P.underlying t = some (.int k)) : Opens P w (Kd.int k) t (fun n => (Lit.int k n).wf = true) := by
  intro H enc base spare held fuel cs x h _
  obtain ⟨n, rfl, rfl, hw⟩ := DataW.trod_int ht h
  exact ⟨n, rfl, hw⟩
theorem Opens.bool (ht : P.underlying t = some .bool) : Opens P w Kd.bool t (fun _ => True) := by
  intro H enc base spare held fuel cs x h _
  obtain ⟨b, rfl, rfl⟩ := DataW.trod_bool ht h
  exact ⟨b, rfl, trivial⟩
theorem Opens.slice {α : Type} {d : Kd α} {Wf : α → Prop} {B : Nat} (h : Opens P w d e Wf) (ht : P.underlying t = some (.slice e)) (hc : P.cellsOf e = d.sz) (hB : P.bytesOf e = B) :
    Opens P w (Kd.slice e d) t (fun xs => xs.length ≤ 9223372036854775807 ∧ xs.length * B ≤ 140737488351232 ∧ ∀ x ∈ xs, Wf x) := by
  intro H enc base spare held fuel cs x hx hw
  rcases DataW.trod_slice ht hx with ⟨rfl, rfl⟩ | ⟨a, len, cap, elems, rest, n, rfl, rfl, rfl, _, hl, hm, hlen, hel, _, _⟩
  · exact ⟨[], ⟨none, 0, rfl, Nat.le_refl _, rfl, by simp, fun h => absurd h (by simp)⟩, by simp, by simp, by simp⟩
  · have hw1 : (elems.length + rest.length) * P.bytesOf e ≤ 140737488351232 := hw _ (by simp [DataW.weights, ht])
    have hw2 : ∀ (i : Nat) y, elems[i]? = some y → ∀ n ∈ y.1.weights P e, n ≤ 140737488351232 := fun i y hy n hn =>
      hw n (by
        simp only [DataW.weights, ht, List.mem_cons, List.mem_append]
        exact .inr (.inl (weightsAll_mem (List.mem_map_of_mem (List.mem_of_getElem? hy)) n hn)))
    obtain ⟨xs, hxl, hxs⟩ := list_of (n := len) (Q := fun i z => ∃ c, c.length = d.sz ∧ d.K w z c ∧ (∀ (j : Nat) u, c[j]? = some u → w.cell? (a.add (i * d.sz + j)) = some u) ∧ Wf z) (fun i hi => by
      have h1 := hel i hi
      obtain ⟨y, hy⟩ : ∃ y, elems[i]? = some y := ⟨_, List.getElem?_eq_getElem (by omega)⟩
      rw [hy, Option.bind_eq_some_iff] at h1
      obtain ⟨c, hcs, hty⟩ := h1
      obtain ⟨_, hcl, hcc⟩ := World.cells?_some hcs
      obtain ⟨z, hK, hW⟩ := h H enc base spare held n c y hty (hw2 i y hy)
      refine ⟨z, c, by rw [hcl, hc], hK, fun j u hu => ?_, hW⟩
      have hj : j < c.length := by
        rcases Nat.lt_or_ge j c.length with h | h
        · exact h
        · rw [List.getElem?_eq_none h] at hu; cases hu
      rw [← hc, ← add_add, hcc j (by omega)]
      exact hu)
    have hmx : len ≤ 9223372036854775807 := Nat.le_trans hl (by simpa [maxLen] using hm)
    refine ⟨xs, ⟨some a, cap, by rw [hxl], by omega, rfl, by omega, fun _ => ⟨a, rfl, fun j p hj => ?_⟩⟩, by omega, ?_, fun z hz => ?_⟩
    · obtain ⟨c, h1, h2, h3, _⟩ := hxs j p hj
      exact ⟨c, h1, h2, h3⟩
    · rw [hB] at hw1
      refine Nat.le_trans (Nat.mul_le_mul_right _ ?_) hw1
      omega
    · obtain ⟨i, hi⟩ := List.getElem?_of_mem hz
      obtain ⟨c, _, _, _, h4⟩ := hxs i z hi
      exact h4

def FOpens (P : Program) (w : World) {α : Type} (d : Kd α) (fs : List Field) (off : Nat) (Wf : α → Prop) : Prop :=
  ∀ (H : Type) (enc : TypeId × Value → H) (base : Nat) (spare : Nat → Bool) (held : Bool) (fuel : Nat) (cs : List Value) (xs : List (DataW H × List MemPlace)),
    cs.length = off + d.sz → xs.length = fs.length →
    (∀ (i : Nat) (f : Field), fs[i]? = some f → DataW.trod enc P w base spare held fuel f.type ((cs.drop f.offset).take (P.cellsOf f.type)) = xs[i]?) →
    (∀ n ∈ DataW.weightsEach P (fs.map (·.type)) (xs.map (·.1)), n ≤ 140737488351232) → ∃ a, d.K w a (cs.drop off) ∧ Wf a
theorem FOpens.one {α : Type} {d : Kd α} {Wf : α → Prop} {f : Field} {off : Nat} (h : Opens P w d f.type Wf) (ho : f.offset = off) (hc : P.cellsOf f.type = d.sz) : FOpens P w d [f] off Wf := by
  intro H enc base spare held fuel cs xs hl hx ht hw
  obtain ⟨x, rfl⟩ : ∃ x, xs = [x] := by
    match xs, hx with
    | [x], _ => exact ⟨x, rfl⟩
  have h0 := ht 0 f rfl
  rw [ho, hc, List.take_of_length_le (by simp; omega)] at h0
  exact h H enc base spare held fuel _ x h0 (fun n hn => hw n (by simp [DataW.weightsEach, hn]))
theorem FOpens.cons {α β : Type} {d : Kd α} {d' : Kd β} {Wf : α → Prop} {Wf' : β → Prop} {f : Field} {fs : List Field} {off : Nat} (h : Opens P w d f.type Wf) (ho : f.offset = off) (hc : P.cellsOf f.type = d.sz)
    (hr : FOpens P w d' fs (off + d.sz) Wf') : FOpens P w (Kd.pair d d') (f :: fs) off (fun x => Wf x.1 ∧ Wf' x.2) := by
  intro H enc base spare held fuel cs xs hl hx ht hw
  obtain ⟨x, ys, rfl⟩ : ∃ x ys, xs = x :: ys := by
    match xs, hx with
    | x :: ys, _ => exact ⟨x, ys, rfl⟩
  have hsz : (Kd.pair d d').sz = d.sz + d'.sz := rfl
  have h0 := ht 0 f rfl
  rw [ho, hc] at h0
  obtain ⟨a, ha, hWa⟩ := h H enc base spare held fuel _ x h0 (fun n hn => hw n (by simp [DataW.weightsEach, hn]))
  obtain ⟨b, hb, hWb⟩ := hr H enc base spare held fuel cs ys (by omega) (by simpa using hx) (fun i g hg => ht (i + 1) g hg) (fun n hn => hw n (by simp only [List.map_cons, DataW.weightsEach, List.mem_append]; exact .inr hn))
  refine ⟨(a, b), ⟨(cs.drop off).take d.sz, cs.drop (off + d.sz), ?_, ha, hb⟩, hWa, hWb⟩
  have hq : cs.drop (off + d.sz) = (cs.drop off).drop d.sz := by rw [List.drop_drop]
  rw [hq, List.take_append_drop]
theorem Opens.struct {α β : Type} {d : Kd α} {Wf : α → Prop} {fs : Array Field} {f : β → α} (g : α → β) (ht : P.underlying t = some (.struct fs)) (hc : P.cellsOf t = d.sz) (h : FOpens P w d fs.toList 0 Wf) (hg : ∀ a, f (g a) = a) :
    Opens P w (Kd.iso d f) t (fun b => Wf (f b)) := by
  intro H enc base spare held fuel cs x hx hw
  obtain ⟨xs, n, rfl, rfl, hcs, hlen, hfs⟩ := DataW.trod_struct ht hx
  obtain ⟨a, ha, hW⟩ := h H enc base spare held n cs xs (by rw [hcs, hc]; omega) (by simpa using hlen) (fun i q hq => hfs i q (by simpa using hq)) (fun n hn => hw n (by simpa [DataW.weights, ht] using hn))
  refine ⟨g a, ?_, ?_⟩
  · show d.K w (f (g a)) cs
    rw [hg]
    simpa using ha
  · show Wf (f (g a))
    rw [hg]
    exact hW

theorem Opens.at_slice {H : Type} {enc : TypeId × Value → H} {base : Nat} {spare : Nat → Bool} {held : Bool} {α : Type} {d : Kd α} {Wf : List α → Prop} {A : Option Addr} {len cap : Nat} {x : DataW H} {p : List MemPlace}
    (h : Opens P w (Kd.slice e d) t Wf) (hx : DataW.Trod enc P w base spare held t (.slice A len cap) x p) (hw : ∀ n ∈ x.weights P t, n ≤ 140737488351232) :
    ∃ xs, len = xs.length ∧ xs.length ≤ cap ∧ Kd.C d w A xs.length xs ∧ Wf xs := by
  obtain ⟨fuel, hf⟩ := hx
  obtain ⟨xs, ⟨A', c', hcs, hl, hC⟩, hW⟩ := h H enc base spare held fuel _ _ hf hw
  simp [Value.cells] at hcs
  obtain ⟨rfl, rfl, rfl⟩ := hcs
  exact ⟨xs, rfl, hl, hC, hW⟩
theorem weights_at {H : Type} {ts : List TypeId} {ds : List (DataW H)} (h : (DataW.weightsEach P ts ds).all (· ≤ reachBytes) = true) {j : Nat} {t : TypeId} {d : DataW H} (ht : ts[j]? = some t) (hd : ds[j]? = some d) :
    ∀ n ∈ d.weights P t, n ≤ 140737488351232 := fun n hn => by
  have := List.all_eq_true.1 h _ (DataW.weights_mem_each ht hd n hn)
  have e : reachBytes = 140737488351232 := by decide
  rw [e] at this
  simpa using this
theorem lt_of_trod {H : Type} {enc : TypeId × Value → H} {base : Nat} {spare : Nat → Bool} {held : Bool} {v : Value} {x : DataW H} {p : List MemPlace} (hx : DataW.Trod enc P w base spare held t v x p) : ∀ q ∈ p, q.block < w.heap.size := by
  obtain ⟨m, hm⟩ := hx
  exact DataW.trod_lt m _ _ _ hm
end
end Go.Proofs.YtaanlcegmkmphaaW.MyWords
