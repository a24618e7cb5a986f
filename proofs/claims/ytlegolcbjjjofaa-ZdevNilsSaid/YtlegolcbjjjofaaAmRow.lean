/- The abstract machine: what a reading of an argument says of it, kind by kind; and a law's end. -/
import Derived.Test.YtlegolcbjjjofaaAmNum
import Derived.ChangeArms
import Derived.DataReads
import Derived.SizedLaws
import Derived.WideShapes
import Derived.ChangeShapes
import Derived.OpenShut
import Derived.Below
namespace Go.AM
open Go.RowKit

def g0 (w : World) : G := ⟨w, [], fun _ => 0, fun _ => 0, fun _ => 0, fun b => b < w.heap.size⟩
theorem g0_ok (w : World) : GOk (g0 w) := ⟨fun id k h => by simp [g0, hget] at h, fun i j k k' h => by simp [g0, hget] at h, fun _ h => h⟩
/-- A kind of data: its cells, and it itself. -/
structure Kd (α : Type) where
  sz : Nat
  C : α → List AV
  el : α → AV
  ok : (∀ a, el a = .agg (C a)) ∨ (sz = 1 ∧ ∀ a, C a = [el a])
def Kd.int (k : IntKind) : Kd Int := ⟨1, fun n => [.v (.int k n)], fun n => .v (.int k n), .inr ⟨rfl, fun _ => rfl⟩⟩
def Kd.bool : Kd Bool := ⟨1, fun n => [.v (.bool n)], fun n => .v (.bool n), .inr ⟨rfl, fun _ => rfl⟩⟩
def Kd.string : Kd ByteArray := ⟨1, fun n => [.v (.string n)], fun n => .v (.string n), .inr ⟨rfl, fun _ => rfl⟩⟩
def Kd.slice {α : Type} (d : Kd α) : Kd (List α) := ⟨1, fun l => [.fz d.sz (l.map d.el)], fun l => .fz d.sz (l.map d.el), .inr ⟨rfl, fun _ => rfl⟩⟩
def Kd.pair {α β : Type} (d : Kd α) (d' : Kd β) : Kd (α × β) := ⟨d.sz + d'.sz, fun x => d.C x.1 ++ d'.C x.2, fun x => .agg (d.C x.1 ++ d'.C x.2), .inl fun _ => rfl⟩
/-- A struct: under words of one's own. -/
def Kd.struct {α β : Type} (d : Kd α) (f : β → α) : Kd β := ⟨d.sz, fun x => d.C (f x), fun x => .agg (d.C (f x)), .inl fun _ => rfl⟩
def Kd.array {α : Type} (n : Nat) (d : Kd α) : Kd (List α) := ⟨n * d.sz, fun l => l.flatMap d.C, fun l => .agg (l.flatMap d.C), .inl fun _ => rfl⟩

def Opens (P : Program) (w : World) {α : Type} (d : Kd α) (t : TypeId) (Wf : α → Prop) : Prop :=
  ∀ (H : Type) (enc : TypeId × Value → H) (base : Nat) (spare : Nat → Bool) (held : Bool) (fuel : Nat) (cs : List Value) (x : DataW H × List MemPlace),
    DataW.trod enc P w base spare held fuel t cs = some x → (∀ n ∈ x.1.weights P t, n ≤ 140737488351232) → ∃ a, cs.length = d.sz ∧ (∀ c ∈ cs, c.oneCell' = true) ∧ RelL (g0 w) (d.C a) cs ∧ Wf a

theorem list_of {α : Type} {Q : Nat → α → Prop} : ∀ {n : Nat}, (∀ i, i < n → ∃ a, Q i a) → ∃ xs : List α, xs.length = n ∧ ∀ i a, xs[i]? = some a → Q i a
  | 0, _ => ⟨[], rfl, fun i a h => by simp at h⟩
  | n + 1, h => by
    obtain ⟨xs, hl, hq⟩ := list_of (n := n) (fun i hi => h i (by omega))
    obtain ⟨a, ha⟩ := h n (by omega)
    refine ⟨xs ++ [a], by simp [hl], fun i b hb => ?_⟩
    rw [List.getElem?_append] at hb
    split at hb
    · exact hq i b hb
    · rename_i hi
      have hi2 : i < (xs ++ [a]).length := by
        rcases Nat.lt_or_ge i (xs ++ [a]).length with h1 | h1
        · exact h1
        · rw [List.getElem?_eq_none (by simp at h1 ⊢; omega)] at hb; cases hb
      have e : i = n := by simp at hi2; omega
      subst e
      rw [show i - xs.length = 0 by omega] at hb
      simp at hb
      subst hb
      exact ha
theorem add_add (a : Addr) (m n : Nat) : (a.add m).add n = a.add (m + n) := by
  unfold Addr.add
  by_cases hm : m = 0
  · subst hm; simp
  · by_cases hn : n = 0
    · subst hn; simp
    · have : m + n ≠ 0 := by omega
      simp [hm, hn]; omega
theorem weightsAll_mem {H : Type} {P : Program} {e : TypeId} : ∀ {l : List (DataW H)} {d : DataW H}, d ∈ l → ∀ n ∈ d.weights P e, n ∈ DataW.weightsAll P e l
  | [], _, h, _, _ => by cases h
  | y :: r, d, h, n, hn => by
    simp only [DataW.weightsAll, List.mem_append]
    rcases List.mem_cons.1 h with rfl | h
    · exact .inl hn
    · exact .inr (weightsAll_mem h n hn)

/-- The value of cells. -/
def Kd.val {α : Type} (d : Kd α) (cs : List Value) (y : Value) : Prop := ((∀ a, d.el a = .agg (d.C a)) ∧ y = .agg cs.toArray) ∨ (cs = [y])
theorem cells_one {y : Value} (h : y.oneCell' = true) : y.cells = #[y] := by cases y <;> simp_all [Value.oneCell', Value.cells]
theorem Kd.rel {α : Type} {d : Kd α} {w : World} {a : α} {cs : List Value} (hl : cs.length = d.sz) (h1 : ∀ c ∈ cs, c.oneCell' = true) (hr : RelL (g0 w) (d.C a) cs) :
    ∃ y, Rel (g0 w) (d.el a) y ∧ y.cells.toList = cs ∧ Flat y d.sz := by
  rcases d.ok with hk | ⟨hz, hk⟩
  · refine ⟨.agg cs.toArray, ?_, by simp [Value.cells], by simpa [Value.cells] using hl, fun j v hv => ?_⟩
    · rw [hk]
      simp only [Rel]
      exact ⟨_, rfl, by simpa using hr⟩
    · simp only [Value.cells, List.getElem?_toArray] at hv
      exact h1 v (List.mem_of_getElem? hv)
  · rw [hk] at hr
    simp only [RelL] at hr
    obtain ⟨y, zs, rfl, hr, rfl⟩ := hr
    have ho := h1 y (by simp)
    have hc := cells_one ho
    refine ⟨y, hr, by rw [hc], by rw [hc, hz]; rfl, fun j v hv => ?_⟩
    rw [hc] at hv
    cases j with
    | zero => simp at hv; subst hv; exact ho
    | succ j => simp at hv
section
variable {P : Program} {w : World} {t e : TypeId}
theorem Opens.int {k : IntKind} (ht : P.underlying t = some (.int k)) : Opens P w (Kd.int k) t (fun n => (Lit.int k n).wf = true) := by
  intro H enc base spare held fuel cs x h _
  obtain ⟨n, rfl, rfl, hw⟩ := DataW.trod_int ht h
  exact ⟨n, rfl, by simp [Value.oneCell'], by simp [Kd.int, Rel, RelL], hw⟩
theorem Opens.bool (ht : P.underlying t = some .bool) : Opens P w Kd.bool t (fun _ => True) := by
  intro H enc base spare held fuel cs x h _
  obtain ⟨b, rfl, rfl⟩ := DataW.trod_bool ht h
  exact ⟨b, rfl, by simp [Value.oneCell'], by simp [Kd.bool, Rel, RelL], trivial⟩
theorem Opens.string (ht : P.underlying t = some .string) : Opens P w Kd.string t (fun s => s.size ≤ 140737488351232) := by
  intro H enc base spare held fuel cs x h hw
  obtain ⟨s, rfl, rfl, _⟩ := DataW.trod_string ht h
  refine ⟨s, rfl, by simp [Value.oneCell'], by simp [Kd.string, Rel, RelL], ?_⟩
  have := hw s.data.toList.length (by simp [DataW.weights])
  simpa using this
theorem Opens.slice {α : Type} {d : Kd α} {Wf : α → Prop} {B : Nat} (h : Opens P w d e Wf) (ht : P.underlying t = some (.slice e)) (hc : P.cellsOf e = d.sz) (hz : 0 < d.sz) (hB : P.bytesOf e = B) :
    Opens P w (Kd.slice d) t (fun xs => xs.length * B ≤ 140737488351232 ∧ ∀ x ∈ xs, Wf x) := by
  intro H enc base spare held fuel cs x hx hw
  rcases DataW.trod_slice ht hx with ⟨rfl, rfl⟩ | ⟨a, len, cap, elems, rest, n, rfl, rfl, rfl, _, hl, hm, hlen, hel, _, _⟩
  · refine ⟨[], rfl, by simp [Value.oneCell'], ?_, by simp, by simp⟩
    simp only [Kd.slice, Rel, RelL]
    exact ⟨_, [], rfl, ⟨none, 0, [], rfl, Nat.le_refl _, by simp [RelL], fun i x h => by simp at h, fun _ => rfl⟩, rfl⟩
  · have hw1 : (elems.length + rest.length) * P.bytesOf e ≤ 140737488351232 := hw _ (by simp [DataW.weights, ht])
    have hw2 : ∀ (i : Nat) y, elems[i]? = some y → ∀ n ∈ y.1.weights P e, n ≤ 140737488351232 := fun i y hy n hn =>
      hw n (by
        simp only [DataW.weights, ht, List.mem_cons, List.mem_append]
        exact .inr (.inl (weightsAll_mem (List.mem_map_of_mem (List.mem_of_getElem? hy)) n hn)))
    obtain ⟨xs, hxl, hxs⟩ := list_of (n := len) (Q := fun i (z : α × Value) => Rel (g0 w) (d.el z.1) z.2 ∧ Flat z.2 d.sz ∧ (∀ (j : Nat) u, z.2.cells[j]? = some u → w.cell? (a.add (i * d.sz + j)) = some u) ∧ Wf z.1) (fun i hi => by
      have h1 := hel i hi
      obtain ⟨y, hy⟩ : ∃ y, elems[i]? = some y := ⟨_, List.getElem?_eq_getElem (by omega)⟩
      rw [hy, Option.bind_eq_some_iff] at h1
      obtain ⟨c, hcs, hty⟩ := h1
      obtain ⟨_, hcl, hcc⟩ := World.cells?_some hcs
      obtain ⟨z, hK1, hK2, hK3, hW⟩ := h H enc base spare held n c y hty (hw2 i y hy)
      obtain ⟨v, hv1, hv2, hv3⟩ := Kd.rel hK1 hK2 hK3
      refine ⟨(z, v), hv1, hv3, fun j u hu => ?_, hW⟩
      have hu' : c[j]? = some u := by rw [← hv2, Array.getElem?_toList]; exact hu
      have hj : j < c.length := (List.getElem?_eq_some_iff.1 hu').1
      rw [← hc, ← add_add, hcc j (by omega)]
      exact hu')
    refine ⟨xs.map (·.1), rfl, by simp [Value.oneCell'], ?_, by rw [hB] at hw1; exact Nat.le_trans (Nat.mul_le_mul_right _ (by simp; omega)) hw1, fun z hz => ?_⟩
    · simp only [Kd.slice, Rel, RelL]
      refine ⟨_, [], rfl, ⟨some a, cap, xs.map (·.2), by simp [hxl], by simp [hxl]; omega, ?_, ?_, fun h => by cases h⟩, rfl⟩
      · refine RelL.of_get (by simp) (fun i x y hx hy => ?_)
        simp only [List.map_map, List.getElem?_map, Option.map_eq_some_iff] at hx hy
        obtain ⟨z, hz, rfl⟩ := hx
        obtain ⟨z', hz', rfl⟩ := hy
        rw [hz] at hz'
        cases hz'
        exact (hxs i z hz).1
      · intro i y hy
        simp only [List.getElem?_map, Option.map_eq_some_iff] at hy
        obtain ⟨z, hz', rfl⟩ := hy
        obtain ⟨q1, q2, q3, _⟩ := hxs i z hz'
        obtain ⟨z0, hz0⟩ : ∃ z0, xs[0]? = some z0 := ⟨_, List.getElem?_eq_getElem (by have := (List.getElem?_eq_some_iff.1 hz').1; omega)⟩
        obtain ⟨_, p2, p3, _⟩ := hxs 0 z0 hz0
        have hspot : a.spot = none ∧ a.block < w.heap.size := by
          have hs := p2.1
          have hq := p3 0 _ (Array.getElem?_eq_getElem (by omega))
          simp only [Nat.zero_mul, Nat.add_zero, Addr.add, if_true] at hq
          unfold World.cell? at hq
          split at hq
          · rename_i hb
            refine ⟨?_, (Array.getElem?_eq_some_iff.1 hb).1⟩
            split at hq
            · cases hq
            · rename_i hsp; cases hsp' : a.spot <;> simp_all
          · cases hq
        refine ⟨q2, a, rfl, hspot.1, hspot.2, fun j hj => ?_⟩
        have hj' : j < z.2.cells.size := by rw [q2.1]; exact hj
        rw [Array.getElem?_eq_getElem hj']
        have := q3 j _ (Array.getElem?_eq_getElem hj')
        rw [← this]
        show w.cell? _ = w.cell? _
        congr 1
        unfold Addr.add
        obtain ⟨ab, ao, as⟩ := a
        simp only at hspot
        split
        · rename_i h0
          rw [Nat.add_assoc, h0, hspot.1]
          rfl
        · rw [Nat.add_assoc]
    · simp only [List.mem_map] at hz
      obtain ⟨z', hz', rfl⟩ := hz
      obtain ⟨i, hi⟩ := List.getElem?_of_mem hz'
      exact (hxs i z' hi).2.2.2

def FOpens (P : Program) (w : World) {α : Type} (d : Kd α) (fs : List Field) (off : Nat) (Wf : α → Prop) : Prop :=
  ∀ (H : Type) (enc : TypeId × Value → H) (base : Nat) (spare : Nat → Bool) (held : Bool) (fuel : Nat) (cs : List Value) (xs : List (DataW H × List MemPlace)),
    cs.length = off + d.sz → xs.length = fs.length →
    (∀ (i : Nat) (f : Field), fs[i]? = some f → DataW.trod enc P w base spare held fuel f.type ((cs.drop f.offset).take (P.cellsOf f.type)) = xs[i]?) →
    (∀ n ∈ DataW.weightsEach P (fs.map (·.type)) (xs.map (·.1)), n ≤ 140737488351232) → ∃ a, (∀ c ∈ cs.drop off, c.oneCell' = true) ∧ RelL (g0 w) (d.C a) (cs.drop off) ∧ Wf a
theorem FOpens.one {α : Type} {d : Kd α} {Wf : α → Prop} {f : Field} {off : Nat} (h : Opens P w d f.type Wf) (ho : f.offset = off) (hc : P.cellsOf f.type = d.sz) : FOpens P w d [f] off Wf := by
  intro H enc base spare held fuel cs xs hl hx ht hw
  obtain ⟨x, rfl⟩ : ∃ x, xs = [x] := by
    match xs, hx with
    | [x], _ => exact ⟨x, rfl⟩
  have h0 := ht 0 f rfl
  rw [ho, hc, List.take_of_length_le (by simp; omega)] at h0
  obtain ⟨a, _, h2, h3, h4⟩ := h H enc base spare held fuel _ x h0 (fun n hn => hw n (by simp [DataW.weightsEach, hn]))
  exact ⟨a, h2, h3, h4⟩
theorem FOpens.cons {α β : Type} {d : Kd α} {d' : Kd β} {Wf : α → Prop} {Wf' : β → Prop} {f : Field} {fs : List Field} {off : Nat} (h : Opens P w d f.type Wf) (ho : f.offset = off) (hc : P.cellsOf f.type = d.sz)
    (hr : FOpens P w d' fs (off + d.sz) Wf') : FOpens P w (Kd.pair d d') (f :: fs) off (fun x => Wf x.1 ∧ Wf' x.2) := by
  intro H enc base spare held fuel cs xs hl hx ht hw
  obtain ⟨x, ys, rfl⟩ : ∃ x ys, xs = x :: ys := by
    match xs, hx with
    | x :: ys, _ => exact ⟨x, ys, rfl⟩
  have hsz : (Kd.pair d d').sz = d.sz + d'.sz := rfl
  have h0 := ht 0 f rfl
  rw [ho, hc] at h0
  obtain ⟨a, _, ha1, ha, hWa⟩ := h H enc base spare held fuel _ x h0 (fun n hn => hw n (by simp [DataW.weightsEach, hn]))
  obtain ⟨b, hb1, hb, hWb⟩ := hr H enc base spare held fuel cs ys (by omega) (by simpa using hx) (fun i g hg => ht (i + 1) g hg) (fun n hn => hw n (by simp only [List.map_cons, DataW.weightsEach, List.mem_append]; exact .inr hn))
  have hq : cs.drop off = (cs.drop off).take d.sz ++ cs.drop (off + d.sz) := by
    have : cs.drop (off + d.sz) = (cs.drop off).drop d.sz := by rw [List.drop_drop]
    rw [this, List.take_append_drop]
  refine ⟨(a, b), ?_, ?_, hWa, hWb⟩
  · rw [hq]
    intro c hc
    exact (List.mem_append.1 hc).elim (ha1 c) (hb1 c)
  · rw [hq]
    exact ha.append hb
theorem Opens.struct {α β : Type} {d : Kd α} {Wf : α → Prop} {fs : Array Field} {f : β → α} (g : α → β) (ht : P.underlying t = some (.struct fs)) (hc : P.cellsOf t = d.sz) (h : FOpens P w d fs.toList 0 Wf) (hg : ∀ a, f (g a) = a) :
    Opens P w (Kd.struct d f) t (fun b => Wf (f b)) := by
  intro H enc base spare held fuel cs x hx hw
  obtain ⟨xs, n, rfl, rfl, hcs, hlen, hfs⟩ := DataW.trod_struct ht hx
  obtain ⟨a, h1, ha, hW⟩ := h H enc base spare held n cs xs (by rw [hcs, hc]; omega) (by simpa using hlen) (fun i q hq => hfs i q (by simpa using hq)) (fun n hn => hw n (by simpa [DataW.weights, ht] using hn))
  refine ⟨g a, by rw [hcs, hc]; rfl, by simpa using h1, ?_, ?_⟩
  · show RelL _ (d.C (f (g a))) cs
    rw [hg]
    simpa using ha
  · show Wf (f (g a))
    rw [hg]
    exact hW
theorem okWide_array {n : Nat} {r : Reach} {base : Nat} {v : Value} (ht : P.underlying t = some (.array n e)) (h : Value.okWide P w r base t v) : ∃ cs, v = .agg cs ∧ cs.size = P.cellsOf t ∧ True := by
  simp only [Value.okWide, ht] at h
  obtain ⟨cs, h1, h2, _⟩ := h
  exact ⟨cs, h1, h2, trivial⟩
theorem flat_rel {α : Type} {d : Kd α} {g : G} {cs : List Value} : ∀ (as : List α) (o : Nat), cs.length = (o + as.length) * d.sz →
    (∀ (i : Nat) a, as[i]? = some a → RelL g (d.C a) ((cs.drop ((o + i) * d.sz)).take d.sz)) → RelL g (as.flatMap d.C) (cs.drop (o * d.sz))
  | [], o, hl, _ => by
    rw [List.drop_eq_nil_of_le (by rw [hl]; simp)]
    simp [RelL]
  | a :: as, o, hl, h => by
    have h0 := h 0 a rfl
    have hr := flat_rel as (o + 1) (by rw [hl, List.length_cons]; congr 1; omega) (fun i b hb => by
      have := h (i + 1) b hb
      rw [show o + (i + 1) = o + 1 + i by omega] at this
      exact this)
    have hq : cs.drop (o * d.sz) = (cs.drop (o * d.sz)).take d.sz ++ cs.drop ((o + 1) * d.sz) := by
      have : cs.drop ((o + 1) * d.sz) = (cs.drop (o * d.sz)).drop d.sz := by rw [List.drop_drop, Nat.add_mul, Nat.one_mul]
      rw [this, List.take_append_drop]
    rw [hq, List.flatMap_cons]
    exact RelL.append h0 hr
theorem Opens.array {α : Type} {d : Kd α} {Wf : α → Prop} {n : Nat} (h : Opens P w d e Wf) (ht : P.underlying t = some (.array n e)) (hce : P.cellsOf e = d.sz) (hc : P.cellsOf t = n * d.sz) :
    Opens P w (Kd.array n d) t (fun xs => xs.length = n ∧ ∀ x ∈ xs, Wf x) := by
  intro H enc base spare held fuel cs x hx hw
  obtain ⟨xs, m, rfl, rfl, hcs, hlen, hel⟩ := DataW.trod_array ht hx
  have hw2 : ∀ (i : Nat) y, xs[i]? = some y → ∀ k ∈ y.1.weights P e, k ≤ 140737488351232 := fun i y hy k hk =>
    hw k (by
      simp only [DataW.weights, ht]
      exact weightsAll_mem (List.mem_map_of_mem (List.mem_of_getElem? hy)) k hk)
  obtain ⟨as, hal, has⟩ := list_of (n := n) (Q := fun i (a : α) => RelL (g0 w) (d.C a) ((cs.drop (i * d.sz)).take d.sz) ∧ (∀ c ∈ (cs.drop (i * d.sz)).take d.sz, c.oneCell' = true) ∧ Wf a) (fun i hi => by
    obtain ⟨y, hy⟩ : ∃ y, xs[i]? = some y := ⟨_, List.getElem?_eq_getElem (by omega)⟩
    have h1 := hel i hi
    rw [hy, hce] at h1
    obtain ⟨a, _, h2, h3, h4⟩ := h H enc base spare held m _ y h1 (hw2 i y hy)
    exact ⟨a, h3, h2, h4⟩)
  rw [hc] at hcs
  refine ⟨as, hcs, fun c hcm => ?_, ?_, hal, fun a ha => ?_⟩
  · obtain ⟨j, hj⟩ := List.getElem?_of_mem hcm
    have hjl : j < n * d.sz := by rw [← hcs]; exact (List.getElem?_eq_some_iff.1 hj).1
    have hs0 : 0 < d.sz := by
      rcases Nat.eq_zero_or_pos d.sz with e0 | e0
      · rw [e0] at hjl; omega
      · exact e0
    have hi : j / d.sz < n := by
      rw [Nat.div_lt_iff_lt_mul hs0]; exact hjl
    obtain ⟨a, ha⟩ : ∃ a, as[j / d.sz]? = some a := ⟨_, List.getElem?_eq_getElem (by omega)⟩
    refine (has _ a ha).2.1 c (List.mem_of_getElem? (i := j % d.sz) ?_)
    have hm := Nat.mod_lt j hs0
    rw [List.getElem?_take, if_pos hm, List.getElem?_drop, Nat.mul_comm, Nat.div_add_mod]
    exact hj
  · have := flat_rel (d := d) (g := g0 w) (cs := cs) as 0 (by rw [hcs, hal, Nat.zero_add]) (fun i a ha => by rw [Nat.zero_add]; exact (has i a ha).1)
    simpa [Kd.array] using this
  · obtain ⟨i, hi⟩ := List.getElem?_of_mem ha
    exact (has i a hi).2.2
/-- An argument of one cell. -/
theorem Opens.at_one {H : Type} {enc : TypeId × Value → H} {base : Nat} {spare : Nat → Bool} {held : Bool} {α : Type} {d : Kd α} {Wf : α → Prop} {v : Value} {x : DataW H} {p : List MemPlace}
    (h : Opens P w d t Wf) (hv : v.oneCell' = true) (hd : ∀ a, d.C a = [d.el a]) (hx : DataW.Trod enc P w base spare held t v x p) (hw : ∀ n ∈ x.weights P t, n ≤ 140737488351232) : ∃ a, Rel (g0 w) (d.el a) v ∧ Wf a := by
  obtain ⟨fuel, hf⟩ := hx
  obtain ⟨a, h1, h2, h3, h4⟩ := h H enc base spare held fuel _ _ hf hw
  rw [hd, cells_one hv] at h3
  simp [RelL] at h3
  exact ⟨a, h3, h4⟩
/-- An argument: a struct or an array. -/
theorem Opens.at_agg {H : Type} {enc : TypeId × Value → H} {base : Nat} {spare : Nat → Bool} {held : Bool} {α : Type} {d : Kd α} {Wf : α → Prop} {cs : Array Value} {x : DataW H} {p : List MemPlace}
    (h : Opens P w d t Wf) (hd : ∀ a, d.el a = .agg (d.C a)) (hx : DataW.Trod enc P w base spare held t (.agg cs) x p) (hw : ∀ n ∈ x.weights P t, n ≤ 140737488351232) : ∃ a, Rel (g0 w) (d.el a) (.agg cs) ∧ Wf a := by
  obtain ⟨fuel, hf⟩ := hx
  obtain ⟨a, h1, h2, h3, h4⟩ := h H enc base spare held fuel _ _ hf hw
  refine ⟨a, ?_, h4⟩
  rw [hd]
  simp only [Rel]
  exact ⟨cs, rfl, h3⟩
theorem weights_at {H : Type} {ts : List TypeId} {ds : List (DataW H)} (h : (DataW.weightsEach P ts ds).all (· ≤ reachBytes) = true) {j : Nat} {t : TypeId} {d : DataW H} (ht : ts[j]? = some t) (hd : ds[j]? = some d) :
    ∀ n ∈ d.weights P t, n ≤ 140737488351232 := fun n hn => by
  have := List.all_eq_true.1 h _ (DataW.weights_mem_each ht hd n hn)
  have e : reachBytes = 140737488351232 := by decide
  rw [e] at this
  simpa using this
theorem lt_of_trod {H : Type} {enc : TypeId × Value → H} {base : Nat} {spare : Nat → Bool} {held : Bool} {v : Value} {x : DataW H} {p : List MemPlace} (hx : DataW.Trod enc P w base spare held t v x p) : ∀ q ∈ p, q.block < w.heap.size := by
  obtain ⟨m, hm⟩ := hx
  exact DataW.trod_lt m _ _ _ hm
end
/-- A law: true, and nothing that stood is touched. -/
theorem CSpec.law {P : Program} {f : FuncId} {args : List AV} {hout : Heap} (h : CSpec P f [] args hout (.b true)) {w : World} {vals : List Value} (hr : RelL (g0 w) args vals) :
    Calls P f vals.toArray w fun e w' => e = .returned (.bool true) ∧ Below w.heap.size w w' := by
  refine Calls.mono (h.2 (g0 w) vals rfl (g0_ok w) hr) fun e w' ⟨v, g', h1, h2, h3, h4, h5, h6, h7⟩ => ?_
  subst h2
  simp only [AV.b, Rel] at h5
  refine ⟨by rw [h1, h5], h6.rest.1, h6.rest.2.1, h6.rest.2.2, h6.size, fun k hk => h6.keep k hk ?_⟩
  rintro ⟨id, k', h, _⟩
  simp [g0, hget] at h
end Go.AM
