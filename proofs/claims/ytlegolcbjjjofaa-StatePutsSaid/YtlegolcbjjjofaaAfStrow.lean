/- States as a row hands them. -/
import Derived.Test.YtlegolcbjjjofaaAfState1
import Derived.Test.YtlegolcbjjjofaaAfConfeq
namespace Go.Proofs.Ytlegolcbjjjofaa.AmF
open Go Go.AM
set_option maxRecDepth 100000
set_option linter.unusedSimpArgs false
set_option linter.unusedVariables false
def SizedS (s : St) : Prop := s.st.length ≤ 140737488355328 ∧ s.zs.length ≤ 140737488355328 ∧ (∀ z ∈ s.zs, z.pars.length ≤ 140737488355328) ∧ ∀ z ∈ s.zs, ∀ p ∈ z.pars, p.b.length ≤ 140737488355328
abbrev PrT := Int × List Int
abbrev ZnT := Int × Int × Bool × Int × Bool × List PrT
abbrev StT := Cf11 × Int × Int × List Int × List ZnT
def prOf (a : PrT) : Pr := ⟨a.1, a.2⟩
def znOf (a : ZnT) : Zn := ⟨a.1, a.2.1, a.2.2.1, a.2.2.2.1, a.2.2.2.2.1, a.2.2.2.2.2.map prOf⟩
def stOf (a : StT) : St := ⟨cfOf a.1, a.2.1, a.2.2.1, a.2.2.2.1, a.2.2.2.2.map znOf⟩
def ZnR (a : ZnT) : List AV := [.int a.1, .int a.2.1, .b a.2.2.1, .int a.2.2.2.1, .b a.2.2.2.2.1, .fz 2 (a.2.2.2.2.2.map fun p => .agg (PrC (prOf p)))]
def StR (a : StT) : List AV := CC (cfOf a.1) ++ [.int a.2.1, .int a.2.2.1, .fz 1 (ints .i64 a.2.2.2.1), .fz 6 (a.2.2.2.2.map fun z => .agg (ZnR z))]
theorem ZnR_eq (a : ZnT) : ZnR a = ZnC (znOf a) := by simp [ZnR, ZnC, znOf, Prs, Function.comp_def]
theorem StR_eq (a : StT) : StR a = StC (stOf a) := by
  simp only [StR, StC, stOf, Zns, List.map_map, Function.comp_def, ZnR_eq]
theorem stOf_sized {a : StT} (h1 : a.2.2.2.1.length ≤ 140737488355328) (h2 : a.2.2.2.2.length ≤ 140737488355328) (h3 : ∀ z ∈ a.2.2.2.2, z.2.2.2.2.2.length ≤ 140737488355328 ∧ ∀ p ∈ z.2.2.2.2.2, p.2.length ≤ 140737488355328) : SizedS (stOf a) := by
  refine ⟨h1, by show (a.2.2.2.2.map znOf).length ≤ _; rw [List.length_map]; exact h2, fun z hz => ?_, fun z hz p hp => ?_⟩
  · obtain ⟨y, hy, rfl⟩ := List.mem_map.1 hz
    show (y.2.2.2.2.2.map prOf).length ≤ _
    rw [List.length_map]
    exact (h3 y hy).1
  · obtain ⟨y, hy, rfl⟩ := List.mem_map.1 hz
    obtain ⟨q, hq, rfl⟩ := List.mem_map.1 hp
    exact (h3 y hy).2 q hq
end Go.Proofs.Ytlegolcbjjjofaa.AmF
