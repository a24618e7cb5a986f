/- Plain lemmas on numbers, bytes and lists, for the pure statements of one seat. -/
import Derived.Test.YtaanlcegmkmphaaFMyWords
import Derived.Laws.BitsLemmas
namespace Go.Proofs.YtaanlcegmkmphaaW.MyPure
open Go.RowKit Go.Proofs.YtaanlcegmkmphaaW.PrintWords Go.Proofs.YtaanlcegmkmphaaW.PrintLast

theorem wrap64_id {i : Int} (h0 : -9223372036854775808 ≤ i) (h1 : i ≤ 9223372036854775807) : wrap64 i = i := by unfold wrap64; omega
theorem wrap_succ (i : Int) (h0 : 0 ≤ i) (h1 : i ≤ 140737488355328) : wrap64 (i + 1) = i + 1 := by unfold wrap64; omega

theorem rd_mem {l : List Int} (i : Int) (h0 : 0 ≤ i) (h1 : i < l.length) : rd l i ∈ l := by
  unfold rd
  rw [List.getD_eq_getElem?_getD, List.getElem?_eq_getElem (by omega)]
  exact List.getElem_mem _
theorem drop_rd (l : List Int) (i : Int) (h0 : 0 ≤ i) (h1 : i < l.length) : l.drop i.toNat = rd l i :: l.drop (i + 1).toNat := by
  have e : (i + 1).toNat = i.toNat + 1 := by omega
  rw [e, List.drop_eq_getElem_cons (by omega)]
  congr 1
  unfold rd
  rw [List.getD_eq_getElem?_getD, List.getElem?_eq_getElem (by omega)]; rfl
theorem rd_nat (l : List Int) (i : Nat) : rd l (i : Int) = l.getD i 0 := by unfold rd; rfl

theorem rounds_succ' {k d : Nat} (h : d < k) : ∃ m, k = m + 1 := ⟨k - 1, by omega⟩

theorem bits8_u (o : BinOp) (a b : Int) : ∃ n : Int, Go.bits o .u8 a b = n % 256 ∨ Go.bits o .u8 a b = 0 := by
  cases o <;> simp only [Go.bits, IntKind.wrap_u8] <;> first | exact ⟨_, .inl rfl⟩ | exact ⟨0, .inr rfl⟩
theorem bits8 (o : BinOp) (a b : Int) : 0 ≤ Go.bits o .u8 a b ∧ Go.bits o .u8 a b < 256 := by
  obtain ⟨n, h⟩ := bits8_u o a b
  rcases h with h | h <;> rw [h] <;> omega
end Go.Proofs.YtaanlcegmkmphaaW.MyPure
