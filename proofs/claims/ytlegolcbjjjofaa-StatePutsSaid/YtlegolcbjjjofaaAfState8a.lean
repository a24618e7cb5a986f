/- Walks over the abstract machine: states of the log: a zone, by a record. -/
import Derived.Test.YtlegolcbjjjofaaAfState7
namespace Go.Proofs.Ytlegolcbjjjofaa.AmF
open Go Go.AM
set_option maxRecDepth 100000
set_option maxHeartbeats 4000000
set_option linter.unusedSimpArgs false
set_option linter.unusedVariables false
attribute [local simp] tkeep tget tput ev cav argsTM pickA normT putA splice AV.cells ints_length rowsA_length Prs_len Zns_len
def Z1 (c : Cf) (zs : List Zn) (z : Zn) (x : Rc) : Prop := z.slot = -1 ∧ z.full = false ∧ z.gen = x.gen ∧ x.slot ∈ freeZ c zs
def Z2 (z : Zn) (x : Rc) : Prop := x.gen = z.gen + 1 ∧ x.gen ≤ 1099511627776
def Z3 (c : Cf) (z : Zn) (x : Rc) : Prop := z.full = false ∧ (0 ≤ x.w ∧ x.w ≤ sizeC c) ∧ (z.slot = -1 → x.w = 0)
def Z4 (c : Cf) (z : Zn) (x : Rc) : Prop := z.slot ≠ -1 ∧ z.full = false ∧ z.gen = x.gen ∧ (1 ≤ x.w ∧ x.w ≤ sizeC c) ∧ (x.body.length : Int) = c.unit * c.blk
def Z5 (rb : Bool) (z : Zn) : Prop := z.slot ≠ -1 ∧ rb = true
instance (c : Cf) (zs : List Zn) (z : Zn) (x : Rc) : Decidable (Z1 c zs z x) := by unfold Z1; infer_instance
instance (z : Zn) (x : Rc) : Decidable (Z2 z x) := by unfold Z2; infer_instance
instance (c : Cf) (z : Zn) (x : Rc) : Decidable (Z3 c z x) := by unfold Z3; infer_instance
instance (c : Cf) (z : Zn) (x : Rc) : Decidable (Z4 c z x) := by unfold Z4; infer_instance
instance (rb : Bool) (z : Zn) : Decidable (Z5 rb z) := by unfold Z5; infer_instance
/-- The last two. -/
def last2 (l : List Pr) : List Pr := l.drop (l.length - 2)
/-- A zone, by a record. -/
def stepZ (c : Cf) (zs : List Zn) (rb : Bool) (z : Zn) (x : Rc) : Option Zn :=
  if x.kind = 1 then (if Z1 c zs z x then some { z with slot := x.slot, whole := rb } else none)
  else if x.kind = 2 then (if Z2 z x then some ⟨x.gen, -1, false, 0, false, []⟩ else none)
  else if x.kind = 3 then (if Z3 c z x then some { z with full := true, w := x.w } else none)
  else if x.kind = 4 then (if Z4 c z x then some { z with pars := last2 (z.pars ++ [⟨x.w, x.body⟩]) } else none)
  else if x.kind = 5 then (if Z5 rb z then some { z with whole := true } else none)
  else none
section
variable {c : Cf} {zs : List Zn} {rb : Bool} {z : Zn} {x : Rc}
theorem stepZ_1 (h : x.kind = 1) : stepZ c zs rb z x = if Z1 c zs z x then some { z with slot := x.slot, whole := rb } else none := if_pos h
theorem stepZ_2 (h : x.kind = 2) : stepZ c zs rb z x = if Z2 z x then some ⟨x.gen, -1, false, 0, false, []⟩ else none := by unfold stepZ; rw [if_neg (by omega), if_pos h]
theorem stepZ_3 (h : x.kind = 3) : stepZ c zs rb z x = if Z3 c z x then some { z with full := true, w := x.w } else none := by unfold stepZ; rw [if_neg (by omega), if_neg (by omega), if_pos h]
theorem stepZ_4 (h : x.kind = 4) : stepZ c zs rb z x = if Z4 c z x then some { z with pars := last2 (z.pars ++ [⟨x.w, x.body⟩]) } else none := by unfold stepZ; rw [if_neg (by omega), if_neg (by omega), if_neg (by omega), if_pos h]
theorem stepZ_5 (h : x.kind = 5) : stepZ c zs rb z x = if Z5 rb z then some { z with whole := true } else none := by unfold stepZ; rw [if_neg (by omega), if_neg (by omega), if_neg (by omega), if_neg (by omega), if_pos h]
theorem stepZ_no (h : ¬ x.kind = 1) (h2 : ¬ x.kind = 2) (h3 : ¬ x.kind = 3) (h4 : ¬ x.kind = 4) (h5 : ¬ x.kind = 5) : stepZ c zs rb z x = none := by unfold stepZ; rw [if_neg h, if_neg h2, if_neg h3, if_neg h4, if_neg h5]
end
/-- The zones' row, of which one is told in another way. -/
def ZR (zs : List Zn) (j : Nat) (c : List AV) : Blk := ⟨6, true, (Zns zs).set j (.agg c)⟩
theorem ZR_get {zs : List Zn} {j : Nat} {c : List AV} (hj : j < zs.length) : (ZR zs j c).els[j]? = some (.agg c) := by
  show ((Zns zs).set j (.agg c))[j]? = _
  rw [List.getElem?_set, if_pos rfl, if_pos (by simpa using hj)]
theorem ZR_loc {H : Heap} {zs : List Zn} {j f : Nat} {x : AV} {c : List AV} (hj : j < zs.length) (hb : hget H 1 = some (ZR zs j (x :: c))) : locA H (.ref 1 j f) = some (x :: c, f) := by
  simp [locA, hb, ZR_get hj, AV.cells]
theorem ZR_set {zs : List Zn} {j : Nat} {c c' : List AV} : some (⟨6, true, (ZR zs j c).els.set j (.agg c')⟩ : Blk) = some (ZR zs j c') := by
  simp [ZR, List.set_set]
theorem Ent_last2 {H : Heap} {p : Nat} {l : List Pr} (hb : hget H p = some ⟨2, false, Prs l⟩) : Ent H (.sl p (l.length - 2) (l.length - (l.length - 2))) (.fz 2 (Prs (last2 l))) := by
  have h := Ent.sl (H := H) (id := p) (off := l.length - 2) (len := l.length - (l.length - 2)) (b := ⟨2, false, Prs l⟩) hb rfl (by simp)
  rw [show Prs (last2 l) = ((Prs l).drop (l.length - 2)).take (l.length - (l.length - 2)) by
    unfold last2 Prs
    rw [List.map_drop, List.take_of_length_le (by simp)]]
  exact h
theorem freeZ_len (c : Cf) (zs : List Zn) : (freeZ c zs).length ≤ 140737488355328 := by
  have h1 := slots_bd c
  have h2 : freeZ c zs = freeK zs (slotsC c).toNat := rfl
  rw [h2]
  have := freeK_len zs (slotsC c).toNat
  omega
theorem ch_end {tm tm' : TM} {H : Heap} {st : List Int} {zs : List Zn} {j p : Nat} {z' : Zn} {P : AV} {l : List Pr} (hj : j < zs.length) (h0 : hget H 0 = some ⟨1, true, ints .i64 st⟩) (h1 : hget H 1 = some (ZR zs j (ZnS z' P))) (hp : hget H p = some ⟨2, true, Prs l⟩) (hp2 : 2 ≤ p) (hP : Ent (H.set p (some ⟨2, false, Prs l⟩)) P (.fz 2 (Prs z'.pars))) (hT : AllGet (normT [0, 1, 2] tm) tm') : TEnt 3 tm H tm' [some ⟨1, true, ints .i64 st⟩, some ⟨6, true, Zns (zs.set j z')⟩, none] := by
  have hpl := hget_lt hp
  have h1l := hget_lt h1
  refine (TEnt.freeze p hp).trans ?_
  have h1' : hget (H.set p (some ⟨2, false, Prs l⟩)) 1 = some (ZR zs j (ZnS z' P)) := by rw [hget_set, if_neg (by omega)]; exact h1
  have h0' : hget (H.set p (some ⟨2, false, Prs l⟩)) 0 = some ⟨1, true, ints .i64 st⟩ := by rw [hget_set, if_neg (by omega)]; exact h0
  have hE : EntL (H.set p (some ⟨2, false, Prs l⟩)) (ZR zs j (ZnS z' P)).els (Zns (zs.set j z')) := by
    have h2 : EntL (H.set p (some ⟨2, false, Prs l⟩)) (ZR zs j (ZnS z' P)).els ((ZR zs j (ZnS z' P)).els.set j (.agg (ZnC z'))) := EntL.set j (ZR_get hj) (Ent.agg (EntL.cons (Ent.refl _) (EntL.cons (Ent.refl _) (EntL.cons (Ent.refl _) (EntL.cons (Ent.refl _) (EntL.cons (Ent.refl _) (EntL.cons hP EntL.nil)))))))
    rw [show (ZR zs j (ZnS z' P)).els.set j (.agg (ZnC z')) = Zns (zs.set j z') by show ((Zns zs).set j _).set j _ = _; rw [List.set_set, Zns_set]] at h2
    exact h2
  refine (TEnt.blk 1 (l' := Zns (zs.set j z')) h1' (by simp [ZR]) hE).trans ((TEnt.forget 2).trans (TEnt.fin [0, 1, 2] (by decide) src3 ?_ hT))
  simp only [normH, List.map_cons, List.map_nil]
  refine heap3 ?_ ?_ ?_
  · rw [hget_set, if_neg (by omega), hget_set, if_neg (by omega), h0']; exact ib_ren _ _
  · rw [hget_set, if_neg (by omega), hget_set, if_pos ⟨rfl, by simpa using h1l⟩]; exact znb_ren _ _
  · by_cases h3 : 2 < H.length
    · rw [hget_set, if_pos ⟨rfl, by simpa using h3⟩]; rfl
    · rw [hget_set, if_neg (by simp; omega), hget_set, if_neg (by omega), hget_set, if_neg (by omega)]
      cases h4 : hget H 2 with
      | none => rfl
      | some b => exact absurd (hget_lt h4) h3
end Go.Proofs.Ytlegolcbjjjofaa.AmF
