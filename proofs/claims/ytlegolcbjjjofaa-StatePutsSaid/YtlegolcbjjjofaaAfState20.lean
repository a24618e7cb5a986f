/- States of the log: what a record keeps. -/
import Derived.Test.YtlegolcbjjjofaaAfState17
namespace Go.Proofs.Ytlegolcbjjjofaa.AmF
open Go Go.AM
set_option maxRecDepth 100000
set_option linter.unusedSimpArgs false
set_option linter.unusedVariables false
theorem RZ_unw {c : Cf} {rb rb' : Bool} {z : Zn} (h : RZ c rb z) : RZ c rb' (unw z) := by
  obtain ⟨h1, h2, h3, h4, h5, h6, h7, h8⟩ := h
  exact ⟨h1, h2, h3, h4, fun h => by simp [unw] at h, h6, h7, h8⟩
theorem odd_set {st : List Int} {x : Rc} (h : st.countP oddP ≤ 1) (hx : StOk st x) : (st.set x.member.toNat x.status).countP oddP ≤ 1 := by
  obtain ⟨⟨h1, h2⟩, h3, h4⟩ := hx
  have hlt : x.member.toNat < st.length := by omega
  rw [List.countP_set hlt]
  by_cases ho : fIdx oddP st < 0
  · have h0 : st.countP oddP = 0 := by
      rw [List.countP_eq_zero]
      intro y hy hp
      have := (fIdx_iff oddP st).2 ⟨y, hy, hp⟩
      omega
    rw [h0]
    split <;> split <;> omega
  · have e : oddS st = (fIdx oddP st, st.getD (fIdx oddP st).toNat 0, true) := if_neg ho
    rw [e] at h4
    have h5 := h4 rfl
    have hp : oddP st[x.member.toNat] = true := by
      have h6 : st.findIdx? oddP = some x.member.toNat := by
        unfold fIdx at h5 ho
        split at h5
        · rename_i i hi
          rw [hi]
          simp at h5
          congr 1
          omega
        · simp at h5; omega
      exact (List.findIdx?_eq_some_iff_getElem.1 h6).2.1
    rw [if_pos hp]
    split <;> omega
theorem DS_unw {zs : List Zn} (h : DS zs) : DS (zs.map unw) := by
  unfold DS at *
  rw [List.pairwise_map]
  exact h
theorem DS_set {zs : List Zn} {j : Nat} {z z' : Zn} (h : DS zs) (hz : zs[j]? = some z) (h' : z'.slot = -1 ∨ z'.slot = z.slot ∨ ∀ y ∈ zs, y.slot ≠ z'.slot) : DS (zs.set j z') := by
  unfold DS at *
  rw [List.pairwise_iff_getElem] at *
  obtain ⟨hj, hz⟩ := List.getElem?_eq_some_iff.1 hz
  intro a b ha hb hab
  rw [List.length_set] at ha hb
  have hab' := h a b ha hb hab
  rw [List.getElem_set, List.getElem_set]
  split
  · rename_i e
    subst e
    rw [if_neg (by omega)]
    intro e
    rcases h' with h' | h' | h'
    · omega
    · rw [hz] at hab'; exact hab' (by omega)
    · exact absurd e.symm (h' _ (List.getElem_mem hb))
  · split
    · rename_i e
      subst e
      intro e
      rcases h' with h' | h' | h'
      · exact h'
      · rw [hz] at hab'; rw [h'] at e ⊢; exact hab' e
      · exact absurd e (h' _ (List.getElem_mem ha))
    · exact hab'
theorem last2_mem {l : List Pr} {p : Pr} (h : p ∈ last2 l) : p ∈ l := List.mem_of_mem_drop h
theorem last2_two (l : List Pr) : (last2 l).length ≤ 2 := by unfold last2; rw [List.length_drop]; omega
theorem RZ_step {c : Cf} {zs : List Zn} {rb : Bool} {z z' : Zn} {x : Rc} (h : RZ c rb z) (hz : z ∈ zs) (hs : stepZ c zs rb z x = some z') : RZ c rb z' ∧ (z'.slot = -1 ∨ z'.slot = z.slot ∨ ∀ y ∈ zs, y.slot ≠ z'.slot) := by
  obtain ⟨h1, h2, h3, h4, h5, h6, h7, h8⟩ := h
  by_cases k1 : x.kind = 1
  · rw [stepZ_1 k1] at hs
    split at hs
    · rename_i hz1
      cases hs
      obtain ⟨a1, a2, a3, a4⟩ := hz1
      rw [freeZ_mem] at a4
      have a5 : ∀ y ∈ zs, y.slot ≠ x.slot := by
        intro y hy e
        have := (hasZ_seen zs x.slot).2 ⟨y, hy, e⟩
        rw [a4.2] at this
        cases this
      refine ⟨⟨h1, ⟨by show -1 ≤ x.slot; omega, a4.1.2⟩, h3, fun hw => ⟨(h4 hw).1, by show x.slot ≠ -1; omega⟩, fun hw => ⟨by show x.slot ≠ -1; omega, hw⟩, h6, fun _ => by show x.slot ≠ -1; omega, h8⟩, .inr (.inr a5)⟩
    · cases hs
  by_cases k2 : x.kind = 2
  · rw [stepZ_2 k2] at hs
    split at hs
    · rename_i hz1
      cases hs
      obtain ⟨a1, a2⟩ := hz1
      refine ⟨⟨⟨by show 0 ≤ x.gen; omega, a2⟩, ⟨by show (-1 : Int) ≤ -1; omega, by have := slots_bd c; show (-1 : Int) < _; omega⟩, ⟨by show (0 : Int) ≤ 0; omega, by show (0 : Int) ≤ sizeC c; omega⟩, fun hw => by simp at hw, fun hw => by simp at hw, by simp, fun hw => by simp at hw, fun p hp => by simp at hp⟩, .inl rfl⟩
    · cases hs
  by_cases k3 : x.kind = 3
  · rw [stepZ_3 k3] at hs
    split at hs
    · rename_i hz1
      cases hs
      obtain ⟨a1, a2, a3⟩ := hz1
      refine ⟨⟨h1, h2, a2, fun hw => ⟨rfl, fun e => by have := a3 e; have : 0 < x.w := hw; omega⟩, h5, h6, h7, h8⟩, .inr (.inl rfl)⟩
    · cases hs
  by_cases k4 : x.kind = 4
  · rw [stepZ_4 k4] at hs
    split at hs
    · rename_i hz1
      cases hs
      obtain ⟨a1, a2, a3, a4, a5⟩ := hz1
      refine ⟨⟨h1, h2, h3, h4, h5, last2_two _, fun _ => a1, fun p hp => ?_⟩, .inr (.inl rfl)⟩
      rcases List.mem_append.1 (last2_mem hp) with hp | hp
      · exact h8 p hp
      · rw [List.mem_singleton.1 hp]; exact ⟨a4, a5⟩
    · cases hs
  by_cases k5 : x.kind = 5
  · rw [stepZ_5 k5] at hs
    split at hs
    · rename_i hz1
      cases hs
      exact ⟨⟨h1, h2, h3, h4, fun _ => hz1, h6, h7, h8⟩, .inr (.inl rfl)⟩
    · cases hs
  rw [stepZ_no k1 k2 k3 k4 k5] at hs
  cases hs
/-- A record keeps a state right. -/
theorem RS_step {s t : St} {x : Rc} (h : RS s) (hg : Goes s x) (ht : stepS s x = some t) : RS t := by
  obtain ⟨h1, h2, h3, h4, h5, h6, h7, h8, h9⟩ := h
  obtain ⟨g1, g2, g3⟩ := hg
  by_cases hk : x.kind = 6
  · rw [stepS_st hk] at ht
    split at ht
    · rename_i ho
      cases ht
      refine ⟨h1, h2, ⟨by show 0 ≤ x.seq; omega, g3⟩, by show ((s.st.set _ _).length : Int) = _; rw [List.length_set]; exact h4, by show ((s.zs.map unw).length : Int) = _; rw [List.length_map]; exact h5, ?_, odd_set h7 ho, ?_, DS_unw h9⟩
      · intro n hn
        rcases List.mem_or_eq_of_mem_set hn with hn | rfl
        · exact h6 n hn
        · exact ho.2.1
      · intro z hz
        obtain ⟨y, hy, rfl⟩ := List.mem_map.1 hz
        exact RZ_unw (h8 y hy)
    · cases ht
  · by_cases hzn : 0 ≤ x.zone ∧ x.zone < s.zs.length
    · obtain ⟨z, hz⟩ : ∃ z, s.zs[x.zone.toNat]? = some z := ⟨_, List.getElem?_eq_getElem (by omega)⟩
      rw [stepS_zn hk hzn hz, Option.map_eq_some_iff] at ht
      obtain ⟨z', hz', rfl⟩ := ht
      have hm := List.mem_of_getElem? hz
      obtain ⟨r1, r2⟩ := RZ_step (h8 z hm) hm hz'
      refine ⟨h1, h2, ⟨by show 0 ≤ x.seq; omega, g3⟩, h4, by show ((s.zs.set _ _).length : Int) = _; rw [List.length_set]; exact h5, h6, h7, ?_, DS_set h9 hz r2⟩
      intro y hy
      rcases List.mem_or_eq_of_mem_set hy with hy | rfl
      · exact h8 y hy
      · exact r1
    · rw [stepS_no hk hzn] at ht
      cases ht
theorem stepS_c {s t : St} {x : Rc} (ht : stepS s x = some t) : t.c = s.c := by
  unfold stepS at ht
  repeat' split at ht
  all_goals first | (cases ht; done) | (cases ht; rfl) | (rw [Option.map_eq_some_iff] at ht; obtain ⟨z', _, rfl⟩ := ht; rfl)
/-- A record more: the state behind it. -/
def nextS (s : St) (x : Rc) : St := if (applyS s x).2 = 0 then (applyS s x).1 else s
theorem nextS_right {s : St} {x : Rc} (h : RS s) : RS (nextS s x) ∧ (nextS s x).c = s.c := by
  unfold nextS
  by_cases hg : Goes s x
  · cases ht : stepS s x with
    | none => rw [applyS_bad h hg ht]; exact ⟨h, rfl⟩
    | some t => rw [applyS_ok h hg ht]; exact ⟨RS_step h hg ht, stepS_c ht⟩
  · rw [applyS_form h hg]; exact ⟨h, rfl⟩
theorem freeK_cons {z : Zn} {zs : List Zn} (hz : z.slot = -1 ∨ hasZ zs z.slot = false) : ∀ N : Nat, (freeK (z :: zs) N).length + (if 0 ≤ z.slot ∧ z.slot < N then 1 else 0) = (freeK zs N).length
  | 0 => by rw [if_neg (by omega)]; rfl
  | N + 1 => by
    have ih := freeK_cons hz N
    rw [freeK_snoc, freeK_snoc, List.length_append, List.length_append]
    have e : hasZ (z :: zs) (N : Int) = (decide (z.slot = (N : Int)) || hasZ zs (N : Int)) := by simp [hasZ]
    rw [e]
    by_cases h1 : z.slot = (N : Int)
    · have h2 : hasZ zs (N : Int) = false := by
        rcases hz with h | h
        · omega
        · rw [← h1]; exact h
      rw [if_neg (by omega)] at ih
      rw [if_pos (show 0 ≤ z.slot ∧ z.slot < ((N + 1 : Nat) : Int) by omega), h2]
      simp [h1]
      omega
    · have h3 : (0 ≤ z.slot ∧ z.slot < ((N + 1 : Nat) : Int)) ↔ (0 ≤ z.slot ∧ z.slot < (N : Int)) := by omega
      simp only [h1, decide_false, Bool.false_or]
      by_cases h4 : 0 ≤ z.slot ∧ z.slot < (N : Int)
      · rw [if_pos h4] at ih; rw [if_pos (h3.2 h4)]; omega
      · rw [if_neg h4] at ih; rw [if_neg (fun h => h4 (h3.1 h))]; omega
def bareN (zs : List Zn) : Nat := zs.countP fun z => decide (z.slot < 0)
theorem free_count {N : Nat} : ∀ {zs : List Zn}, DS zs → (∀ z ∈ zs, -1 ≤ z.slot ∧ z.slot < N) → (freeK zs N).length + zs.length = N + bareN zs
  | [], _, _ => by
    have : ∀ N : Nat, (freeK [] N).length = N := fun N => by
      have h : (fun n : Int => !hasZ [] n) = fun _ => true := rfl
      unfold freeK
      rw [h, List.filter_eq_self.2 (fun _ _ => rfl), List.length_map, List.length_range]
    simp [this, bareN]
  | z :: zs, hd, hr => by
    unfold DS at hd
    rw [List.pairwise_cons] at hd
    have ih := free_count hd.2 fun y hy => hr y (List.mem_cons_of_mem _ hy)
    have h0 := hr z (List.mem_cons_self ..)
    have hz : z.slot = -1 ∨ hasZ zs z.slot = false := by
      by_cases h : hasZ zs z.slot = true
      · obtain ⟨y, hy, e⟩ := (hasZ_seen zs z.slot).1 h
        have := hd.1 y hy e.symm
        exact .inl (by omega)
      · exact .inr (by simpa using h)
    have := freeK_cons hz N
    unfold bareN at ih ⊢
    rw [List.countP_cons, List.length_cons]
    by_cases h : z.slot < 0
    · rw [if_neg (by omega)] at this
      rw [if_pos (by simpa using h)]
      omega
    · rw [if_pos (by omega)] at this
      rw [if_neg (by simpa using h)]
      omega
theorem free_bare {s : St} (h : RS s) : ((freeZ s.c s.zs).length : Int) = s.c.spa + bareN s.zs := by
  obtain ⟨h1, h2, h3, h4, h5, h6, h7, h8, h9⟩ := h
  have hb := slots_bd s.c
  have hc := free_count (N := (slotsC s.c).toNat) h9 fun z hz => by
    have := (h8 z hz).2.1
    omega
  have e : slotsC s.c = s.c.zon + s.c.spa := by unfold slotsC; rw [if_pos (okC_sane (chkC_ok h1))]
  have e2 : freeZ s.c s.zs = freeK s.zs (slotsC s.c).toNat := rfl
  rw [e2]
  omega
theorem RS_new {c : Cf} (h : chkC c = 0) : RS (newS c) := by
  have hk := chkC_ok h
  have hm := hk.2.1
  have hz : 0 ≤ c.zon := by unfold okC at hk; omega
  have hb := slots_bd c
  refine ⟨h, ⟨by show (1 : Int) ≤ 1; omega, by show (1 : Int) ≤ _; omega⟩, ⟨by show (0 : Int) ≤ 0; omega, by show (0 : Int) ≤ _; omega⟩, ?_, ?_, ?_, ?_, ?_, ?_⟩
  · show ((List.replicate c.mem.toNat (0 : Int)).length : Int) = c.mem
    rw [List.length_replicate]; omega
  · show ((List.replicate c.zon.toNat z0).length : Int) = c.zon
    rw [List.length_replicate]; omega
  · intro n hn
    rw [List.eq_of_mem_replicate hn]; omega
  · show (List.replicate c.mem.toNat (0 : Int)).countP oddP ≤ 1
    rw [List.countP_replicate, if_neg (by decide)]; omega
  · intro z hz'
    rw [List.eq_of_mem_replicate hz']
    have hs : 0 ≤ sizeC c := (size_bd c).2.2.2.2.1
    exact ⟨by decide, ⟨by decide, by show (-1 : Int) < slotsC c; omega⟩, ⟨by decide, hs⟩, fun hw => by simp [z0] at hw, fun hw => by simp [z0] at hw, by decide, fun hw => by simp [z0] at hw, fun p hp => by simp [z0] at hp⟩
  · show DS (List.replicate c.zon.toNat z0)
    unfold DS
    rw [List.pairwise_replicate]
    exact .inr fun _ => rfl
def Rcl (l : List Rc) : List AV := l.map fun x => .agg (RcC x)
theorem Rcl_len (l : List Rc) : (Rcl l).length = l.length := by simp [Rcl]
theorem Rcl_ren (ρ : Nat → Option Nat) (l : List Rc) : renL ρ (Rcl l) = Rcl l := by
  rw [renL_map]; simp [Rcl, AV.ren, RcC_ren]
/-- The record as the state wants it. -/
def atS (s : St) (x : Rc) : Rc := { x with epoch := s.ep, seq := s.sq + 1 }
/-- The state behind so many records. -/
def runS (s : St) (l : List Rc) : Nat → St
  | 0 => s
  | i + 1 => match l[i]? with
    | some x => nextS (runS s l i) (atS (runS s l i) x)
    | none => runS s l i
theorem runS_succ {s : St} {l : List Rc} {i : Nat} {x : Rc} (h : l[i]? = some x) : runS s l (i + 1) = nextS (runS s l i) (atS (runS s l i) x) := by
  rw [runS, h]
theorem runS_right {s : St} (l : List Rc) (h : RS s) : ∀ i, RS (runS s l i) ∧ (runS s l i).c = s.c
  | 0 => ⟨h, rfl⟩
  | i + 1 => by
    have ih := runS_right l h i
    rw [runS]
    split
    · rename_i x _
      have := nextS_right (x := atS (runS s l i) x) ih.1
      exact ⟨this.1, this.2.trans ih.2⟩
    · exact ih
theorem RS_few {s : St} (h : RS s) : s.st.length ≤ 16 ∧ s.zs.length ≤ 64 ∧ (∀ z ∈ s.zs, z.pars.length ≤ 2) ∧ ∀ z ∈ s.zs, ∀ p ∈ z.pars, p.b.length ≤ 140737488355328 := by
  obtain ⟨h1, h2, h3, h4, h5, h6, h7, h8, h9⟩ := h
  have hk := chkC_ok h1
  have hu := hk.2.2.1
  have hb := hk.2.2.2.1
  refine ⟨by have := hk.2.1; omega, by unfold okC at hk; omega, fun z hz => (h8 z hz).2.2.2.2.2.1, fun z hz p hp => ?_⟩
  have hp := (h8 z hz).2.2.2.2.2.2.2 p hp
  have h10 : s.c.unit * s.c.blk ≤ 64 * 4096 := Int.mul_le_mul hu.2 hb.2 (by omega) (by omega)
  have := hp.2
  omega
theorem bareN_snoc {zs : List Zn} {i : Nat} {z : Zn} (h : zs[i]? = some z) : bareN (zs.take (i + 1)) = bareN (zs.take i) + if z.slot < 0 then 1 else 0 := by
  rw [take_succ_get h]
  unfold bareN
  rw [List.countP_append]
  by_cases h1 : z.slot < 0 <;> simp [h1]
theorem bareN_le (zs : List Zn) (i : Nat) : bareN (zs.take i) ≤ zs.length := by
  unfold bareN
  exact Nat.le_trans List.countP_le_length (by simp; omega)
end Go.Proofs.Ytlegolcbjjjofaa.AmF
