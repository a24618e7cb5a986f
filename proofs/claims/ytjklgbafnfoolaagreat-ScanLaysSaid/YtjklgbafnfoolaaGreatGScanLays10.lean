/- States of the log: what a record keeps. -/
import Derived.Test.YtjklgbafnfoolaaGreatGScanLays9
import Derived.ChangeKeysEq
import Derived.Scope
namespace Go.Proofs.YtjklgbafnfoolaaGreat.AmF
open Go Go.AM
set_option maxRecDepth 100000
set_option linter.unusedSimpArgs false
set_option linter.unusedVariables false
theorem RZ_unw {c : Cf} {rb rb' : Bool} {z : Zn} (h : RZ c rb z) : RZ c rb' (unw z) := by
  obtain ⟨h1, h2, h3, h4, h5, h6, h7, h8⟩ := h
  exact ⟨h1, h2, h3, h4, fun h => by simp [unw] at h, h6, h7, h8⟩
theorem odd_set {st : List Int} {x : Rc} (h : st.countP oddP ≤ 1) (hx : StOk st x) : (st.set x.member.toNat x.status).countP oddP ≤ 1 := by
  obtain ⟨⟨h1, h2⟩, h3, h4⟩ := hx
  have hlt : x.member.toNat < st.length := by omega
  rw [List.countP_set hlt]
  by_cases ho : fIdx oddP st < 0
  · have h0 : st.countP oddP = 0 := by
      rw [List.countP_eq_zero]
      intro y hy hp
      have := (fIdx_iff oddP st).2 ⟨y, hy, hp⟩
      omega
    rw [h0]
    split <;> split <;> omega
  · have e : oddS st = (fIdx oddP st, st.getD (fIdx oddP st).toNat 0, true) := if_neg ho
    rw [e] at h4
    have h5 := h4 rfl
    have hp : oddP st[x.member.toNat] = true := by
      have h6 : st.findIdx? oddP = some x.member.toNat := by
        unfold fIdx at h5 ho
        split at h5
        · rename_i i hi
          rw [hi]
          simp at h5
          congr 1
          omega
        · simp at h5; omega
      exact (List.findIdx?_eq_some_iff_getElem.1 h6).2.1
    rw [if_pos hp]
    split <;> omega
theorem DS_unw {zs : List Zn} (h : DS zs) : DS (zs.map unw) := by
  unfold DS at *
  rw [List.pairwise_map]
  exact h
theorem DS_set {zs : List Zn} {j : Nat} {z z' : Zn} (h : DS zs) (hz : zs[j]? = some z) (h' : z'.slot = -1 ∨ z'.slot = z.slot ∨ ∀ y ∈ zs, y.slot ≠ z'.slot) : DS (zs.set j z') := by
  unfold DS at *
  rw [List.pairwise_iff_getElem] at *
  obtain ⟨hj, hz⟩ := List.getElem?_eq_some_iff.1 hz
  intro a b ha hb hab
  rw [List.length_set] at ha hb
  have hab' := h a b ha hb hab
  rw [List.getElem_set, List.getElem_set]
  split
  · rename_i e
    subst e
    rw [if_neg (by omega)]
    intro e
    rcases h' with h' | h' | h'
    · omega
    · rw [hz] at hab'; exact hab' (by omega)
    · exact absurd e.symm (h' _ (List.getElem_mem hb))
  · split
    · rename_i e
      subst e
      intro e
      rcases h' with h' | h' | h'
      · exact h'
      · rw [hz] at hab'; rw [h'] at e ⊢; exact hab' e
      · exact absurd e (h' _ (List.getElem_mem ha))
    · exact hab'
theorem last2_mem {l : List Pr} {p : Pr} (h : p ∈ last2 l) : p ∈ l := List.mem_of_mem_drop h
theorem last2_two (l : List Pr) : (last2 l).length ≤ 2 := by unfold last2; rw [List.length_drop]; omega
theorem RZ_step {c : Cf} {zs : List Zn} {rb : Bool} {z z' : Zn} {x : Rc} (h : RZ c rb z) (hz : z ∈ zs) (hs : stepZ c zs rb z x = some z') : RZ c rb z' ∧ (z'.slot = -1 ∨ z'.slot = z.slot ∨ ∀ y ∈ zs, y.slot ≠ z'.slot) := by
  obtain ⟨h1, h2, h3, h4, h5, h6, h7, h8⟩ := h
  by_cases k1 : x.kind = 1
  · rw [stepZ_1 k1] at hs
    split at hs
    · rename_i hz1
      cases hs
      obtain ⟨a1, a2, a3, a4⟩ := hz1
      rw [freeZ_mem] at a4
      have a5 : ∀ y ∈ zs, y.slot ≠ x.slot := by
        intro y hy e
        have := (hasZ_seen zs x.slot).2 ⟨y, hy, e⟩
        rw [a4.2] at this
        cases this
      refine ⟨⟨h1, ⟨by show -1 ≤ x.slot; omega, a4.1.2⟩, h3, fun hw => ⟨(h4 hw).1, by show x.slot ≠ -1; omega⟩, fun hw => ⟨by show x.slot ≠ -1; omega, hw⟩, h6, fun _ => by show x.slot ≠ -1; omega, h8⟩, .inr (.inr a5)⟩
    · cases hs
  by_cases k2 : x.kind = 2
  · rw [stepZ_2 k2] at hs
    split at hs
    · rename_i hz1
      cases hs
      obtain ⟨a1, a2⟩ := hz1
      refine ⟨⟨⟨by show 0 ≤ x.gen; omega, a2⟩, ⟨by show (-1 : Int) ≤ -1; omega, by have := slots_bd c; show (-1 : Int) < _; omega⟩, ⟨by show (0 : Int) ≤ 0; omega, by show (0 : Int) ≤ sizeC c; omega⟩, fun hw => by simp at hw, fun hw => by simp at hw, by simp, fun hw => by simp at hw, fun p hp => by simp at hp⟩, .inl rfl⟩
    · cases hs
  by_cases k3 : x.kind = 3
  · rw [stepZ_3 k3] at hs
    split at hs
    · rename_i hz1
      cases hs
      obtain ⟨a1, a2, a3⟩ := hz1
      refine ⟨⟨h1, h2, a2, fun hw => ⟨rfl, fun e => by have := a3 e; have : 0 < x.w := hw; omega⟩, h5, h6, h7, h8⟩, .inr (.inl rfl)⟩
    · cases hs
  by_cases k4 : x.kind = 4
  · rw [stepZ_4 k4] at hs
    split at hs
    · rename_i hz1
      cases hs
      obtain ⟨a1, a2, a3, a4, a5⟩ := hz1
      refine ⟨⟨h1, h2, h3, h4, h5, last2_two _, fun _ => a1, fun p hp => ?_⟩, .inr (.inl rfl)⟩
      rcases List.mem_append.1 (last2_mem hp) with hp | hp
      · exact h8 p hp
      · rw [List.mem_singleton.1 hp]; exact ⟨a4, a5⟩
    · cases hs
  by_cases k5 : x.kind = 5
  · rw [stepZ_5 k5] at hs
    split at hs
    · rename_i hz1
      cases hs
      exact ⟨⟨h1, h2, h3, h4, fun _ => hz1, h6, h7, h8⟩, .inr (.inl rfl)⟩
    · cases hs
  rw [stepZ_no k1 k2 k3 k4 k5] at hs
  cases hs
/-- A record keeps a state right. -/
theorem RS_step {s t : St} {x : Rc} (h : RS s) (hg : Goes s x) (ht : stepS s x = some t) : RS t := by
  obtain ⟨h1, h2, h3, h4, h5, h6, h7, h8, h9⟩ := h
  obtain ⟨g1, g2, g3⟩ := hg
  by_cases hk : x.kind = 6
  · rw [stepS_st hk] at ht
    split at ht
    · rename_i ho
      cases ht
      refine ⟨h1, h2, ⟨by show 0 ≤ x.seq; omega, g3⟩, by show ((s.st.set _ _).length : Int) = _; rw [List.length_set]; exact h4, by show ((s.zs.map unw).length : Int) = _; rw [List.length_map]; exact h5, ?_, odd_set h7 ho, ?_, DS_unw h9⟩
      · intro n hn
        rcases List.mem_or_eq_of_mem_set hn with hn | rfl
        · exact h6 n hn
        · exact ho.2.1
      · intro z hz
        obtain ⟨y, hy, rfl⟩ := List.mem_map.1 hz
        exact RZ_unw (h8 y hy)
    · cases ht
  · by_cases hzn : 0 ≤ x.zone ∧ x.zone < s.zs.length
    · obtain ⟨z, hz⟩ : ∃ z, s.zs[x.zone.toNat]? = some z := ⟨_, List.getElem?_eq_getElem (by omega)⟩
      rw [stepS_zn hk hzn hz, Option.map_eq_some_iff] at ht
      obtain ⟨z', hz', rfl⟩ := ht
      have hm := List.mem_of_getElem? hz
      obtain ⟨r1, r2⟩ := RZ_step (h8 z hm) hm hz'
      refine ⟨h1, h2, ⟨by show 0 ≤ x.seq; omega, g3⟩, h4, by show ((s.zs.set _ _).length : Int) = _; rw [List.length_set]; exact h5, h6, h7, ?_, DS_set h9 hz r2⟩
      intro y hy
      rcases List.mem_or_eq_of_mem_set hy with hy | rfl
      · exact h8 y hy
      · exact r1
    · rw [stepS_no hk hzn] at ht
      cases ht
theorem stepS_c {s t : St} {x : Rc} (ht : stepS s x = some t) : t.c = s.c := by
  unfold stepS at ht
  repeat' split at ht
  all_goals first | (cases ht; done) | (cases ht; rfl) | (rw [Option.map_eq_some_iff] at ht; obtain ⟨z', _, rfl⟩ := ht; rfl)
/-- A record more: the state behind it. -/
def nextS (s : St) (x : Rc) : St := if (applyS s x).2 = 0 then (applyS s x).1 else s
theorem RS_new {c : Cf} (h : chkC c = 0) : RS (newS c) := by
  have hk := chkC_ok h
  have hm := hk.2.1
  have hz : 0 ≤ c.zon := by unfold okC at hk; omega
  have hb := slots_bd c
  refine ⟨h, ⟨by show (1 : Int) ≤ 1; omega, by show (1 : Int) ≤ _; omega⟩, ⟨by show (0 : Int) ≤ 0; omega, by show (0 : Int) ≤ _; omega⟩, ?_, ?_, ?_, ?_, ?_, ?_⟩
  · show ((List.replicate c.mem.toNat (0 : Int)).length : Int) = c.mem
    rw [List.length_replicate]; omega
  · show ((List.replicate c.zon.toNat z0).length : Int) = c.zon
    rw [List.length_replicate]; omega
  · intro n hn
    rw [List.eq_of_mem_replicate hn]; omega
  · show (List.replicate c.mem.toNat (0 : Int)).countP oddP ≤ 1
    rw [List.countP_replicate, if_neg (by decide)]; omega
  · intro z hz'
    rw [List.eq_of_mem_replicate hz']
    have hs : 0 ≤ sizeC c := (size_bd c).2.2.2.2.1
    exact ⟨by decide, ⟨by decide, by show (-1 : Int) < slotsC c; omega⟩, ⟨by decide, hs⟩, fun hw => by simp [z0] at hw, fun hw => by simp [z0] at hw, by decide, fun hw => by simp [z0] at hw, fun p hp => by simp [z0] at hp⟩
  · show DS (List.replicate c.zon.toNat z0)
    unfold DS
    rw [List.pairwise_replicate]
    exact .inr fun _ => rfl
/-- The record as the state wants it. -/
def atS (s : St) (x : Rc) : Rc := { x with epoch := s.ep, seq := s.sq + 1 }
/-- The state behind so many records. -/
def runS (s : St) (l : List Rc) : Nat → St
  | 0 => s
  | i + 1 => match l[i]? with
    | some x => nextS (runS s l i) (atS (runS s l i) x)
    | none => runS s l i
theorem RS_few {s : St} (h : RS s) : s.st.length ≤ 16 ∧ s.zs.length ≤ 64 ∧ (∀ z ∈ s.zs, z.pars.length ≤ 2) ∧ ∀ z ∈ s.zs, ∀ p ∈ z.pars, p.b.length ≤ 140737488355328 := by
  obtain ⟨h1, h2, h3, h4, h5, h6, h7, h8, h9⟩ := h
  have hk := chkC_ok h1
  have hu := hk.2.2.1
  have hb := hk.2.2.2.1
  refine ⟨by have := hk.2.1; omega, by unfold okC at hk; omega, fun z hz => (h8 z hz).2.2.2.2.2.1, fun z hz p hp => ?_⟩
  have hp := (h8 z hz).2.2.2.2.2.2.2 p hp
  have h10 : s.c.unit * s.c.blk ≤ 64 * 4096 := Int.mul_le_mul hu.2 hb.2 (by omega) (by omega)
  have := hp.2
  omega
end Go.Proofs.YtjklgbafnfoolaaGreat.AmF
namespace Go.Proofs.YtjklgbafnfoolaaGreat.AmF
open Go Go.AM
set_option maxRecDepth 100000
set_option linter.unusedSimpArgs false
set_option linter.unusedVariables false
def ckR (s : St) (m : Int) : Rc := ⟨0, s.ep, s.sq, 0, 0, 0, 0, m, 0, encSt s⟩
/-- A checkpoint's bytes. -/
def firstB (s : St) (m : Int) : List Int := if RS s ∧ 0 ≤ m ∧ m < s.c.mem then putR (ckR s m) s.c.blk else []
def nextB (s : St) (x : Rc) : List Int := if RS s then putR (atS s x) s.c.blk else []
/-- The state of a first record. -/
def chkP (x : Rc) (c : Cf) (m : Int) : St × Bool := if x.kind ≠ 0 ∨ x.member ≠ m then (St0, false) else ((getS x.body).1, decide ((getS x.body).2 = 0 ∧ (getS x.body).1.c = c ∧ (getS x.body).1.ep = x.epoch ∧ (getS x.body).1.sq = x.seq))
/-- Records behind so many blocks, as far as they follow. -/
def folN (b : List Int) (k : Int) : Nat → St → Int → Int → St × Int × Int
  | 0, s, cnt, n => (s, cnt, n)
  | f + 1, s, cnt, n => if (getR (b.drop (n * k).toNat) k).2.2 ≠ 0 then (s, cnt, n) else if (applyS s (getR (b.drop (n * k).toNat) k).1).2 ≠ 0 then (s, cnt, n) else folN b k f (applyS s (getR (b.drop (n * k).toNat) k).1).1 (cnt + 1) (n + (getR (b.drop (n * k).toNat) k).2.1)
section
variable {b : List Int} {k : Int} {f : Nat} {s t : St} {cnt n m e e' : Int} {x : Rc}
theorem folN_1 (h : getR (b.drop (n * k).toNat) k = (x, m, e)) (he : e ≠ 0) : folN b k (f + 1) s cnt n = (s, cnt, n) := by rw [folN, h, if_pos he]
theorem folN_2 (h : getR (b.drop (n * k).toNat) k = (x, m, 0)) (ha : applyS s x = (t, e)) (he : e ≠ 0) : folN b k (f + 1) s cnt n = (s, cnt, n) := by
  rw [folN, h, if_neg (by simp)]
  dsimp only
  rw [ha, if_pos he]
theorem folN_3 (h : getR (b.drop (n * k).toNat) k = (x, m, 0)) (ha : applyS s x = (t, 0)) : folN b k (f + 1) s cnt n = folN b k f t (cnt + 1) (n + m) := by
  rw [folN, h, if_neg (by simp)]
  dsimp only
  rw [ha, if_neg (by simp)]
end
/-- What bytes say: the state, how many records, how many blocks; the error. -/
def logS (b : List Int) (c : Cf) (m : Int) : (St × Int × Int) × Int :=
  if chkC c ≠ 0 then ((St0, 0, 0), 1)
  else if (getR b c.blk).2.2 ≠ 0 then ((St0, 0, 0), (getR b c.blk).2.2)
  else if (chkP (getR b c.blk).1 c m).2 = false then ((St0, 0, 0), 13)
  else (folN b c.blk (b.length + 1) (chkP (getR b c.blk).1 c m).1 0 (getR b c.blk).2.1, 0)
section
variable {b : List Int} {c : Cf} {m n e : Int} {x : Rc} {s : St}
theorem logS_1 (h : chkC c ≠ 0) : logS b c m = ((St0, 0, 0), 1) := if_pos h
theorem logS_2 (h : chkC c = 0) (hg : getR b c.blk = (x, n, e)) (he : e ≠ 0) : logS b c m = ((St0, 0, 0), e) := by
  unfold logS; rw [if_neg (by simpa using h), hg, if_pos he]
theorem logS_3 (h : chkC c = 0) (hg : getR b c.blk = (x, n, 0)) (hp : chkP x c m = (s, false)) : logS b c m = ((St0, 0, 0), 13) := by
  unfold logS; rw [if_neg (by simpa using h), hg, if_neg (by simp)]
  dsimp only
  rw [hp, if_pos rfl]
theorem logS_4 (h : chkC c = 0) (hg : getR b c.blk = (x, n, 0)) (hp : chkP x c m = (s, true)) : logS b c m = (folN b c.blk (b.length + 1) s 0 n, 0) := by
  unfold logS; rw [if_neg (by simpa using h), hg, if_neg (by simp)]
  dsimp only
  rw [hp, if_neg (by simp)]
end
theorem rb_sub {l : List Int} {p : Nat} {e m : Int} : (∀ x ∈ (rb l p e m).2.2, x ∈ l) ∧ (rb l p e m).2.2.length ≤ l.length := by
  unfold rb
  split
  · exact ⟨fun x hx => by simp at hx, by simp⟩
  · split
    · exact ⟨fun x hx => by simp at hx, by simp⟩
    · exact ⟨fun x hx => List.mem_of_mem_drop (List.mem_of_mem_take hx), by simp; omega⟩
/-- A record got: its blocks lie in the bytes, and so does its text. -/
theorem getR_in {l : List Int} {k : Int} (hB : Bytes l) : ((getR l k).2.2 = 0 → (1 ≤ k ∧ k ≤ 4096) ∧ 1 ≤ (getR l k).2.1 ∧ (getR l k).2.1 * k ≤ l.length) ∧ Bytes (getR l k).1.body ∧ (getR l k).1.body.length ≤ l.length := by
  have h0 : Bytes rc0.body ∧ rc0.body.length ≤ l.length := ⟨Bytes.nil, Nat.zero_le _⟩
  by_cases h : 1 ≤ k ∧ k ≤ 4096
  · by_cases h2 : l.length < 16
    · rw [getR_2 h h2]; exact ⟨fun h => by simp at h, h0⟩
    · by_cases h3 : (gQ1 l).2.1 ≠ 0
      · rw [getR_3 h h2 h3]; exact ⟨fun h => by simp at h, h0⟩
      · by_cases h4 : gM l k * k > l.length
        · rw [getR_4 h h2 h3 h4]; exact ⟨fun h => by simp at h, h0⟩
        · by_cases h5 : (gQ1 l).2.2 ≠ crcV (gP l)
          · rw [getR_5 h h2 h3 h4 h5]; exact ⟨fun h => by simp at h, h0⟩
          · by_cases h6 : ¬ (parOk (gP l) ∧ zeroB (gT l k) = true)
            · rw [getR_6 h h2 h3 h4 h5 h6]; exact ⟨fun h => by simp at h, h0⟩
            · rw [getR_7 h h2 h3 h4 h5 (Decidable.not_not.1 h6)]
              have hm := gM_bd (l := l) h
              have hn := gN_bd (l := l)
              have hs := rb_sub (l := gP l) (p := (rdF (gP l) rLo rHi 9).1) (e := (rdF (gP l) rLo rHi 9).2) (m := 1048576)
              have hPB : Bytes (gP l) := (hB.take _).drop _
              have hPl : (gP l).length ≤ l.length := by unfold gP; rw [List.length_drop, List.length_take]; omega
              refine ⟨fun _ => ⟨h, ?_, by dsimp only; omega⟩, fun x hx => hPB x (hs.1 x hx), Nat.le_trans hs.2 hPl⟩
              dsimp only
              rcases Int.lt_or_le (gM l k) 1 with h7 | h7
              · have h8 : gM l k = 0 := by omega
                rw [h8] at hm
                omega
              · exact h7
  · rw [getR_1 h]; exact ⟨fun h => by simp at h, h0⟩
theorem apply_right {s t : St} {x : Rc} (h : RS s) (ha : applyS s x = (t, 0)) : RS t ∧ t.c = s.c := by
  by_cases hgo : Goes s x
  · cases hst : stepS s x with
    | none => rw [applyS_bad h hgo hst] at ha; cases ha
    | some u =>
      rw [applyS_ok h hgo hst] at ha
      cases ha
      exact ⟨RS_step h hgo hst, stepS_c hst⟩
  · rw [applyS_form h hgo] at ha; cases ha
/-- A state that is got is right. -/
theorem getS_right (b : List Int) (h0 : (getS b).2 = 0) : RS (getS b).1 := by
  by_cases h : b.length < 88
  · rw [getS_1 h] at h0; exact absurd h0 (by decide)
  · obtain ⟨⟨c, ce⟩, hc⟩ : ∃ q, getC (b.take 88) = q := ⟨_, rfl⟩
    by_cases h2 : ce ≠ 0 ∨ chkC c ≠ 0
    · rw [getS_2 h hc h2] at h0; exact absurd h0 (by decide)
    · obtain ⟨rfl, hck⟩ : ce = 0 ∧ chkC c = 0 := by omega
      obtain ⟨⟨s, p, e⟩, hb⟩ : ∃ q, bodyS (b.drop 88) c = q := ⟨_, rfl⟩
      by_cases he : e ≠ 0
      · rw [getS_3 h hc hck hb he] at h0; exact absurd h0 he
      · obtain rfl : e = 0 := by omega
        by_cases h4 : p < (b.drop 88).length ∨ ¬ RS s
        · rw [getS_4 h hc hck hb h4] at h0; exact absurd h0 (by decide)
        · rw [getS_5 h hc hck hb h4]
          exact Decidable.byContradiction fun hr => h4 (.inr hr)
end Go.Proofs.YtjklgbafnfoolaaGreat.AmF
namespace Go.Proofs.YtjklgbafnfoolaaGreat.AmF
open Go Go.AM
set_option maxRecDepth 100000
set_option linter.unusedSimpArgs false
set_option linter.unusedVariables false
theorem drop_le {l x r : List Int} {p : Nat} (h : l.drop p = x ++ r) (hx : 0 < x.length) : p ≤ l.length := by
  rcases Nat.lt_or_ge l.length p with h1 | h1
  · rw [List.drop_eq_nil_of_le (by omega)] at h
    have := congrArg List.length h
    simp at this
    omega
  · exact h1
theorem drop_more {l x r : List Int} {p n : Nat} (h : l.drop p = x ++ r) (hn : n = x.length) : l.drop (p + n) = r := by
  rw [← List.drop_drop, h, hn, List.drop_left]
theorem ri_drop {l r : List Int} {p : Nat} {v lo hi : Int} (h : l.drop p = enc v 8 ++ r) (hv : lo ≤ v ∧ v ≤ hi) (hI : I64 v) : ri l p 0 lo hi = (p + 8, 0, v) ∧ l.drop (p + 8) = r := by
  have hp := drop_le h (by rw [enc_len]; omega)
  refine ⟨?_, drop_more h (enc_len v 8).symm⟩
  have h1 := ri_enc (l := l) (a := l.take p) (b := r) (lo := lo) (hi := hi) (p := p) (by simp; omega) (by rw [← h, List.take_append_drop]) hI
  rw [h1, if_neg (by omega), if_neg (by omega)]
theorem rf_drop {l r : List Int} {p : Nat} {f : Bool} (h : l.drop p = flagB f ++ r) : rf l p 0 = (p + 1, 0, f) ∧ l.drop (p + 1) = r := by
  have hp := drop_le h (by simp [flagB])
  refine ⟨?_, drop_more h (by simp [flagB])⟩
  have h1 := rf_enc (l := l) (a := l.take p) (b := r) (c := if f = true then 1 else 0) (p := p) (by simp; omega) (by
    have e : (if f = true then (1 : Int) else 0) :: r = flagB f ++ r := rfl
    rw [e, ← h, List.take_append_drop])
  rw [h1]
  cases f <;> rfl
theorem rb_drop {l r x : List Int} {p : Nat} {m : Int} (h : l.drop p = enc x.length 8 ++ (x ++ r)) (hx : (x.length : Int) ≤ m) (hx' : x.length ≤ 140737488355328) : rb l p 0 m = (p + 8 + x.length, 0, x) ∧ l.drop (p + 8 + x.length) = r := by
  have hp := drop_le h (by rw [enc_len]; omega)
  refine ⟨rb_enc (l := l) (a := l.take p) (b := r) (p := p) (by simp; omega) (by rw [← h, List.take_append_drop]) hx hx', ?_⟩
  exact drop_more (drop_more h (enc_len _ 8).symm) rfl
theorem I64_of {v : Int} (h : -4611686018427387904 ≤ v ∧ v ≤ 4611686018427387904) : I64 v := ⟨by omega, by omega⟩
theorem pgK_drop {l r : List Int} {p : Nat} {ps : List Pr} (h : l.drop p = encPs ps ++ r) (hps : ∀ q ∈ ps, (0 ≤ q.w ∧ q.w ≤ 1099511627776) ∧ q.b.length ≤ 1048576) : ∀ i, i ≤ ps.length → ∃ p', pgK l p 0 i = (ps.take i, p', 0) ∧ l.drop p' = encPs (ps.drop i) ++ r
  | 0, _ => ⟨p, rfl, h⟩
  | i + 1, hi => by
    obtain ⟨p', h1, h2⟩ := pgK_drop h hps i (by omega)
    obtain ⟨q, hq⟩ : ∃ q, ps[i]? = some q := ⟨_, List.getElem?_eq_getElem (by omega)⟩
    have hqq : ps[i] = q := (List.getElem?_eq_some_iff.1 hq).2
    have hm := hps q (List.mem_of_getElem? hq)
    have e : ps.drop i = q :: ps.drop (i + 1) := by rw [List.drop_eq_getElem_cons (by omega), hqq]
    rw [e, encPs, encP, List.append_assoc, List.append_assoc] at h2
    obtain ⟨a1, a2⟩ := ri_drop (lo := 0) (hi := 1099511627776) h2 hm.1 (I64_of (by omega))
    rw [List.append_assoc] at a2
    obtain ⟨b1, b2⟩ := rb_drop (m := 1048576) a2 (by omega) (by omega)
    refine ⟨p' + 8 + 8 + q.b.length, ?_, b2⟩
    rw [pgK_succ h1 a1 b1, take_succ_get hq]
/-- A zone that may be read. -/
def ZG (z : Zn) : Prop := (0 ≤ z.gen ∧ z.gen ≤ 1099511627776) ∧ (-1 ≤ z.slot ∧ z.slot ≤ 64) ∧ (0 ≤ z.w ∧ z.w ≤ 1099511627776) ∧ z.pars.length ≤ 2 ∧ ∀ q ∈ z.pars, (0 ≤ q.w ∧ q.w ≤ 1099511627776) ∧ q.b.length ≤ 1048576
theorem zget_drop {l r : List Int} {p : Nat} {z : Zn} (h : l.drop p = encZ z ++ r) (hz : ZG z) : ∃ p', zget l p 0 = (z, p', 0) ∧ l.drop p' = r := by
  obtain ⟨z1, z2, z3, z4, z5⟩ := hz
  rw [encZ, headZ] at h
  simp only [List.append_assoc] at h
  obtain ⟨a1, a2⟩ := ri_drop (lo := 0) (hi := 1099511627776) h z1 (I64_of (by omega))
  obtain ⟨b1, b2⟩ := ri_drop (lo := -1) (hi := 64) a2 z2 (I64_of (by omega))
  obtain ⟨c1, c2⟩ := rf_drop b2
  obtain ⟨d1, d2⟩ := ri_drop (lo := 0) (hi := 1099511627776) c2 z3 (I64_of (by omega))
  obtain ⟨e1, e2⟩ := rf_drop d2
  obtain ⟨f1, f2⟩ := ri_drop (lo := 0) (hi := 2) e2 (by omega) (I64_of (by omega))
  obtain ⟨p', g1, g2⟩ := pgK_drop f2 z5 z.pars.length (Nat.le_refl _)
  rw [List.drop_length, List.take_length] at *
  refine ⟨p', ?_, g2⟩
  unfold zget
  simp only [a1, b1, c1, d1, e1, f1, Int.toNat_natCast, g1]
theorem stK_drop {l r : List Int} {p : Nat} {st : List Int} (h : l.drop p = encs st ++ r) (hst : ∀ n ∈ st, 0 ≤ n ∧ n ≤ 2) : ∀ i, i ≤ st.length → ∃ p', stK l p 0 i = (st.take i, p', 0) ∧ l.drop p' = encs (st.drop i) ++ r
  | 0, _ => ⟨p, rfl, h⟩
  | i + 1, hi => by
    obtain ⟨p', h1, h2⟩ := stK_drop h hst i (by omega)
    obtain ⟨q, hq⟩ : ∃ q, st[i]? = some q := ⟨_, List.getElem?_eq_getElem (by omega)⟩
    have hqq : st[i] = q := (List.getElem?_eq_some_iff.1 hq).2
    have hm := hst q (List.mem_of_getElem? hq)
    have e : st.drop i = q :: st.drop (i + 1) := by rw [List.drop_eq_getElem_cons (by omega), hqq]
    rw [e, encs, List.append_assoc] at h2
    obtain ⟨a1, a2⟩ := ri_drop (lo := 0) (hi := 2) h2 hm (I64_of (by omega))
    exact ⟨p' + 8, by rw [stK_succ h1 a1, take_succ_get hq], a2⟩
theorem zsK_drop {l r : List Int} {p : Nat} {zs : List Zn} (h : l.drop p = encZs zs ++ r) (hzs : ∀ z ∈ zs, ZG z) : ∀ i, i ≤ zs.length → ∃ p', zsK l p 0 i = (zs.take i, p', 0) ∧ l.drop p' = encZs (zs.drop i) ++ r
  | 0, _ => ⟨p, rfl, h⟩
  | i + 1, hi => by
    obtain ⟨p', h1, h2⟩ := zsK_drop h hzs i (by omega)
    obtain ⟨q, hq⟩ : ∃ q, zs[i]? = some q := ⟨_, List.getElem?_eq_getElem (by omega)⟩
    have hqq : zs[i] = q := (List.getElem?_eq_some_iff.1 hq).2
    have hm := hzs q (List.mem_of_getElem? hq)
    have e : zs.drop i = q :: zs.drop (i + 1) := by rw [List.drop_eq_getElem_cons (by omega), hqq]
    rw [e, encZs, List.append_assoc] at h2
    obtain ⟨p2, a1, a2⟩ := zget_drop h2 hm
    exact ⟨p2, by rw [zsK_succ h1 a1, take_succ_get hq], a2⟩
theorem size_small {c : Cf} (h : okC c) : 0 ≤ sizeC c ∧ sizeC c ≤ 3932160 := by
  have hs := okC_sane h
  have h1 : 0 ≤ stripesC c ∧ stripesC c ≤ 4096 := by
    unfold stripesC
    rw [if_pos hs]
    have hu := h.2.2.1
    have hc := h.2.2.2.2.1
    exact ⟨Int.ediv_nonneg (by omega) (by omega), Int.le_trans (Int.ediv_le_self _ (by omega)) (by omega)⟩
  have h2 : 0 ≤ rowC c ∧ rowC c ≤ 15 * 64 := by
    unfold rowC
    rw [if_pos hs]
    have hu := h.2.2.1
    have hm := h.2.1
    exact ⟨Int.mul_nonneg (by omega) (by omega), Int.mul_le_mul (by omega) (by omega) (by omega) (by omega)⟩
  unfold sizeC
  refine ⟨Int.mul_nonneg h1.1 h2.1, ?_⟩
  have := Int.mul_le_mul h1.2 h2.2 h2.1 (by omega)
  omega
theorem RZ_ZG {c : Cf} {rb : Bool} {z : Zn} (hc : okC c) (h : RZ c rb z) : ZG z := by
  obtain ⟨h1, h2, h3, h4, h5, h6, h7, h8⟩ := h
  have hs := size_small hc
  have hsl : slotsC c = c.zon + c.spa := by unfold slotsC; rw [if_pos (okC_sane hc)]
  have hsl2 : slotsC c ≤ 64 := by unfold okC at hc; omega
  refine ⟨h1, ⟨h2.1, by omega⟩, ⟨h3.1, by omega⟩, h6, fun q hq => ?_⟩
  obtain ⟨⟨g1, g2⟩, g3⟩ := h8 q hq
  have hu := hc.2.2.1
  have hb := hc.2.2.2.1
  have h10 : c.unit * c.blk ≤ 64 * 4096 := Int.mul_le_mul hu.2 hb.2 (by omega) (by omega)
  exact ⟨⟨by omega, by omega⟩, by omega⟩
theorem bodyS_drop {l : List Int} {s : St} (hrs : RS s) (h : l = (enc s.ep 8 ++ enc s.sq 8) ++ (encs s.st ++ encZs s.zs)) : ∃ p, bodyS l s.c = (s, p, 0) ∧ l.drop p = [] := by
  obtain ⟨r1, r2, r3, r4, r5, r6, r7, r8, r9⟩ := hrs
  have hk := chkC_ok r1
  have h0 : l.drop 0 = enc s.ep 8 ++ (enc s.sq 8 ++ (encs s.st ++ (encZs s.zs ++ []))) := by rw [List.drop_zero, h]; simp
  obtain ⟨a1, a2⟩ := ri_drop (lo := 0) (hi := 1099511627776) h0 (by omega) (I64_of (by omega))
  obtain ⟨b1, b2⟩ := ri_drop (lo := 0) (hi := 1099511627776) a2 (by omega) (I64_of (by omega))
  obtain ⟨p3, c1, c2⟩ := stK_drop b2 r6 s.st.length (Nat.le_refl _)
  rw [List.drop_length, List.take_length] at *
  obtain ⟨p4, d1, d2⟩ := zsK_drop c2 (fun z hz => RZ_ZG hk (r8 z hz)) s.zs.length (Nat.le_refl _)
  rw [List.drop_length, List.take_length] at *
  refine ⟨p4, ?_, d2⟩
  have e5 : s.c.mem.toNat = s.st.length := by omega
  have e6 : s.c.zon.toNat = s.zs.length := by omega
  unfold bodyS
  simp only [a1, b1, e5, c1, e6, d1]
/-- What is put is got. -/
theorem getS_put {s : St} (hrs : RS s) : getS (encSt s) = (s, 0) := by
  have hk := chkC_ok hrs.1
  have hl := headS_len s
  have hlen : ¬ (encSt s).length < 88 := by rw [encSt, List.length_append]; omega
  have h88 : (encs s.c.l).length = 88 := by rw [encs_len]; rfl
  have hsplit : encSt s = encs s.c.l ++ ((enc s.ep 8 ++ enc s.sq 8) ++ (encs s.st ++ encZs s.zs)) := by rw [encSt, headS, List.append_assoc]
  have ht : (encSt s).take 88 = encs s.c.l := by rw [hsplit]; exact List.take_left' h88
  have hd : (encSt s).drop 88 = (enc s.ep 8 ++ enc s.sq 8) ++ (encs s.st ++ encZs s.zs) := by rw [hsplit]; exact List.drop_left' h88
  have hr : ∀ x ∈ s.c.l, -4611686018427387904 ≤ x ∧ x ≤ 4611686018427387904 := by
    intro x hx
    unfold okC at hk
    simp only [Cf.l, List.mem_cons, List.not_mem_nil, or_false] at hx
    rcases hx with rfl | rfl | rfl | rfl | rfl | rfl | rfl | rfl | rfl | rfl | rfl <;> omega
  have hc : getC ((encSt s).take 88) = (s.c, 0) := by
    rw [ht]
    refine (getC_put (fun x hx => I64_of (hr x hx))).1 ?_
    rw [List.all_eq_true]
    intro x hx
    exact decide_eq_true (hr x hx)
  obtain ⟨p, hb, hp⟩ := bodyS_drop hrs hd
  refine getS_5 hlen hc hrs.1 hb ?_
  intro h
  rcases h with h | h
  · have := List.drop_eq_nil_iff.1 hp
    omega
  · exact h hrs
theorem flagB_bytes (f : Bool) : Bytes (flagB f) := by
  intro x hx
  rw [List.mem_singleton.1 hx]
  cases f <;> decide
theorem encPs_bytes : ∀ l : List Pr, (∀ p ∈ l, Bytes p.b) → Bytes (encPs l)
  | [], _ => Bytes.nil
  | p :: l, h => ((enc_bytes _ _).append ((enc_bytes _ _).append (h p (List.mem_cons_self ..)))).append (encPs_bytes l fun q hq => h q (List.mem_cons_of_mem _ hq))
theorem encZs_bytes : ∀ zs : List Zn, (∀ z ∈ zs, ∀ p ∈ z.pars, Bytes p.b) → Bytes (encZs zs)
  | [], _ => Bytes.nil
  | z :: zs, h => (((enc_bytes _ _).append ((enc_bytes _ _).append ((flagB_bytes _).append ((enc_bytes _ _).append ((flagB_bytes _).append (enc_bytes _ _)))))).append (encPs_bytes z.pars (h z (List.mem_cons_self ..)))).append (encZs_bytes zs fun y hy => h y (List.mem_cons_of_mem _ hy))
theorem encSt_bytes {s : St} (h : ∀ z ∈ s.zs, ∀ p ∈ z.pars, Bytes p.b) : Bytes (encSt s) :=
  ((encs_bytes _).append ((enc_bytes _ _).append (enc_bytes _ _))).append ((encs_bytes _).append (encZs_bytes _ h))
end Go.Proofs.YtjklgbafnfoolaaGreat.AmF
namespace Go.Proofs.YtjklgbafnfoolaaGreat.AmF
open Go Go.AM
set_option maxRecDepth 100000
set_option linter.unusedSimpArgs false
set_option linter.unusedVariables false
attribute [local simp] tkeep tget tput ev cav argsTM pickA normT putA splice AV.cells ints_length rowsA_length enc_len
theorem rdF_encs {L rest : List Int} {lo hi : Nat → Int} (hI : ∀ x ∈ L, I64 x) (hb : ∀ i v, L[i]? = some v → lo i ≤ v ∧ v ≤ hi i) : ∀ n, n ≤ L.length →
    rdF (encs L ++ rest) lo hi n = (8 * n, 0) ∧ ∀ j, j < n → rdFV (encs L ++ rest) lo hi j = L.getD j 0
  | 0, _ => ⟨rfl, fun j hj => absurd hj (Nat.not_lt_zero _)⟩
  | n + 1, h => by
    obtain ⟨h1, h2⟩ := rdF_encs (rest := rest) hI hb n (by omega)
    obtain ⟨x, hx⟩ : ∃ x, L[n]? = some x := ⟨_, List.getElem?_eq_getElem (by omega)⟩
    have hr := ri_encs (rest := rest) (lo := lo n) (hi := hi n) hx (hI x (List.mem_of_getElem? hx))
    have hbx := hb n x hx
    have hno : ¬ (x < lo n ∨ hi n < x) := by omega
    rw [if_neg hno, if_neg hno] at hr
    have hgd : L.getD n 0 = x := by rw [List.getD_eq_getElem?_getD, hx]; rfl
    refine ⟨?_, fun j hj => ?_⟩
    · show ((ri _ (rdF (encs L ++ rest) lo hi n).1 (rdF (encs L ++ rest) lo hi n).2 (lo n) (hi n)).1, (ri _ (rdF (encs L ++ rest) lo hi n).1 (rdF (encs L ++ rest) lo hi n).2 (lo n) (hi n)).2.1) = _
      rw [h1, hr]
      rfl
    · rcases Nat.lt_or_ge j n with hjn | hjn
      · exact h2 j hjn
      · obtain rfl : j = n := by omega
        show (ri _ (rdF (encs L ++ rest) lo hi j).1 (rdF (encs L ++ rest) lo hi j).2 (lo j) (hi j)).2.2 = _
        rw [h1, hr, hgd]
theorem pad_len {n k : Nat} (hk : 1 ≤ k) : n + (k - n % k) % k = (n + k - 1) / k * k := by
  have h1 := Nat.div_add_mod n k
  have h2 := Nat.mod_lt n (show k > 0 by omega)
  generalize n / k = q at h1
  generalize hr : n % k = r at h1 h2
  rcases Nat.eq_zero_or_pos r with h0 | h0
  · rw [h0, Nat.sub_zero, Nat.mod_self]
    have : n + k - 1 = (k - 1) + k * q := by omega
    rw [this, Nat.add_mul_div_left _ _ (by omega), Nat.div_eq_of_lt (by omega), Nat.zero_add, Nat.mul_comm]
    omega
  · rw [Nat.mod_eq_of_lt (a := k - r) (by omega)]
    have : n + k - 1 = (r - 1) + k * (q + 1) := by rw [Nat.mul_add]; omega
    rw [this, Nat.add_mul_div_left _ _ (by omega), Nat.div_eq_of_lt (by omega), Nat.zero_add, Nat.mul_comm, Nat.mul_add]
    omega
theorem zeroB_rep (n : Nat) : zeroB (List.replicate n 0) = true := by simp [zeroB]
theorem PR_I64 {x : Rc} (h : PR x) : ∀ v ∈ x.l, I64 v := by
  intro v hv
  obtain ⟨i, hi⟩ := List.getElem?_of_mem hv
  have h1 := PR_nine hi h
  have h5 : -1 ≤ v := by
    rcases h1.2 with h2 | h2
    · omega
    · subst h2
      simp [Rc.l] at hi
      subst hi
      unfold PR at h
      omega
  exact ⟨by omega, by omega⟩
theorem parse_pay {x : Rc} (h : PR x) : parOk (payR x) ∧ xr (payR x) = x := by
  have hb : ∀ i v, x.l[i]? = some v → rLo i ≤ v ∧ v ≤ rHi i := by
    intro i v hv
    have hi : i < 9 := (List.getElem?_eq_some_iff.1 hv).1
    unfold PR at h
    match i, hi with
    | 0, _ | 1, _ | 2, _ | 3, _ | 4, _ | 5, _ | 6, _ | 7, _ | 8, _ => simp [Rc.l] at hv; subst hv; simp [rLo, rHi]; omega
  have hbl : x.body.length ≤ 1048576 := by unfold PR at h; omega
  obtain ⟨k, hk⟩ : ∃ k, x.l.length = k := ⟨_, rfl⟩
  have hk9 : 9 = k := hk
  have hd := rdF_encs (rest := enc x.body.length 8 ++ x.body) (lo := rLo) (hi := rHi) (PR_I64 h) hb k (Nat.le_of_eq hk.symm)
  have hlen : (encs x.l).length = 8 * k := by rw [encs_len, hk]
  have he : payR x = encs x.l ++ (enc x.body.length 8 ++ x.body) := by simp [payR]
  have hl := payR_len x
  rw [← he] at hd
  have hrb := rb_enc (l := payR x) (a := encs x.l) (b := []) (x := x.body) (m := 1048576) (p := 8 * k) hlen.symm (by rw [he]; simp) (by omega) (by omega)
  have hgd : ∀ j, j < k → rdFV (payR x) rLo rHi j = x.l.getD j 0 := hd.2
  have hd1 := hd.1
  subst hk9
  have hB : rBody (payR x) = (72 + 8 + x.body.length, 0, x.body) := by
    unfold rBody
    rw [hd1]
    exact hrb
  refine ⟨⟨by rw [hB], by rw [hB, hl]⟩, ?_⟩
  have e : ∀ (f : Nat → Int) (b : List Int), (∀ j, j < 9 → f j = x.l.getD j 0) → b = x.body → (⟨f 0, f 1, f 2, f 3, f 4, f 5, f 6, f 7, f 8, b⟩ : Rc) = x := by
    intro f b hf hb
    cases x
    simp only [Rc.mk.injEq]
    exact ⟨hf 0 (by decide), hf 1 (by decide), hf 2 (by decide), hf 3 (by decide), hf 4 (by decide), hf 5 (by decide), hf 6 (by decide), hf 7 (by decide), hf 8 (by decide), hb⟩
  exact e (rdFV (payR x) rLo rHi) _ hgd (by rw [hB])
theorem getR_put {x : Rc} {k : Int} {more : List Int} (h : PR x) (hk : 1 ≤ k ∧ k ≤ 4096) : getR (putR x k ++ more) k = (x, ((putR x k).length : Int) / k, 0) ∧ ((putR x k).length : Int) / k * k = (putR x k).length := by
  rw [putR_good ⟨h, hk⟩]
  obtain ⟨hpo, hxr⟩ := parse_pay h
  have hpl := payR_len x
  have hbl : x.body.length ≤ 1048576 := by unfold PR at h; omega
  obtain ⟨n, rfl⟩ := Int.eq_ofNat_of_zero_le (show 0 ≤ k by omega)
  generalize payR x = p at hpo hxr hpl
  have hcb := crcV_bd p
  have hhl := headR_len p
  obtain ⟨z, hz⟩ : ∃ z, (n - (headR p ++ p).length % n) % n = z := ⟨_, rfl⟩
  have hpad : padL (headR p ++ p) (n : Int).toNat = (headR p ++ p) ++ List.replicate z 0 := by unfold padL; rw [Int.toNat_natCast, hz]
  have hlen : (16 + p.length) + z = (16 + p.length + n - 1) / n * n := by
    rw [← hz, List.length_append, hhl]
    exact pad_len (by omega)
  rw [hpad]
  obtain ⟨l, hl⟩ : ∃ l, (headR p ++ p) ++ List.replicate z 0 ++ more = l := ⟨_, rfl⟩
  have hbl2 : ((headR p ++ p) ++ List.replicate z 0).length = 16 + p.length + z := by simp [hhl]; omega
  have ht16 : l.take 16 = headR p := by
    rw [← hl, List.append_assoc, List.append_assoc]
    exact List.take_left' hhl
  have q0 : gQ0 l = (8, 0, (p.length : Int)) := by
    have := ri_enc (l := headR p) (a := []) (b := enc (crcV p) 8) (v := p.length) (lo := 0) (hi := 1048656) (p := 0) rfl rfl ⟨by omega, by omega⟩
    unfold gQ0
    rw [ht16, this]
    have hc : ¬ ((p.length : Int) < 0 ∨ 1048656 < (p.length : Int)) := by omega
    rw [if_neg hc, if_neg hc]
  have q1 : gQ1 l = (16, 0, crcV p) := by
    have := ri_enc (l := headR p) (a := enc p.length 8) (b := []) (v := crcV p) (lo := -9223372036854775808) (hi := 9223372036854775807) (p := 8) (by simp) (by simp [headR]) ⟨by omega, by omega⟩
    unfold gQ1
    rw [ht16, q0, this]
    have hc : ¬ (crcV p < -9223372036854775808 ∨ 9223372036854775807 < crcV p) := by omega
    rw [if_neg hc, if_neg hc]
  have hgN : gN l = p.length := by unfold gN; rw [q0]
  have hgM : gM l n = ((16 + p.length + n - 1) / n : Nat) := by
    unfold gM
    rw [hgN]
    have : (16 : Int) + p.length + n - 1 = ((16 + p.length + n - 1 : Nat) : Int) := by omega
    rw [this]
    simp
  have hmk : gM l n * n = (16 + p.length + z : Nat) := by
    rw [hgM, ← Int.natCast_mul, ← hlen]
  have hgP : gP l = p := by
    unfold gP
    rw [hgN]
    have e1 : ((16 : Int) + p.length).toNat = 16 + p.length := by omega
    have e2 : l.take (16 + p.length) = headR p ++ p := by
      rw [← hl, List.append_assoc]
      exact List.take_left' (by simp [hhl])
    rw [e1, e2]
    exact List.drop_left' hhl
  have hgT : gT l n = List.replicate z 0 := by
    unfold gT
    rw [hgN, hmk]
    have e1 : ((16 : Int) + p.length).toNat = 16 + p.length := by omega
    have e2 : l.take (16 + p.length + z) = (headR p ++ p) ++ List.replicate z 0 := by
      rw [← hl]
      exact List.take_left' (by simp [hhl]; omega)
    rw [e1, Int.toNat_natCast, e2]
    exact List.drop_left' (by simp [hhl])
  have hll : 16 + p.length + z ≤ l.length := by
    rw [← hl, List.length_append, hbl2]
    omega
  have hq : (((headR p ++ p) ++ List.replicate z 0).length : Int) / n = gM l n := by
    rw [hbl2, ← hmk]
    exact Int.mul_ediv_cancel _ (by omega)
  rw [hq, hbl2, hmk, hl]
  refine ⟨?_, rfl⟩
  rw [getR_7 hk (by omega) (by rw [q1]; simp) (by rw [hmk]; omega) (by rw [q1, hgP]; simp) ⟨by rw [hgP]; exact hpo, by rw [hgT]; exact zeroB_rep z⟩, hgP, hxr]
end Go.Proofs.YtjklgbafnfoolaaGreat.AmF
namespace Go.Proofs.YtjklgbafnfoolaaGreat.AmF
open Go Go.AM
set_option maxRecDepth 100000
set_option linter.unusedSimpArgs false
set_option linter.unusedVariables false
theorem PR_ck {s : St} {m : Int} (hrs : RS s) (hm : 0 ≤ m ∧ m < s.c.mem) (hl : (encSt s).length ≤ 1048576) : PR (ckR s m) := by
  obtain ⟨r1, r2, r3, _⟩ := hrs
  have hk := (chkC_ok r1).2.1
  unfold PR ckR
  dsimp only
  refine ⟨by omega, by omega, by omega, by omega, by omega, by omega, by omega, by omega, by omega, hl⟩
theorem chkP_ck {s : St} {m : Int} (hrs : RS s) : chkP (ckR s m) s.c m = (s, true) := by
  unfold chkP
  rw [if_neg (by simp [ckR])]
  show ((getS (encSt s)).1, decide ((getS (encSt s)).2 = 0 ∧ (getS (encSt s)).1.c = s.c ∧ (getS (encSt s)).1.ep = s.ep ∧ (getS (encSt s)).1.sq = s.sq)) = _
  rw [getS_put hrs]
  simp
theorem getR_none {k : Int} (hk : 1 ≤ k ∧ k ≤ 4096) : getR [] k = (rc0, 0, 14) := getR_2 hk (by decide)
/-- A checkpoint alone is read as its state. -/
theorem logS_first {s : St} {m : Int} (hrs : RS s) (hm : 0 ≤ m ∧ m < s.c.mem) (hl : (encSt s).length ≤ 1048576) : logS (firstB s m) s.c m = ((s, 0, ((firstB s m).length : Int) / s.c.blk), 0) ∧ ((firstB s m).length : Int) / s.c.blk * s.c.blk = (firstB s m).length := by
  have hck := hrs.1
  have hk := (chkC_ok hck).2.2.2.1
  have hkk : 1 ≤ s.c.blk ∧ s.c.blk ≤ 4096 := hk
  have e : firstB s m = putR (ckR s m) s.c.blk := if_pos ⟨hrs, hm⟩
  obtain ⟨g1, g2⟩ := getR_put (more := []) (PR_ck hrs hm hl) hkk
  rw [List.append_nil] at g1
  rw [e]
  refine ⟨?_, g2⟩
  rw [logS_4 hck g1 (chkP_ck hrs)]
  have hd : (putR (ckR s m) s.c.blk).drop (((putR (ckR s m) s.c.blk).length : Int) / s.c.blk * s.c.blk).toNat = [] := List.drop_eq_nil_of_le (by rw [g2]; omega)
  have h14 := getR_none hkk
  rw [← hd] at h14
  rw [folN_1 h14 (by decide)]
def cf12 : Cf := ⟨1, 3, 1, 64, 16, 1, 1, 3, 1, 1, 5⟩
theorem cf12_ok : chkC cf12 = 0 := by decide +kernel
theorem enc12 : (encSt (newS cf12)).length ≤ 1000000 := by decide +kernel
theorem enc12' : (encSt (newS cf12)).length ≤ 1048576 := Nat.le_trans enc12 (by decide)
theorem first12 : logS (firstB (newS cf12) 2) cf12 2 = ((newS cf12, 0, ((firstB (newS cf12) 2).length : Int) / 64), 0) ∧ ((firstB (newS cf12) 2).length : Int) / 64 * 64 = (firstB (newS cf12) 2).length := logS_first (RS_new cf12_ok) (by decide) enc12'
theorem first12_pos : 0 < (firstB (newS cf12) 2).length := by
  have e : firstB (newS cf12) 2 = putR (ckR (newS cf12) 2) 64 := if_pos ⟨RS_new cf12_ok, by decide⟩
  have h := (getR_in (l := firstB (newS cf12) 2) (k := 64))
  obtain ⟨g1, g2⟩ := getR_put (more := []) (k := 64) (PR_ck (RS_new cf12_ok) (m := 2) (by decide) enc12') (by decide)
  rw [List.append_nil] at g1
  rcases Nat.eq_zero_or_pos (firstB (newS cf12) 2).length with h0 | h0
  · have h1 : putR (ckR (newS cf12) 2) 64 = [] := by rw [← e]; exact List.eq_nil_of_length_eq_zero h0
    rw [h1, getR_none (by decide)] at g1
    have := congrArg (fun q => q.2.2) g1
    exact absurd this (by decide)
  · exact h0
theorem putR_bytes {x : Rc} {k : Int} (h : Bytes x.body) : Bytes (putR x k) := by
  unfold putR
  split
  · refine ((((enc_bytes _ _).append (enc_bytes _ _)).append (payR_bytes h)).append ?_)
    intro y hy
    rw [List.eq_of_mem_replicate hy]
    decide
  · exact Bytes.nil
theorem first12_bytes : Bytes (firstB (newS cf12) 2) := by
  have e : firstB (newS cf12) 2 = putR (ckR (newS cf12) 2) 64 := if_pos ⟨RS_new cf12_ok, by decide⟩
  rw [e]
  exact putR_bytes (encSt_bytes fun z hz p hp => by rw [show z = z0 from List.eq_of_mem_replicate hz] at hp; simp [z0] at hp)
theorem first12_len : (firstB (newS cf12) 2).length ≤ 2000000 := by
  have e : firstB (newS cf12) 2 = putR (ckR (newS cf12) 2) 64 := if_pos ⟨RS_new cf12_ok, by decide⟩
  rw [e]
  exact putR_len _ _
theorem log12_nil : logS [] cf12 2 = ((St0, 0, 0), 14) := logS_2 cf12_ok (getR_none (by decide)) (by decide)
end Go.Proofs.YtjklgbafnfoolaaGreat.AmF
namespace Go.AM
open Go
set_option linter.unusedSimpArgs false
set_option linter.unusedVariables false
section
variable {P : Program} {tm : TM} {H : Heap}
end
end Go.AM
namespace Go.AM
open Go
variable {D : List Deferred} {P : Program} {n k : Nat} {tm : TM} {H : Heap} {Q : Post}
def noG (Q : Post) : Post
  | .goto _ => fun _ _ => False
  | e => Q e
theorem T.scope {c : Code} (h : T D P n k c tm H (noG Q)) : T D P n k (.scope c) tm H Q := by
  intro g a hH hk hg ht
  refine wp_scope_straight (wp_mono (h g a hH hk hg ht) fun e a' w' he => ?_)
  obtain ⟨tm', g', h1, h2, h3, h4, h5, h6⟩ := he
  cases e with
  | goto l => exact h2.elim
  | _ => exact ⟨tm', g', h1, h2, h3, h4, h5, h6⟩
end Go.AM
namespace Go.Proofs.YtjklgbafnfoolaaGreat.AmF
open Go Go.AM
set_option maxRecDepth 100000
set_option maxHeartbeats 4000000
set_option linter.unusedSimpArgs false
set_option linter.unusedVariables false
attribute [local simp] tkeep tget tput ev cav argsTM pickA normT putA splice AV.cells ints_length rowsA_length Prs_len Zns_len
theorem schange_ok (s : St) (x : Rc) (j : Nat) (z : Zn) (hz : s.zs[j]? = some z) (hck : chkC s.c = 0) (hzg : 0 ≤ z.gen ∧ z.gen ≤ 1099511627776) (hn : s.st.length ≤ 1000000000) (hm : s.zs.length ≤ 1000000000) (hp : z.pars.length ≤ 1000000) (hb : x.body.length ≤ 140737488355328) : CSpec Tryz.prog 69 [⟨1, true, ints .i64 s.st⟩, ZR s.zs j (ZnS z (.sl 2 0 z.pars.length)), ⟨2, true, Prs z.pars⟩] [.agg (StS s (.sl 0 0 s.st.length) (.sl 1 0 s.zs.length)), .ref 1 j 0, .agg (RcC x)] [some ⟨1, true, ints .i64 s.st⟩, some ⟨6, true, Zns (s.zs.set j ((stepZ s.c s.zs (decide (2 ∈ s.st)) z x).getD z))⟩, none] (.b (stepZ s.c s.zs (decide (2 ∈ s.st)) z x).isSome) := by
 have hj : j < s.zs.length := (List.getElem?_eq_some_iff.1 hz).1
 have hsz := (size_bd s.c).2.2.2.2
 have hfl : (freeZ s.c s.zs).length ≤ 140737488355328 := freeZ_len _ _
 refine CSpec.body Tryz.func69 rfl rfl rfl rfl rfl fun Q hQ => ?_
 refine T.seq fun K1 hK1 => ?_
 refine T.region ?_
 refine rs rfl rfl (ok_box (n := 15) rfl rfl (by decide)) ?_
 refine rs rfl rfl (ok_box (n := 10) rfl rfl (by decide)) ?_
 refine rs rfl rfl (ok_moveb (c := false) (.inr rfl) rfl) ?_
 refine ro_nil ?_
 refine keepK hK1 [1, 3, 5] (by dsimp) (by dsimp) ?_
 refine T.seq fun K2 hK2 => ?_
 refine T.region ?_
 refine rs rfl rfl (ok_fieldAddr rfl ti_api_State rfl rfl ti_Lint (by decide) rfl) ?_
 refine rs rfl rfl (ok_load rfl ti_Lint rfl rfl) ?_
 refine ro rfl rfl (ok_call rfl rfl rfl ((contains_ok s.st 2 (by omega)).lendV (EntL.cons (Ent.lent 0 1 (ints .i64 s.st) rfl (by simp)) (EntL.refl _)) (by simp [renL, AV.ren, renL_ints]))) ?_
 refine rs rfl rfl (ok_move (.inr rfl)) ?_
 refine ro_nil ?_
 refine keepK hK2 [1, 3, 5, 7] (by dsimp) (by dsimp) ?_
 refine T.seq fun K3 hK3 => ?_
 refine T.region ?_
 refine rs rfl rfl (ok_fieldAddr rfl ti_api_State rfl rfl ti_api_Conf (by decide) rfl) ?_
 refine rs rfl rfl (ok_load rfl ti_api_Conf rfl rfl) ?_
 refine ro rfl rfl (ok_call rfl rfl rfl ((size_ok s.c).plain (by show renL _ [.agg (CC s.c)] = _; simp [renL, AV.ren, CC_ren]) rfl)) ?_
 refine rs rfl rfl (ok_move (.inr rfl)) ?_
 refine ro_nil ?_
 refine keepK hK3 [1, 3, 5, 7, 8] (by dsimp) (by dsimp) ?_
 refine T.seq fun K4 hK4 => ?_
 refine T.seq fun K5 hK5 => ?_
 refine T.region ?_
 refine rs rfl rfl (ok_fieldAddr rfl ti_api_Rec rfl rfl ti_int (by decide) rfl) ?_
 refine rs rfl rfl (ok_load rfl ti_int rfl rfl) ?_
 refine ro_nil ?_
 refine keepK hK5 [1, 3, 5, 7, 8, 16] (by dsimp) (by dsimp) ?_
 refine T.block ?_
 refine T.seq fun K6 hK6 => ?_
 refine T.block ?_
 refine T.block ?_
 refine T.seq fun K7 hK7 => ?_
 refine T.block ?_
 refine T.seq fun K8 hK8 => ?_
 refine T.block ?_
 refine T.seq fun K9 hK9 => ?_
 refine T.block ?_
 refine T.seq fun K10 hK10 => ?_
 refine T.block ?_
 refine T.seq fun K11 hK11 => ?_
 refine T.block ?_
 refine T.seq fun K12 hK12 => ?_
 refine T.seq fun K13 hK13 => ?_
 refine T.seq fun K14 hK14 => ?_
 refine T.region ?_
 refine rs rfl rfl (ok_binOp rfl ti_int rfl) ?_
 refine rs rfl rfl (ok_move (.inr rfl)) ?_
 refine ro_nil ?_
 refine keepK hK14 [1, 3, 5, 7, 8, 16, 17] (by dsimp) (by dsimp) ?_
 refine T.cond rfl (fun hc => ?_) (fun hc => ?_) -- cond 1
 ·(try simp only [dE] at hc)
  refine T.exit ?_
  refine keepK hK11 [1, 3, 5, 7] (by dsimp) (by dsimp) ?_
  refine T.seq fun K15 hK15 => ?_
  refine T.seq fun K16 hK16 => ?_
  refine T.seq fun K17 hK17 => ?_
  refine T.drawH mixed [] ?_
  refine any_take 0 rfl (by first | rfl | decide +kernel) rfl (HeldL.refl _) (fun H' hH => OpOk.step (ok_move (.inl rfl))) ?_
  refine any_take 1 rfl (by first | rfl | decide +kernel) rfl (HeldL.refl _) (fun H' hH => OpOk.step (ok_nilCheck rfl rfl)) ?_
  refine any_take 2 rfl (by first | rfl | decide +kernel) rfl (HeldL.refl _) (fun H' hH => OpOk.step (ok_fieldAddr rfl ti_api_Zone rfl rfl ti_int (by decide) rfl)) ?_
  refine any_take 3 rfl (by first | rfl | decide +kernel) rfl (HeldL.refl _) (fun H' hH => OpOk.step (by exact ok_load rfl ti_int (cl := ZnS z (.sl 2 0 z.pars.length)) (f := 1) (locA_held hH (ZR_loc hj rfl)) rfl)) ?_
  refine any_take 4 rfl (by first | rfl | decide +kernel) rfl (HeldL.refl _) (fun H' hH => OpOk.step (ok_binOp rfl ti_int rfl)) ?_
  refine any_take_case 5 rfl (by first | rfl | decide +kernel) rfl (HeldL.refl _) (fun H' hH => OpOk.step (ok_moveb (.inl rfl) rfl)) (fun hb => ?_) (fun hb => ?_)
  ·(try simp only [dE] at hb)
   refine any_skip 6 rfl (by first | rfl | decide +kernel) rfl (HeldL.refl _) ?_
   refine any_skip 7 rfl (by first | rfl | decide +kernel) rfl (HeldL.refl _) ?_
   refine any_skip 8 rfl (by first | rfl | decide +kernel) rfl (HeldL.refl _) ?_
   refine any_skip 9 rfl (by first | rfl | decide +kernel) rfl (HeldL.refl _) ?_
   refine any_take 10 rfl (by first | rfl | decide +kernel) rfl (HeldL.refl _) (fun H' hH => OpOk.step (ok_pickb (t := true) (d := true) rfl rfl rfl)) ?_
   refine any_take 11 rfl (by first | rfl | decide +kernel) rfl (HeldL.refl _) (fun H' hH => OpOk.step (ok_moveb (c := true) (.inl rfl) rfl)) ?_
   refine any_skip 12 rfl (by first | rfl | decide +kernel) rfl (HeldL.refl _) ?_
   refine any_skip 13 rfl (by first | rfl | decide +kernel) rfl (HeldL.refl _) ?_
   refine any_skip 14 rfl (by first | rfl | decide +kernel) rfl (HeldL.refl _) ?_
   refine any_skip 15 rfl (by first | rfl | decide +kernel) rfl (HeldL.refl _) ?_
   refine any_skip 16 rfl (by first | rfl | decide +kernel) rfl (HeldL.refl _) ?_
   refine any_skip 17 rfl (by first | rfl | decide +kernel) rfl (HeldL.refl _) ?_
   refine any_skip 18 rfl (by first | rfl | decide +kernel) rfl (HeldL.refl _) ?_
   refine any_take 19 rfl (by first | rfl | decide +kernel) rfl (HeldL.refl _) (fun H' hH => OpOk.step (ok_pickb (t := true) (d := true) rfl rfl rfl)) ?_
   refine any_take 20 rfl (by first | rfl | decide +kernel) rfl (HeldL.refl _) (fun H' hH => OpOk.step (ok_moveb (c := true) (.inl rfl) rfl)) ?_
   refine any_skip 21 rfl (by first | rfl | decide +kernel) rfl (HeldL.refl _) ?_
   refine any_skip 23 rfl (by first | rfl | decide +kernel) rfl (HeldL.refl _) ?_
   refine any_skip 24 rfl (by first | rfl | decide +kernel) rfl (HeldL.refl _) ?_
   refine any_one_skip 22 rfl (by first | rfl | decide +kernel) rfl rfl (.inr (HeldL.refl _)) ?_
   refine any_one_skip 25 rfl (by first | rfl | decide +kernel) rfl rfl (.inr (by first | exact HeldL.refl _ | exact HeldL.append _ _ | simp [HeldL])) ?_
   refine any_skip 26 rfl (by first | rfl | decide +kernel) rfl (by first | exact HeldL.refl _ | exact HeldL.append _ _ | simp [HeldL]) ?_
   refine any_take 27 rfl (by first | rfl | decide +kernel) rfl (by first | exact HeldL.refl _ | exact HeldL.append _ _ | simp [HeldL]) (fun H' hH => OpOk.step (ok_pickb (t := true) (d := true) rfl rfl rfl)) ?_
   refine any_done rfl ?_
   refine keepK hK17 [1, 5, 7, 56] (by dsimp) (by dsimp) ?_
   refine T.cond_true rfl ?_
   refine T.seq fun K18 hK18 => ?_
   refine T.region ?_
   refine rs rfl rfl (ok_moveb (c := false) (.inr rfl) rfl) ?_
   refine ro_nil ?_
   refine keepK hK18 [6] (by dsimp) (by dsimp) ?_
   refine T.ret (hQ _ _ _ rfl ?_).1 -- ret 1
   exact by (rw [stepZ_1 (by assumption), if_neg (by unfold Z1; intro h; obtain ⟨h1, h2, h3, h4⟩ := h; first | omega | (simp_all; done))]; exact ch_end (z' := z) (p := 2) (l := z.pars) hj rfl rfl rfl (by decide) (Ent.sl0 (b := ⟨2, false, Prs z.pars⟩) rfl rfl (by simp)) ⟨rfl, trivial⟩)
  ·(try simp only [dE] at hb)
   refine any_take 6 rfl (by first | rfl | decide +kernel) rfl (HeldL.refl _) (fun H' hH => OpOk.step (ok_move (.inl rfl))) ?_
   refine any_take 7 rfl (by first | rfl | decide +kernel) rfl (HeldL.refl _) (fun H' hH => OpOk.step (ok_nilCheck rfl rfl)) ?_
   refine any_take 8 rfl (by first | rfl | decide +kernel) rfl (HeldL.refl _) (fun H' hH => OpOk.step (ok_fieldAddr rfl ti_api_Zone rfl rfl ti_bool (by decide) rfl)) ?_
   refine any_take 9 rfl (by first | rfl | decide +kernel) rfl (HeldL.refl _) (fun H' hH => OpOk.step (by exact ok_load rfl ti_bool (cl := ZnS z (.sl 2 0 z.pars.length)) (f := 2) (locA_held hH (ZR_loc hj rfl)) rfl)) ?_
   refine any_take 10 rfl (by first | rfl | decide +kernel) rfl (HeldL.refl _) (fun H' hH => OpOk.step (ok_pick rfl rfl)) ?_
   refine any_take_case 11 rfl (by first | rfl | decide +kernel) rfl (HeldL.refl _) (fun H' hH => OpOk.step (ok_moveb (.inl rfl) rfl)) (fun hb => ?_) (fun hb => ?_)
   ·(try simp only [dE] at hb)
    refine any_skip 12 rfl (by first | rfl | decide +kernel) rfl (HeldL.refl _) ?_
    refine any_skip 13 rfl (by first | rfl | decide +kernel) rfl (HeldL.refl _) ?_
    refine any_skip 14 rfl (by first | rfl | decide +kernel) rfl (HeldL.refl _) ?_
    refine any_skip 15 rfl (by first | rfl | decide +kernel) rfl (HeldL.refl _) ?_
    refine any_skip 16 rfl (by first | rfl | decide +kernel) rfl (HeldL.refl _) ?_
    refine any_skip 17 rfl (by first | rfl | decide +kernel) rfl (HeldL.refl _) ?_
    refine any_skip 18 rfl (by first | rfl | decide +kernel) rfl (HeldL.refl _) ?_
    refine any_take 19 rfl (by first | rfl | decide +kernel) rfl (HeldL.refl _) (fun H' hH => OpOk.step (ok_pickb (t := true) (d := true) rfl rfl rfl)) ?_
    refine any_take 20 rfl (by first | rfl | decide +kernel) rfl (HeldL.refl _) (fun H' hH => OpOk.step (ok_moveb (c := true) (.inl rfl) rfl)) ?_
    refine any_skip 21 rfl (by first | rfl | decide +kernel) rfl (HeldL.refl _) ?_
    refine any_skip 23 rfl (by first | rfl | decide +kernel) rfl (HeldL.refl _) ?_
    refine any_skip 24 rfl (by first | rfl | decide +kernel) rfl (HeldL.refl _) ?_
    refine any_one_skip 22 rfl (by first | rfl | decide +kernel) rfl rfl (.inr (HeldL.refl _)) ?_
    refine any_one_skip 25 rfl (by first | rfl | decide +kernel) rfl rfl (.inr (by first | exact HeldL.refl _ | exact HeldL.append _ _ | simp [HeldL])) ?_
    refine any_skip 26 rfl (by first | rfl | decide +kernel) rfl (by first | exact HeldL.refl _ | exact HeldL.append _ _ | simp [HeldL]) ?_
    refine any_take 27 rfl (by first | rfl | decide +kernel) rfl (by first | exact HeldL.refl _ | exact HeldL.append _ _ | simp [HeldL]) (fun H' hH => OpOk.step (ok_pickb (t := true) (d := true) rfl rfl rfl)) ?_
    refine any_done rfl ?_
    refine keepK hK17 [1, 5, 7, 56] (by dsimp) (by dsimp) ?_
    refine T.cond_true rfl ?_
    refine T.seq fun K19 hK19 => ?_
    refine T.region ?_
    refine rs rfl rfl (ok_moveb (c := false) (.inr rfl) rfl) ?_
    refine ro_nil ?_
    refine keepK hK19 [6] (by dsimp) (by dsimp) ?_
    refine T.ret (hQ _ _ _ rfl ?_).1 -- ret 2
    exact by (rw [stepZ_1 (by assumption), if_neg (by unfold Z1; intro h; obtain ⟨h1, h2, h3, h4⟩ := h; first | omega | (simp_all; done))]; exact ch_end (z' := z) (p := 2) (l := z.pars) hj rfl rfl rfl (by decide) (Ent.sl0 (b := ⟨2, false, Prs z.pars⟩) rfl rfl (by simp)) ⟨rfl, trivial⟩)
   ·(try simp only [dE] at hb)
    refine any_take 12 rfl (by first | rfl | decide +kernel) rfl (HeldL.refl _) (fun H' hH => OpOk.step (ok_move (.inl rfl))) ?_
    refine any_take 13 rfl (by first | rfl | decide +kernel) rfl (HeldL.refl _) (fun H' hH => OpOk.step (ok_nilCheck rfl rfl)) ?_
    refine any_take 14 rfl (by first | rfl | decide +kernel) rfl (HeldL.refl _) (fun H' hH => OpOk.step (ok_fieldAddr rfl ti_api_Zone rfl rfl ti_int (by decide) rfl)) ?_
    refine any_take 15 rfl (by first | rfl | decide +kernel) rfl (HeldL.refl _) (fun H' hH => OpOk.step (by exact ok_load rfl ti_int (cl := ZnS z (.sl 2 0 z.pars.length)) (f := 0) (locA_held hH (ZR_loc hj rfl)) rfl)) ?_
    refine any_take 16 rfl (by first | rfl | decide +kernel) rfl (HeldL.refl _) (fun H' hH => OpOk.step (ok_fieldAddr rfl ti_api_Rec rfl rfl ti_int (by decide) rfl)) ?_
    refine any_take 17 rfl (by first | rfl | decide +kernel) rfl (HeldL.refl _) (fun H' hH => OpOk.step (ok_load rfl ti_int (locA_held hH rfl) rfl)) ?_
    refine any_take 18 rfl (by first | rfl | decide +kernel) rfl (HeldL.refl _) (fun H' hH => OpOk.step (ok_binOp rfl ti_int rfl)) ?_
    refine any_take 19 rfl (by first | rfl | decide +kernel) rfl (HeldL.refl _) (fun H' hH => OpOk.step (ok_pick rfl rfl)) ?_
    refine any_take_case 20 rfl (by first | rfl | decide +kernel) rfl (HeldL.refl _) (fun H' hH => OpOk.step (ok_moveb (.inl rfl) rfl)) (fun hb => ?_) (fun hb => ?_)
    ·(try simp only [dE] at hb)
     refine any_skip 21 rfl (by first | rfl | decide +kernel) rfl (HeldL.refl _) ?_
     refine any_skip 23 rfl (by first | rfl | decide +kernel) rfl (HeldL.refl _) ?_
     refine any_skip 24 rfl (by first | rfl | decide +kernel) rfl (HeldL.refl _) ?_
     refine any_one_skip 22 rfl (by first | rfl | decide +kernel) rfl rfl (.inr (HeldL.refl _)) ?_
     refine any_one_skip 25 rfl (by first | rfl | decide +kernel) rfl rfl (.inr (by first | exact HeldL.refl _ | exact HeldL.append _ _ | simp [HeldL])) ?_
     refine any_skip 26 rfl (by first | rfl | decide +kernel) rfl (by first | exact HeldL.refl _ | exact HeldL.append _ _ | simp [HeldL]) ?_
     refine any_take 27 rfl (by first | rfl | decide +kernel) rfl (by first | exact HeldL.refl _ | exact HeldL.append _ _ | simp [HeldL]) (fun H' hH => OpOk.step (ok_pickb (t := true) (d := true) rfl rfl rfl)) ?_
     refine any_done rfl ?_
     refine keepK hK17 [1, 5, 7, 56] (by dsimp) (by dsimp) ?_
     refine T.cond_true rfl ?_
     refine T.seq fun K20 hK20 => ?_
     refine T.region ?_
     refine rs rfl rfl (ok_moveb (c := false) (.inr rfl) rfl) ?_
     refine ro_nil ?_
     refine keepK hK20 [6] (by dsimp) (by dsimp) ?_
     refine T.ret (hQ _ _ _ rfl ?_).1 -- ret 3
     exact by (rw [stepZ_1 (by assumption), if_neg (by unfold Z1; intro h; obtain ⟨h1, h2, h3, h4⟩ := h; first | omega | (simp_all; done))]; exact ch_end (z' := z) (p := 2) (l := z.pars) hj rfl rfl rfl (by decide) (Ent.sl0 (b := ⟨2, false, Prs z.pars⟩) rfl rfl (by simp)) ⟨rfl, trivial⟩)
    ·(try simp only [dE] at hb)
     refine any_take 21 rfl (by first | rfl | decide +kernel) rfl (HeldL.refl _) (fun H' hH => OpOk.step (ok_load rfl ti_api_State (locA_held hH rfl) rfl)) ?_
     refine any_take 23 rfl (by first | rfl | decide +kernel) rfl (HeldL.refl _) (fun H' hH => OpOk.step (ok_fieldAddr rfl ti_api_Rec rfl rfl ti_int (by decide) rfl)) ?_
     refine any_take 24 rfl (by first | rfl | decide +kernel) rfl (HeldL.refl _) (fun H' hH => OpOk.step (ok_load rfl ti_int (locA_held hH rfl) rfl)) ?_
     refine any_one 22 rfl (by first | rfl | decide +kernel) rfl rfl (ok_call rfl rfl rfl ((free_new s (by omega)).lendR (R := [⟨1, true, ints .i64 (freeZ s.c s.zs)⟩]) (R' := [⟨1, true, ints .i64 (freeZ s.c s.zs)⟩]) (x' := .sl 5 0 (freeZ s.c s.zs).length) (EntL.cons (Ent.stz s hz rfl rfl rfl) EntL.nil) (by simp [renL, AV.ren, StC_ren]) (by simp [Blk.ren, renL_ints]) rfl rfl (by simp [nofzL_ints]))) (.inr (by first | (simp [HeldL]; done) | (simp only [dH]; (repeat' first | trivial | rfl | constructor)))) ?_
     refine any_one 25 rfl (by first | rfl | decide +kernel) rfl rfl (ok_call rfl rfl rfl ((contains_ok (freeZ s.c s.zs) x.slot hfl).lendV (EntL.cons (Ent.lent 5 1 (ints .i64 (freeZ s.c s.zs)) rfl (by simp)) (EntL.refl _)) (by simp [renL, AV.ren, renL_ints]))) (.inr (by first | (simp [HeldL]; done) | (simp only [dH]; (repeat' first | trivial | rfl | constructor)))) ?_
     refine any_take 26 rfl (by first | rfl | decide +kernel) rfl (by first | exact HeldL.refl _ | exact HeldL.append _ _ | simp [HeldL]) (fun H' hH => OpOk.step (ok_unOp rfl rfl)) ?_
     refine any_take 27 rfl (by first | rfl | decide +kernel) rfl (by first | exact HeldL.refl _ | exact HeldL.append _ _ | simp [HeldL]) (fun H' hH => OpOk.step (ok_pick rfl rfl)) ?_
     refine any_done rfl ?_
     refine keepK hK17 [1, 5, 7, 56] (by dsimp) (by dsimp) ?_
     refine T.cond rfl (fun hc => ?_) (fun hc => ?_) -- cond 2
     ·(try simp only [dE] at hc)
      refine T.seq fun K21 hK21 => ?_
      refine T.region ?_
      refine rs rfl rfl (ok_moveb (c := false) (.inr rfl) rfl) ?_
      refine ro_nil ?_
      refine keepK hK21 [6] (by dsimp) (by dsimp) ?_
      refine T.ret (hQ _ _ _ rfl ?_).1 -- ret 4
      exact by (rw [stepZ_1 (by assumption), if_neg (by unfold Z1; intro h; obtain ⟨h1, h2, h3, h4⟩ := h; first | omega | (simp_all; done))]; exact ch_end (z' := z) (p := 2) (l := z.pars) hj rfl rfl rfl (by decide) (Ent.sl0 (b := ⟨2, false, Prs z.pars⟩) rfl rfl (by simp)) ⟨rfl, trivial⟩)
     ·(try simp only [dE] at hc)
      refine T.skip ?_
      refine keepK hK16 [1, 5, 7] (by dsimp) (by dsimp) ?_
      refine T.region ?_
      refine rs rfl rfl (ok_move (.inl rfl)) ?_
      refine rs rfl rfl (ok_move (.inl rfl)) ?_
      refine rs rfl rfl (ok_fieldAddr rfl ti_api_Rec rfl rfl ti_int (by decide) rfl) ?_
      refine rs rfl rfl (ok_load rfl ti_int rfl rfl) ?_
      refine rs rfl rfl (ok_move (.inl rfl)) ?_
      refine rs rfl rfl (ok_nilCheck rfl rfl) ?_
      refine rs rfl rfl (ok_fieldAddr rfl ti_api_Zone rfl rfl ti_int (by decide) rfl) ?_
      refine rs rfl rfl ((ok_store rfl ti_int (by decide) (id := 1) (j := j) (f := 1) rfl rfl rfl (ZR_get hj) rfl (by show 1 + 1 ≤ 6; decide) (.inr rfl)).eq (x' := .any) (H'' := [some ⟨1, true, ints .i64 s.st⟩, some (ZR s.zs j (ZnS { z with slot := x.slot } (.sl 2 0 z.pars.length))), some ⟨2, true, Prs z.pars⟩, some (SB s (.sl 0 0 s.st.length) (.sl 1 0 s.zs.length)), some (RcB x), some ⟨1, true, ints .i64 (freeZ s.c s.zs)⟩]) rfl (by show [_, some (⟨6, true, (ZR s.zs j (ZnS z (.sl 2 0 z.pars.length))).els.set j (.agg (ZnS { z with slot := x.slot } (.sl 2 0 z.pars.length)))⟩ : Blk), _, _, _, _] = _; rw [ZR_set] <;> rfl)) ?_
      refine rs rfl rfl (ok_nilCheck rfl rfl) ?_
      refine rs rfl rfl (ok_fieldAddr rfl ti_api_Zone rfl rfl ti_bool (by decide) rfl) ?_
      refine rs rfl rfl ((ok_store rfl ti_bool (by decide) (id := 1) (j := j) (f := 4) rfl rfl rfl (ZR_get hj) rfl (by show 4 + 1 ≤ 6; decide) (.inr rfl)).eq (x' := .any) (H'' := [some ⟨1, true, ints .i64 s.st⟩, some (ZR s.zs j (ZnS { z with slot := x.slot, whole := decide (2 ∈ s.st) } (.sl 2 0 z.pars.length))), some ⟨2, true, Prs z.pars⟩, some (SB s (.sl 0 0 s.st.length) (.sl 1 0 s.zs.length)), some (RcB x), some ⟨1, true, ints .i64 (freeZ s.c s.zs)⟩]) rfl (by show [_, some (⟨6, true, (ZR s.zs j (ZnS { z with slot := x.slot } (.sl 2 0 z.pars.length))).els.set j (.agg (ZnS { z with slot := x.slot, whole := decide (2 ∈ s.st) } (.sl 2 0 z.pars.length)))⟩ : Blk), _, _, _, _] = _; rw [ZR_set] <;> rfl)) ?_
      refine ro_nil ?_
      refine keepK hK15 [] (by dsimp) (by dsimp) ?_
      refine T.exit ?_
      refine keepK hK4 [] (by dsimp) (by dsimp) ?_
      refine T.seq fun K22 hK22 => ?_
      refine T.region ?_
      refine rs rfl rfl (ok_moveb (c := true) (.inr rfl) rfl) ?_
      refine ro_nil ?_
      refine keepK hK22 [6] (by dsimp) (by dsimp) ?_
      refine T.ret (hQ _ _ _ rfl ?_).1 -- ret 5
      exact by (rw [stepZ_1 (by assumption), if_pos (by unfold Z1; refine ⟨?_, ?_, ?_, ?_⟩ <;> first | assumption | omega | (simp_all; done))]; exact ch_end (z' := { z with slot := x.slot, whole := decide (2 ∈ s.st) }) (p := 2) (l := z.pars) hj rfl rfl rfl (by decide) (Ent.sl0 (b := ⟨2, false, Prs z.pars⟩) rfl rfl (by simp)) ⟨rfl, trivial⟩)
 ·(try simp only [dE] at hc)
  refine T.skip ?_
  refine keepK hK13 [1, 3, 5, 7, 8, 16] (by dsimp) (by dsimp) ?_
  refine T.seq fun K23 hK23 => ?_
  refine T.seq fun K24 hK24 => ?_
  refine T.region ?_
  refine rs rfl rfl (ok_binOp rfl ti_int rfl) ?_
  refine rs rfl rfl (ok_move (.inr rfl)) ?_
  refine ro_nil ?_
  refine keepK hK24 [1, 3, 5, 7, 8, 16, 19] (by dsimp) (by dsimp) ?_
  refine T.cond rfl (fun hc => ?_) (fun hc => ?_) -- cond 3
  ·(try simp only [dE] at hc)
   refine T.exit ?_
   refine keepK hK10 [1, 5] (by dsimp) (by dsimp) ?_
   refine T.seq fun K25 hK25 => ?_
   refine T.seq fun K26 hK26 => ?_
   refine T.seq fun K27 hK27 => ?_
   refine T.drawH mixed [] ?_
   refine any_take 0 rfl (by first | rfl | decide +kernel) rfl (HeldL.refl _) (fun H' hH => OpOk.step (ok_fieldAddr rfl ti_api_Rec rfl rfl ti_int (by decide) rfl)) ?_
   refine any_take 1 rfl (by first | rfl | decide +kernel) rfl (HeldL.refl _) (fun H' hH => OpOk.step (ok_load rfl ti_int (locA_held hH rfl) rfl)) ?_
   refine any_take 2 rfl (by first | rfl | decide +kernel) rfl (HeldL.refl _) (fun H' hH => OpOk.step (ok_move (.inl rfl))) ?_
   refine any_take 3 rfl (by first | rfl | decide +kernel) rfl (HeldL.refl _) (fun H' hH => OpOk.step (ok_nilCheck rfl rfl)) ?_
   refine any_take 4 rfl (by first | rfl | decide +kernel) rfl (HeldL.refl _) (fun H' hH => OpOk.step (ok_fieldAddr rfl ti_api_Zone rfl rfl ti_int (by decide) rfl)) ?_
   refine any_take 5 rfl (by first | rfl | decide +kernel) rfl (HeldL.refl _) (fun H' hH => OpOk.step (by exact ok_load rfl ti_int (cl := ZnS z (.sl 2 0 z.pars.length)) (f := 0) (locA_held hH (ZR_loc hj rfl)) rfl)) ?_
   refine any_take 6 rfl (by first | rfl | decide +kernel) rfl (HeldL.refl _) (fun H' hH => OpOk.step (ok_add64 rfl ti_int rfl rfl (by omega) (by omega))) ?_
   refine any_take 7 rfl (by first | rfl | decide +kernel) rfl (HeldL.refl _) (fun H' hH => OpOk.step (ok_binOp rfl ti_int rfl)) ?_
   refine any_take_case 8 rfl (by first | rfl | decide +kernel) rfl (HeldL.refl _) (fun H' hH => OpOk.step (ok_moveb (.inl rfl) rfl)) (fun hb => ?_) (fun hb => ?_)
   ·(try simp only [dE] at hb)
    refine any_skip 9 rfl (by first | rfl | decide +kernel) rfl (HeldL.refl _) ?_
    refine any_skip 10 rfl (by first | rfl | decide +kernel) rfl (HeldL.refl _) ?_
    refine any_skip 11 rfl (by first | rfl | decide +kernel) rfl (HeldL.refl _) ?_
    refine any_take 12 rfl (by first | rfl | decide +kernel) rfl (HeldL.refl _) (fun H' hH => OpOk.step (ok_pickb (t := true) (d := true) rfl rfl rfl)) ?_
    refine any_done rfl ?_
    refine keepK hK27 [1, 5, 78] (by dsimp) (by dsimp) ?_
    refine T.cond_true rfl ?_
    refine T.seq fun K28 hK28 => ?_
    refine T.region ?_
    refine rs rfl rfl (ok_moveb (c := false) (.inr rfl) rfl) ?_
    refine ro_nil ?_
    refine keepK hK28 [6] (by dsimp) (by dsimp) ?_
    refine T.ret (hQ _ _ _ rfl ?_).1 -- ret 6
    exact by (rw [stepZ_2 (by assumption), if_neg (by unfold Z2; intro h; obtain ⟨h1, h2⟩ := h; first | omega | (simp_all; done))]; exact ch_end (z' := z) (p := 2) (l := z.pars) hj rfl rfl rfl (by decide) (Ent.sl0 (b := ⟨2, false, Prs z.pars⟩) rfl rfl (by simp)) ⟨rfl, trivial⟩)
   ·(try simp only [dE] at hb)
    refine any_take 9 rfl (by first | rfl | decide +kernel) rfl (HeldL.refl _) (fun H' hH => OpOk.step (ok_fieldAddr rfl ti_api_Rec rfl rfl ti_int (by decide) rfl)) ?_
    refine any_take 10 rfl (by first | rfl | decide +kernel) rfl (HeldL.refl _) (fun H' hH => OpOk.step (ok_load rfl ti_int (locA_held hH rfl) rfl)) ?_
    refine any_take 11 rfl (by first | rfl | decide +kernel) rfl (HeldL.refl _) (fun H' hH => OpOk.step (ok_binOp rfl ti_int rfl)) ?_
    refine any_take 12 rfl (by first | rfl | decide +kernel) rfl (HeldL.refl _) (fun H' hH => OpOk.step (ok_pick rfl rfl)) ?_
    refine any_done rfl ?_
    refine keepK hK27 [1, 5, 78] (by dsimp) (by dsimp) ?_
    refine T.cond rfl (fun hc => ?_) (fun hc => ?_) -- cond 4
    ·(try simp only [dE] at hc)
     refine T.seq fun K29 hK29 => ?_
     refine T.region ?_
     refine rs rfl rfl (ok_moveb (c := false) (.inr rfl) rfl) ?_
     refine ro_nil ?_
     refine keepK hK29 [6] (by dsimp) (by dsimp) ?_
     refine T.ret (hQ _ _ _ rfl ?_).1 -- ret 7
     exact by (rw [stepZ_2 (by assumption), if_neg (by unfold Z2; intro h; obtain ⟨h1, h2⟩ := h; first | omega | (simp_all; done))]; exact ch_end (z' := z) (p := 2) (l := z.pars) hj rfl rfl rfl (by decide) (Ent.sl0 (b := ⟨2, false, Prs z.pars⟩) rfl rfl (by simp)) ⟨rfl, trivial⟩)
    ·(try simp only [dE] at hc)
     refine T.skip ?_
     refine keepK hK26 [1, 5] (by dsimp) (by dsimp) ?_
     refine T.region ?_
     refine rs rfl rfl (ok_move (.inl rfl)) ?_
     refine rs rfl rfl (ok_fieldAddr rfl ti_api_Rec rfl rfl ti_int (by decide) rfl) ?_
     refine rs rfl rfl (ok_load rfl ti_int rfl rfl) ?_
     refine rs rfl rfl (ok_build rfl ti_api_Zone rfl) ?_
     refine rs rfl rfl (ok_nilCheck rfl rfl) ?_
     refine rs rfl rfl ((ok_store rfl ti_api_Zone (by decide) (id := 1) (j := j) (f := 0) rfl rfl rfl (ZR_get hj) rfl (by show 0 + 6 ≤ 6; decide) (.inl ⟨rfl, rfl⟩)).eq (x' := .any) (H'' := [some ⟨1, true, ints .i64 s.st⟩, some (ZR s.zs j (ZnS ⟨x.gen, -1, false, 0, false, []⟩ (.v (.slice none 0 0)))), some ⟨2, true, Prs z.pars⟩, some (SB s (.sl 0 0 s.st.length) (.sl 1 0 s.zs.length)), some (RcB x)]) rfl (by show [_, some (⟨6, true, (ZR s.zs j (ZnS z (.sl 2 0 z.pars.length))).els.set j (.agg (ZnS ⟨x.gen, -1, false, 0, false, []⟩ (.v (.slice none 0 0))))⟩ : Blk), _, _, _] = _; rw [ZR_set] <;> rfl)) ?_
     refine ro_nil ?_
     refine keepK hK25 [] (by dsimp) (by dsimp) ?_
     refine T.exit ?_
     refine keepK hK4 [] (by dsimp) (by dsimp) ?_
     refine T.seq fun K30 hK30 => ?_
     refine T.region ?_
     refine rs rfl rfl (ok_moveb (c := true) (.inr rfl) rfl) ?_
     refine ro_nil ?_
     refine keepK hK30 [6] (by dsimp) (by dsimp) ?_
     refine T.ret (hQ _ _ _ rfl ?_).1 -- ret 8
     exact by (rw [stepZ_2 (by assumption), if_pos (by unfold Z2; refine ⟨?_, ?_⟩ <;> first | assumption | omega | (simp_all; done))]; exact ch_end (z' := ⟨x.gen, -1, false, 0, false, []⟩) (p := 2) (l := z.pars) hj rfl rfl rfl (by decide) (Ent.nil 2) ⟨rfl, trivial⟩)
  ·(try simp only [dE] at hc)
   refine T.skip ?_
   refine keepK hK23 [1, 3, 5, 7, 8, 16] (by dsimp) (by dsimp) ?_
   refine T.seq fun K31 hK31 => ?_
   refine T.seq fun K32 hK32 => ?_
   refine T.region ?_
   refine rs rfl rfl (ok_binOp rfl ti_int rfl) ?_
   refine rs rfl rfl (ok_move (.inr rfl)) ?_
   refine ro_nil ?_
   refine keepK hK32 [1, 3, 5, 7, 8, 16, 21] (by dsimp) (by dsimp) ?_
   refine T.cond rfl (fun hc => ?_) (fun hc => ?_) -- cond 5
   ·(try simp only [dE] at hc)
    refine T.exit ?_
    refine keepK hK9 [1, 5, 8] (by dsimp) (by dsimp) ?_
    refine T.seq fun K33 hK33 => ?_
    refine T.seq fun K34 hK34 => ?_
    refine T.seq fun K35 hK35 => ?_
    refine T.region ?_
    refine rs rfl rfl (ok_move (.inl rfl)) ?_
    refine rs rfl rfl (ok_nilCheck rfl rfl) ?_
    refine rs rfl rfl (ok_fieldAddr rfl ti_api_Zone rfl rfl ti_bool (by decide) rfl) ?_
    refine rs rfl rfl (by exact ok_load rfl ti_bool (cl := ZnS z (.sl 2 0 z.pars.length)) (f := 2) (ZR_loc hj rfl) rfl) ?_
    refine ro_case rfl rfl (OpOk.step (ok_moveb (.inl rfl) rfl)) (fun hb => ?_) (fun hb => ?_)
    ·(try simp only [dE] at hb)
     refine ro_skip rfl rfl ?_
     refine ro_skip rfl rfl ?_
     refine ro_skip rfl rfl ?_
     refine ro_skip rfl rfl ?_
     refine ro_skip rfl rfl ?_
     refine rs rfl rfl (ok_pickb (t := true) (d := true) rfl rfl rfl) ?_
     refine rs rfl rfl (ok_moveb (c := true) (.inl rfl) rfl) ?_
     refine ro_skip rfl rfl ?_
     refine ro_skip rfl rfl ?_
     refine ro_skip rfl rfl ?_
     refine ro_skip rfl rfl ?_
     refine ro_skip rfl rfl ?_
     refine ro_skip rfl rfl ?_
     refine ro_skip rfl rfl ?_
     refine ro_skip rfl rfl ?_
     refine ro_skip rfl rfl ?_
     refine ro_skip rfl rfl ?_
     refine rs rfl rfl (ok_pickb (t := true) (d := true) rfl rfl rfl) ?_
     refine ro_nil ?_
     refine keepK hK35 [1, 5, 106] (by dsimp) (by dsimp) ?_
     refine T.cond_true rfl ?_
     refine T.seq fun K36 hK36 => ?_
     refine T.region ?_
     refine rs rfl rfl (ok_moveb (c := false) (.inr rfl) rfl) ?_
     refine ro_nil ?_
     refine keepK hK36 [6] (by dsimp) (by dsimp) ?_
     refine T.ret (hQ _ _ _ rfl ?_).1 -- ret 9
     exact by (rw [stepZ_3 (by assumption), if_neg (by unfold Z3; intro h; obtain ⟨h1, h2, h3⟩ := h; first | omega | (simp_all; done))]; exact ch_end (z' := z) (p := 2) (l := z.pars) hj rfl rfl rfl (by decide) (Ent.sl0 (b := ⟨2, false, Prs z.pars⟩) rfl rfl (by simp)) ⟨rfl, trivial⟩)
    ·(try simp only [dE] at hb)
     refine rs rfl rfl (ok_fieldAddr rfl ti_api_Rec rfl rfl ti_int (by decide) rfl) ?_
     refine rs rfl rfl (ok_load rfl ti_int rfl rfl) ?_
     refine rs rfl rfl (ok_move (.inl rfl)) ?_
     refine ro rfl rfl (ok_call rfl rfl rfl ((sin_ok x.w 0 (sizeC s.c)).plain rfl rfl)) ?_
     refine rs rfl rfl (ok_unOp rfl rfl) ?_
     refine rs rfl rfl (ok_pick rfl rfl) ?_
     refine ro_case rfl rfl (OpOk.step (ok_moveb (.inl rfl) rfl)) (fun hb => ?_) (fun hb => ?_)
     ·(try simp only [dE] at hb)
      refine ro_skip rfl rfl ?_
      refine ro_skip rfl rfl ?_
      refine ro_skip rfl rfl ?_
      refine ro_skip rfl rfl ?_
      refine ro_skip rfl rfl ?_
      refine ro_skip rfl rfl ?_
      refine ro_skip rfl rfl ?_
      refine ro_skip rfl rfl ?_
      refine ro_skip rfl rfl ?_
      refine ro_skip rfl rfl ?_
      refine rs rfl rfl (ok_pickb (t := true) (d := true) rfl rfl rfl) ?_
      refine ro_nil ?_
      refine keepK hK35 [1, 5, 106] (by dsimp) (by dsimp) ?_
      refine T.cond_true rfl ?_
      refine T.seq fun K37 hK37 => ?_
      refine T.region ?_
      refine rs rfl rfl (ok_moveb (c := false) (.inr rfl) rfl) ?_
      refine ro_nil ?_
      refine keepK hK37 [6] (by dsimp) (by dsimp) ?_
      refine T.ret (hQ _ _ _ rfl ?_).1 -- ret 10
      exact by (rw [stepZ_3 (by assumption), if_neg (by unfold Z3; intro h; obtain ⟨h1, h2, h3⟩ := h; first | omega | (simp_all; done))]; exact ch_end (z' := z) (p := 2) (l := z.pars) hj rfl rfl rfl (by decide) (Ent.sl0 (b := ⟨2, false, Prs z.pars⟩) rfl rfl (by simp)) ⟨rfl, trivial⟩)
     ·(try simp only [dE] at hb)
      refine rs rfl rfl (ok_move (.inl rfl)) ?_
      refine rs rfl rfl (ok_nilCheck rfl rfl) ?_
      refine rs rfl rfl (ok_fieldAddr rfl ti_api_Zone rfl rfl ti_int (by decide) rfl) ?_
      refine rs rfl rfl (by exact ok_load rfl ti_int (cl := ZnS z (.sl 2 0 z.pars.length)) (f := 1) (ZR_loc hj rfl) rfl) ?_
      refine rs rfl rfl (ok_binOp rfl ti_int rfl) ?_
      refine ro_case rfl rfl (OpOk.step (ok_moveb (.inl rfl) rfl)) (fun hb => ?_) (fun hb => ?_)
      ·(try simp only [dE] at hb)
       refine rs rfl rfl (ok_fieldAddr rfl ti_api_Rec rfl rfl ti_int (by decide) rfl) ?_
       refine rs rfl rfl (ok_load rfl ti_int rfl rfl) ?_
       refine rs rfl rfl (ok_binOp rfl ti_int rfl) ?_
       refine rs rfl rfl (ok_pick rfl rfl) ?_
       refine rs rfl rfl (ok_pick rfl rfl) ?_
       refine ro_nil ?_
       refine keepK hK35 [1, 5, 106] (by dsimp) (by dsimp) ?_
       refine T.cond rfl (fun hc => ?_) (fun hc => ?_) -- cond 6
       ·(try simp only [dE] at hc)
        refine T.seq fun K38 hK38 => ?_
        refine T.region ?_
        refine rs rfl rfl (ok_moveb (c := false) (.inr rfl) rfl) ?_
        refine ro_nil ?_
        refine keepK hK38 [6] (by dsimp) (by dsimp) ?_
        refine T.ret (hQ _ _ _ rfl ?_).1 -- ret 11
        exact by (rw [stepZ_3 (by assumption), if_neg (by unfold Z3; intro h; obtain ⟨h1, h2, h3⟩ := h; first | omega | (simp_all; done))]; exact ch_end (z' := z) (p := 2) (l := z.pars) hj rfl rfl rfl (by decide) (Ent.sl0 (b := ⟨2, false, Prs z.pars⟩) rfl rfl (by simp)) ⟨rfl, trivial⟩)
       ·(try simp only [dE] at hc)
        refine T.skip ?_
        refine keepK hK34 [1, 5] (by dsimp) (by dsimp) ?_
        refine T.draw mixed (SH [] (HeldL ([none, none, none, none, some (RcB x)]))) ?_
        refine any_take 0 rfl (by first | rfl | decide +kernel) rfl (by first | (simp [HeldL]; done) | (simp only [dH]; (repeat' first | trivial | rfl | constructor))) (fun H' hH => OpOk.step (ok_move (.inl rfl))) ?_
        refine any_take 1 rfl (by first | rfl | decide +kernel) rfl (by first | (simp [HeldL]; done) | (simp only [dH]; (repeat' first | trivial | rfl | constructor))) (fun H' hH => OpOk.step (ok_move (.inl rfl))) ?_
        refine any_take 2 rfl (by first | rfl | decide +kernel) rfl (by first | (simp [HeldL]; done) | (simp only [dH]; (repeat' first | trivial | rfl | constructor))) (fun H' hH => OpOk.step (ok_fieldAddr rfl ti_api_Rec rfl rfl ti_int (by decide) rfl)) ?_
        refine any_take 3 rfl (by first | rfl | decide +kernel) rfl (by first | (simp [HeldL]; done) | (simp only [dH]; (repeat' first | trivial | rfl | constructor))) (fun H' hH => OpOk.step (ok_load rfl ti_int (locA_held hH rfl) rfl)) ?_
        refine any_take 4 rfl (by first | rfl | decide +kernel) rfl (by first | (simp [HeldL]; done) | (simp only [dH]; (repeat' first | trivial | rfl | constructor))) (fun H' hH => OpOk.step (ok_nilCheck rfl rfl)) ?_
        refine any_take 5 rfl (by first | rfl | decide +kernel) rfl (by first | (simp [HeldL]; done) | (simp only [dH]; (repeat' first | trivial | rfl | constructor))) (fun H' hH => OpOk.step (ok_fieldAddr rfl ti_api_Zone rfl rfl ti_bool (by decide) rfl)) ?_
        refine any_one 6 rfl (by first | rfl | decide +kernel) rfl rfl (OpOk.step ((ok_store rfl ti_bool (by decide) (id := 1) (j := j) (f := 2) rfl rfl rfl (ZR_get hj) rfl (by show 2 + 1 ≤ 6; decide) (.inr rfl)).eq (x' := .any) (H'' := [some ⟨1, true, ints .i64 s.st⟩, some (ZR s.zs j (ZnS { z with full := true } (.sl 2 0 z.pars.length))), some ⟨2, true, Prs z.pars⟩, some (SB s (.sl 0 0 s.st.length) (.sl 1 0 s.zs.length)), some (RcB x)]) rfl (by show [_, some (⟨6, true, (ZR s.zs j (ZnS z (.sl 2 0 z.pars.length))).els.set j (.agg (ZnS { z with full := true } (.sl 2 0 z.pars.length)))⟩ : Blk), _, _, _] = _; rw [ZR_set] <;> rfl))) (.inr (by first | (simp [HeldL]; done) | (simp only [dH]; (repeat' first | trivial | rfl | constructor)))) ?_
        refine any_take 7 rfl (by first | rfl | decide +kernel) rfl (by first | (simp [HeldL]; done) | (simp only [dH]; (repeat' first | trivial | rfl | constructor))) (fun H' hH => OpOk.step (ok_nilCheck rfl rfl)) ?_
        refine any_take 8 rfl (by first | rfl | decide +kernel) rfl (by first | (simp [HeldL]; done) | (simp only [dH]; (repeat' first | trivial | rfl | constructor))) (fun H' hH => OpOk.step (ok_fieldAddr rfl ti_api_Zone rfl rfl ti_int (by decide) rfl)) ?_
        refine any_one 9 rfl (by first | rfl | decide +kernel) rfl rfl (OpOk.step ((ok_store rfl ti_int (by decide) (id := 1) (j := j) (f := 3) rfl rfl rfl (ZR_get hj) rfl (by show 3 + 1 ≤ 6; decide) (.inr rfl)).eq (x' := .any) (H'' := [some ⟨1, true, ints .i64 s.st⟩, some (ZR s.zs j (ZnS { z with full := true, w := x.w } (.sl 2 0 z.pars.length))), some ⟨2, true, Prs z.pars⟩, some (SB s (.sl 0 0 s.st.length) (.sl 1 0 s.zs.length)), some (RcB x)]) rfl (by show [_, some (⟨6, true, (ZR s.zs j (ZnS { z with full := true } (.sl 2 0 z.pars.length))).els.set j (.agg (ZnS { z with full := true, w := x.w } (.sl 2 0 z.pars.length)))⟩ : Blk), _, _, _] = _; rw [ZR_set] <;> rfl))) (.inr (by first | (simp [HeldL]; done) | (simp only [dH]; (repeat' first | trivial | rfl | constructor)))) ?_
        refine any_done rfl ?_
        refine keepK hK33 [] (by dsimp) (by dsimp) ?_
        refine T.exit ?_
        refine keepK hK4 [] (by dsimp) (by dsimp) ?_
        refine T.seq fun K39 hK39 => ?_
        refine T.region ?_
        refine rs rfl rfl (ok_moveb (c := true) (.inr rfl) rfl) ?_
        refine ro_nil ?_
        refine keepK hK39 [6] (by dsimp) (by dsimp) ?_
        refine T.ret (hQ _ _ _ rfl ?_).1 -- ret 12
        exact by (rw [stepZ_3 (by assumption), if_pos (by unfold Z3; refine ⟨?_, ?_, fun _ => ?_⟩ <;> first | assumption | omega | (simp_all; done))]; exact ch_end (z' := { z with full := true, w := x.w }) (p := 2) (l := z.pars) hj rfl rfl rfl (by decide) (Ent.sl0 (b := ⟨2, false, Prs z.pars⟩) rfl rfl (by simp)) ⟨rfl, trivial⟩)
      ·(try simp only [dE] at hb)
       refine ro_skip rfl rfl ?_
       refine ro_skip rfl rfl ?_
       refine ro_skip rfl rfl ?_
       refine rs rfl rfl (ok_pickb (t := false) (d := false) rfl rfl rfl) ?_
       refine rs rfl rfl (ok_pickb (t := false) (d := false) rfl rfl rfl) ?_
       refine ro_nil ?_
       refine keepK hK35 [1, 5, 106] (by dsimp) (by dsimp) ?_
       refine T.cond_false rfl ?_
       refine T.skip ?_
       refine keepK hK34 [1, 5] (by dsimp) (by dsimp) ?_
       refine T.draw mixed (SH [] (HeldL ([none, none, none, none, some (RcB x)]))) ?_
       refine any_take 0 rfl (by first | rfl | decide +kernel) rfl (by first | (simp [HeldL]; done) | (simp only [dH]; (repeat' first | trivial | rfl | constructor))) (fun H' hH => OpOk.step (ok_move (.inl rfl))) ?_
       refine any_take 1 rfl (by first | rfl | decide +kernel) rfl (by first | (simp [HeldL]; done) | (simp only [dH]; (repeat' first | trivial | rfl | constructor))) (fun H' hH => OpOk.step (ok_move (.inl rfl))) ?_
       refine any_take 2 rfl (by first | rfl | decide +kernel) rfl (by first | (simp [HeldL]; done) | (simp only [dH]; (repeat' first | trivial | rfl | constructor))) (fun H' hH => OpOk.step (ok_fieldAddr rfl ti_api_Rec rfl rfl ti_int (by decide) rfl)) ?_
       refine any_take 3 rfl (by first | rfl | decide +kernel) rfl (by first | (simp [HeldL]; done) | (simp only [dH]; (repeat' first | trivial | rfl | constructor))) (fun H' hH => OpOk.step (ok_load rfl ti_int (locA_held hH rfl) rfl)) ?_
       refine any_take 4 rfl (by first | rfl | decide +kernel) rfl (by first | (simp [HeldL]; done) | (simp only [dH]; (repeat' first | trivial | rfl | constructor))) (fun H' hH => OpOk.step (ok_nilCheck rfl rfl)) ?_
       refine any_take 5 rfl (by first | rfl | decide +kernel) rfl (by first | (simp [HeldL]; done) | (simp only [dH]; (repeat' first | trivial | rfl | constructor))) (fun H' hH => OpOk.step (ok_fieldAddr rfl ti_api_Zone rfl rfl ti_bool (by decide) rfl)) ?_
       refine any_one 6 rfl (by first | rfl | decide +kernel) rfl rfl (OpOk.step ((ok_store rfl ti_bool (by decide) (id := 1) (j := j) (f := 2) rfl rfl rfl (ZR_get hj) rfl (by show 2 + 1 ≤ 6; decide) (.inr rfl)).eq (x' := .any) (H'' := [some ⟨1, true, ints .i64 s.st⟩, some (ZR s.zs j (ZnS { z with full := true } (.sl 2 0 z.pars.length))), some ⟨2, true, Prs z.pars⟩, some (SB s (.sl 0 0 s.st.length) (.sl 1 0 s.zs.length)), some (RcB x)]) rfl (by show [_, some (⟨6, true, (ZR s.zs j (ZnS z (.sl 2 0 z.pars.length))).els.set j (.agg (ZnS { z with full := true } (.sl 2 0 z.pars.length)))⟩ : Blk), _, _, _] = _; rw [ZR_set] <;> rfl))) (.inr (by first | (simp [HeldL]; done) | (simp only [dH]; (repeat' first | trivial | rfl | constructor)))) ?_
       refine any_take 7 rfl (by first | rfl | decide +kernel) rfl (by first | (simp [HeldL]; done) | (simp only [dH]; (repeat' first | trivial | rfl | constructor))) (fun H' hH => OpOk.step (ok_nilCheck rfl rfl)) ?_
       refine any_take 8 rfl (by first | rfl | decide +kernel) rfl (by first | (simp [HeldL]; done) | (simp only [dH]; (repeat' first | trivial | rfl | constructor))) (fun H' hH => OpOk.step (ok_fieldAddr rfl ti_api_Zone rfl rfl ti_int (by decide) rfl)) ?_
       refine any_one 9 rfl (by first | rfl | decide +kernel) rfl rfl (OpOk.step ((ok_store rfl ti_int (by decide) (id := 1) (j := j) (f := 3) rfl rfl rfl (ZR_get hj) rfl (by show 3 + 1 ≤ 6; decide) (.inr rfl)).eq (x' := .any) (H'' := [some ⟨1, true, ints .i64 s.st⟩, some (ZR s.zs j (ZnS { z with full := true, w := x.w } (.sl 2 0 z.pars.length))), some ⟨2, true, Prs z.pars⟩, some (SB s (.sl 0 0 s.st.length) (.sl 1 0 s.zs.length)), some (RcB x)]) rfl (by show [_, some (⟨6, true, (ZR s.zs j (ZnS { z with full := true } (.sl 2 0 z.pars.length))).els.set j (.agg (ZnS { z with full := true, w := x.w } (.sl 2 0 z.pars.length)))⟩ : Blk), _, _, _] = _; rw [ZR_set] <;> rfl))) (.inr (by first | (simp [HeldL]; done) | (simp only [dH]; (repeat' first | trivial | rfl | constructor)))) ?_
       refine any_done rfl ?_
       refine keepK hK33 [] (by dsimp) (by dsimp) ?_
       refine T.exit ?_
       refine keepK hK4 [] (by dsimp) (by dsimp) ?_
       refine T.seq fun K40 hK40 => ?_
       refine T.region ?_
       refine rs rfl rfl (ok_moveb (c := true) (.inr rfl) rfl) ?_
       refine ro_nil ?_
       refine keepK hK40 [6] (by dsimp) (by dsimp) ?_
       refine T.ret (hQ _ _ _ rfl ?_).1 -- ret 13
       exact by (rw [stepZ_3 (by assumption), if_pos (by unfold Z3; refine ⟨?_, ?_, fun _ => ?_⟩ <;> first | assumption | omega | (simp_all; done))]; exact ch_end (z' := { z with full := true, w := x.w }) (p := 2) (l := z.pars) hj rfl rfl rfl (by decide) (Ent.sl0 (b := ⟨2, false, Prs z.pars⟩) rfl rfl (by simp)) ⟨rfl, trivial⟩)
   ·(try simp only [dE] at hc)
    refine T.skip ?_
    refine keepK hK31 [1, 3, 5, 7, 8, 16] (by dsimp) (by dsimp) ?_
    refine T.seq fun K41 hK41 => ?_
    refine T.seq fun K42 hK42 => ?_
    refine T.region ?_
    refine rs rfl rfl (ok_binOp rfl ti_int rfl) ?_
    refine rs rfl rfl (ok_move (.inr rfl)) ?_
    refine ro_nil ?_
    refine keepK hK42 [1, 3, 5, 7, 8, 16, 23] (by dsimp) (by dsimp) ?_
    refine T.cond rfl (fun hc => ?_) (fun hc => ?_) -- cond 7
    ·(try simp only [dE] at hc)
     refine T.exit ?_
     refine keepK hK8 [1, 3, 5, 8] (by dsimp) (by dsimp) ?_
     refine T.seq fun K43 hK43 => ?_
     refine T.seq fun K44 hK44 => ?_
     refine T.seq fun K45 hK45 => ?_
     refine T.drawH mixed [] ?_
     refine any_take 0 rfl (by first | rfl | decide +kernel) rfl (HeldL.refl _) (fun H' hH => OpOk.step (ok_move (.inl rfl))) ?_
     refine any_take 1 rfl (by first | rfl | decide +kernel) rfl (HeldL.refl _) (fun H' hH => OpOk.step (ok_nilCheck rfl rfl)) ?_
     refine any_take 2 rfl (by first | rfl | decide +kernel) rfl (HeldL.refl _) (fun H' hH => OpOk.step (ok_fieldAddr rfl ti_api_Zone rfl rfl ti_int (by decide) rfl)) ?_
     refine any_take 3 rfl (by first | rfl | decide +kernel) rfl (HeldL.refl _) (fun H' hH => OpOk.step (by exact ok_load rfl ti_int (cl := ZnS z (.sl 2 0 z.pars.length)) (f := 1) (locA_held hH (ZR_loc hj rfl)) rfl)) ?_
     refine any_take 4 rfl (by first | rfl | decide +kernel) rfl (HeldL.refl _) (fun H' hH => OpOk.step (ok_binOp rfl ti_int rfl)) ?_
     refine any_take_case 5 rfl (by first | rfl | decide +kernel) rfl (HeldL.refl _) (fun H' hH => OpOk.step (ok_moveb (.inl rfl) rfl)) (fun hb => ?_) (fun hb => ?_)
     ·(try simp only [dE] at hb)
      refine any_skip 6 rfl (by first | rfl | decide +kernel) rfl (HeldL.refl _) ?_
      refine any_skip 7 rfl (by first | rfl | decide +kernel) rfl (HeldL.refl _) ?_
      refine any_skip 8 rfl (by first | rfl | decide +kernel) rfl (HeldL.refl _) ?_
      refine any_skip 9 rfl (by first | rfl | decide +kernel) rfl (HeldL.refl _) ?_
      refine any_take 10 rfl (by first | rfl | decide +kernel) rfl (HeldL.refl _) (fun H' hH => OpOk.step (ok_pickb (t := true) (d := true) rfl rfl rfl)) ?_
      refine any_take 11 rfl (by first | rfl | decide +kernel) rfl (HeldL.refl _) (fun H' hH => OpOk.step (ok_moveb (c := true) (.inl rfl) rfl)) ?_
      refine any_skip 12 rfl (by first | rfl | decide +kernel) rfl (HeldL.refl _) ?_
      refine any_skip 13 rfl (by first | rfl | decide +kernel) rfl (HeldL.refl _) ?_
      refine any_skip 14 rfl (by first | rfl | decide +kernel) rfl (HeldL.refl _) ?_
      refine any_skip 15 rfl (by first | rfl | decide +kernel) rfl (HeldL.refl _) ?_
      refine any_skip 16 rfl (by first | rfl | decide +kernel) rfl (HeldL.refl _) ?_
      refine any_skip 17 rfl (by first | rfl | decide +kernel) rfl (HeldL.refl _) ?_
      refine any_skip 18 rfl (by first | rfl | decide +kernel) rfl (HeldL.refl _) ?_
      refine any_take 19 rfl (by first | rfl | decide +kernel) rfl (HeldL.refl _) (fun H' hH => OpOk.step (ok_pickb (t := true) (d := true) rfl rfl rfl)) ?_
      refine any_take 20 rfl (by first | rfl | decide +kernel) rfl (HeldL.refl _) (fun H' hH => OpOk.step (ok_moveb (c := true) (.inl rfl) rfl)) ?_
      refine any_skip 21 rfl (by first | rfl | decide +kernel) rfl (HeldL.refl _) ?_
      refine any_skip 22 rfl (by first | rfl | decide +kernel) rfl (HeldL.refl _) ?_
      refine any_skip 23 rfl (by first | rfl | decide +kernel) rfl (HeldL.refl _) ?_
      refine any_one_skip 24 rfl (by first | rfl | decide +kernel) rfl rfl (.inr (HeldL.refl _)) ?_
      refine any_skip 25 rfl (by first | rfl | decide +kernel) rfl (by first | exact HeldL.refl _ | exact HeldL.append _ _ | simp [HeldL]) ?_
      refine any_take 26 rfl (by first | rfl | decide +kernel) rfl (by first | exact HeldL.refl _ | exact HeldL.append _ _ | simp [HeldL]) (fun H' hH => OpOk.step (ok_pickb (t := true) (d := true) rfl rfl rfl)) ?_
      refine any_take 27 rfl (by first | rfl | decide +kernel) rfl (by first | exact HeldL.refl _ | exact HeldL.append _ _ | simp [HeldL]) (fun H' hH => OpOk.step (ok_moveb (c := true) (.inl rfl) rfl)) ?_
      refine any_skip 28 rfl (by first | rfl | decide +kernel) rfl (by first | exact HeldL.refl _ | exact HeldL.append _ _ | simp [HeldL]) ?_
      refine any_skip 29 rfl (by first | rfl | decide +kernel) rfl (by first | exact HeldL.refl _ | exact HeldL.append _ _ | simp [HeldL]) ?_
      refine any_skip 30 rfl (by first | rfl | decide +kernel) rfl (by first | exact HeldL.refl _ | exact HeldL.append _ _ | simp [HeldL]) ?_
      refine any_skip 31 rfl (by first | rfl | decide +kernel) rfl (by first | exact HeldL.refl _ | exact HeldL.append _ _ | simp [HeldL]) ?_
      refine any_one_skip 32 rfl (by first | rfl | decide +kernel) rfl rfl (.inr (by first | exact HeldL.refl _ | exact HeldL.append _ _ | simp [HeldL])) ?_
      refine any_skip 33 rfl (by first | rfl | decide +kernel) rfl (by first | exact HeldL.refl _ | exact HeldL.append _ _ | simp [HeldL]) ?_
      refine any_take 34 rfl (by first | rfl | decide +kernel) rfl (by first | exact HeldL.refl _ | exact HeldL.append _ _ | simp [HeldL]) (fun H' hH => OpOk.step (ok_pickb (t := true) (d := true) rfl rfl rfl)) ?_
      refine any_done rfl ?_
      refine keepK hK45 [1, 5, 149] (by dsimp) (by dsimp) ?_
      refine T.cond_true rfl ?_
      refine T.seq fun K46 hK46 => ?_
      refine T.region ?_
      refine rs rfl rfl (ok_moveb (c := false) (.inr rfl) rfl) ?_
      refine ro_nil ?_
      refine keepK hK46 [6] (by dsimp) (by dsimp) ?_
      refine T.ret (hQ _ _ _ rfl ?_).1 -- ret 14
      exact by (rw [stepZ_4 (by assumption), if_neg (by unfold Z4; intro h; obtain ⟨h1, h2, h3, h4, h5⟩ := h; first | omega | (simp_all; done))]; exact ch_end (z' := z) (p := 2) (l := z.pars) hj rfl rfl rfl (by decide) (Ent.sl0 (b := ⟨2, false, Prs z.pars⟩) rfl rfl (by simp)) ⟨rfl, trivial⟩)
     ·(try simp only [dE] at hb)
      refine any_take 6 rfl (by first | rfl | decide +kernel) rfl (HeldL.refl _) (fun H' hH => OpOk.step (ok_move (.inl rfl))) ?_
      refine any_take 7 rfl (by first | rfl | decide +kernel) rfl (HeldL.refl _) (fun H' hH => OpOk.step (ok_nilCheck rfl rfl)) ?_
      refine any_take 8 rfl (by first | rfl | decide +kernel) rfl (HeldL.refl _) (fun H' hH => OpOk.step (ok_fieldAddr rfl ti_api_Zone rfl rfl ti_bool (by decide) rfl)) ?_
      refine any_take 9 rfl (by first | rfl | decide +kernel) rfl (HeldL.refl _) (fun H' hH => OpOk.step (by exact ok_load rfl ti_bool (cl := ZnS z (.sl 2 0 z.pars.length)) (f := 2) (locA_held hH (ZR_loc hj rfl)) rfl)) ?_
      refine any_take 10 rfl (by first | rfl | decide +kernel) rfl (HeldL.refl _) (fun H' hH => OpOk.step (ok_pick rfl rfl)) ?_
      refine any_take_case 11 rfl (by first | rfl | decide +kernel) rfl (HeldL.refl _) (fun H' hH => OpOk.step (ok_moveb (.inl rfl) rfl)) (fun hb => ?_) (fun hb => ?_)
      ·(try simp only [dE] at hb)
       refine any_skip 12 rfl (by first | rfl | decide +kernel) rfl (HeldL.refl _) ?_
       refine any_skip 13 rfl (by first | rfl | decide +kernel) rfl (HeldL.refl _) ?_
       refine any_skip 14 rfl (by first | rfl | decide +kernel) rfl (HeldL.refl _) ?_
       refine any_skip 15 rfl (by first | rfl | decide +kernel) rfl (HeldL.refl _) ?_
       refine any_skip 16 rfl (by first | rfl | decide +kernel) rfl (HeldL.refl _) ?_
       refine any_skip 17 rfl (by first | rfl | decide +kernel) rfl (HeldL.refl _) ?_
       refine any_skip 18 rfl (by first | rfl | decide +kernel) rfl (HeldL.refl _) ?_
       refine any_take 19 rfl (by first | rfl | decide +kernel) rfl (HeldL.refl _) (fun H' hH => OpOk.step (ok_pickb (t := true) (d := true) rfl rfl rfl)) ?_
       refine any_take 20 rfl (by first | rfl | decide +kernel) rfl (HeldL.refl _) (fun H' hH => OpOk.step (ok_moveb (c := true) (.inl rfl) rfl)) ?_
       refine any_skip 21 rfl (by first | rfl | decide +kernel) rfl (HeldL.refl _) ?_
       refine any_skip 22 rfl (by first | rfl | decide +kernel) rfl (HeldL.refl _) ?_
       refine any_skip 23 rfl (by first | rfl | decide +kernel) rfl (HeldL.refl _) ?_
       refine any_one_skip 24 rfl (by first | rfl | decide +kernel) rfl rfl (.inr (HeldL.refl _)) ?_
       refine any_skip 25 rfl (by first | rfl | decide +kernel) rfl (by first | exact HeldL.refl _ | exact HeldL.append _ _ | simp [HeldL]) ?_
       refine any_take 26 rfl (by first | rfl | decide +kernel) rfl (by first | exact HeldL.refl _ | exact HeldL.append _ _ | simp [HeldL]) (fun H' hH => OpOk.step (ok_pickb (t := true) (d := true) rfl rfl rfl)) ?_
       refine any_take 27 rfl (by first | rfl | decide +kernel) rfl (by first | exact HeldL.refl _ | exact HeldL.append _ _ | simp [HeldL]) (fun H' hH => OpOk.step (ok_moveb (c := true) (.inl rfl) rfl)) ?_
       refine any_skip 28 rfl (by first | rfl | decide +kernel) rfl (by first | exact HeldL.refl _ | exact HeldL.append _ _ | simp [HeldL]) ?_
       refine any_skip 29 rfl (by first | rfl | decide +kernel) rfl (by first | exact HeldL.refl _ | exact HeldL.append _ _ | simp [HeldL]) ?_
       refine any_skip 30 rfl (by first | rfl | decide +kernel) rfl (by first | exact HeldL.refl _ | exact HeldL.append _ _ | simp [HeldL]) ?_
       refine any_skip 31 rfl (by first | rfl | decide +kernel) rfl (by first | exact HeldL.refl _ | exact HeldL.append _ _ | simp [HeldL]) ?_
       refine any_one_skip 32 rfl (by first | rfl | decide +kernel) rfl rfl (.inr (by first | exact HeldL.refl _ | exact HeldL.append _ _ | simp [HeldL])) ?_
       refine any_skip 33 rfl (by first | rfl | decide +kernel) rfl (by first | exact HeldL.refl _ | exact HeldL.append _ _ | simp [HeldL]) ?_
       refine any_take 34 rfl (by first | rfl | decide +kernel) rfl (by first | exact HeldL.refl _ | exact HeldL.append _ _ | simp [HeldL]) (fun H' hH => OpOk.step (ok_pickb (t := true) (d := true) rfl rfl rfl)) ?_
       refine any_done rfl ?_
       refine keepK hK45 [1, 5, 149] (by dsimp) (by dsimp) ?_
       refine T.cond_true rfl ?_
       refine T.seq fun K47 hK47 => ?_
       refine T.region ?_
       refine rs rfl rfl (ok_moveb (c := false) (.inr rfl) rfl) ?_
       refine ro_nil ?_
       refine keepK hK47 [6] (by dsimp) (by dsimp) ?_
       refine T.ret (hQ _ _ _ rfl ?_).1 -- ret 15
       exact by (rw [stepZ_4 (by assumption), if_neg (by unfold Z4; intro h; obtain ⟨h1, h2, h3, h4, h5⟩ := h; first | omega | (simp_all; done))]; exact ch_end (z' := z) (p := 2) (l := z.pars) hj rfl rfl rfl (by decide) (Ent.sl0 (b := ⟨2, false, Prs z.pars⟩) rfl rfl (by simp)) ⟨rfl, trivial⟩)
      ·(try simp only [dE] at hb)
       refine any_take 12 rfl (by first | rfl | decide +kernel) rfl (HeldL.refl _) (fun H' hH => OpOk.step (ok_move (.inl rfl))) ?_
       refine any_take 13 rfl (by first | rfl | decide +kernel) rfl (HeldL.refl _) (fun H' hH => OpOk.step (ok_nilCheck rfl rfl)) ?_
       refine any_take 14 rfl (by first | rfl | decide +kernel) rfl (HeldL.refl _) (fun H' hH => OpOk.step (ok_fieldAddr rfl ti_api_Zone rfl rfl ti_int (by decide) rfl)) ?_
       refine any_take 15 rfl (by first | rfl | decide +kernel) rfl (HeldL.refl _) (fun H' hH => OpOk.step (by exact ok_load rfl ti_int (cl := ZnS z (.sl 2 0 z.pars.length)) (f := 0) (locA_held hH (ZR_loc hj rfl)) rfl)) ?_
       refine any_take 16 rfl (by first | rfl | decide +kernel) rfl (HeldL.refl _) (fun H' hH => OpOk.step (ok_fieldAddr rfl ti_api_Rec rfl rfl ti_int (by decide) rfl)) ?_
       refine any_take 17 rfl (by first | rfl | decide +kernel) rfl (HeldL.refl _) (fun H' hH => OpOk.step (ok_load rfl ti_int (locA_held hH rfl) rfl)) ?_
       refine any_take 18 rfl (by first | rfl | decide +kernel) rfl (HeldL.refl _) (fun H' hH => OpOk.step (ok_binOp rfl ti_int rfl)) ?_
       refine any_take 19 rfl (by first | rfl | decide +kernel) rfl (HeldL.refl _) (fun H' hH => OpOk.step (ok_pick rfl rfl)) ?_
       refine any_take_case 20 rfl (by first | rfl | decide +kernel) rfl (HeldL.refl _) (fun H' hH => OpOk.step (ok_moveb (.inl rfl) rfl)) (fun hb => ?_) (fun hb => ?_)
       ·(try simp only [dE] at hb)
        refine any_skip 21 rfl (by first | rfl | decide +kernel) rfl (HeldL.refl _) ?_
        refine any_skip 22 rfl (by first | rfl | decide +kernel) rfl (HeldL.refl _) ?_
        refine any_skip 23 rfl (by first | rfl | decide +kernel) rfl (HeldL.refl _) ?_
        refine any_one_skip 24 rfl (by first | rfl | decide +kernel) rfl rfl (.inr (HeldL.refl _)) ?_
        refine any_skip 25 rfl (by first | rfl | decide +kernel) rfl (by first | exact HeldL.refl _ | exact HeldL.append _ _ | simp [HeldL]) ?_
        refine any_take 26 rfl (by first | rfl | decide +kernel) rfl (by first | exact HeldL.refl _ | exact HeldL.append _ _ | simp [HeldL]) (fun H' hH => OpOk.step (ok_pickb (t := true) (d := true) rfl rfl rfl)) ?_
        refine any_take 27 rfl (by first | rfl | decide +kernel) rfl (by first | exact HeldL.refl _ | exact HeldL.append _ _ | simp [HeldL]) (fun H' hH => OpOk.step (ok_moveb (c := true) (.inl rfl) rfl)) ?_
        refine any_skip 28 rfl (by first | rfl | decide +kernel) rfl (by first | exact HeldL.refl _ | exact HeldL.append _ _ | simp [HeldL]) ?_
        refine any_skip 29 rfl (by first | rfl | decide +kernel) rfl (by first | exact HeldL.refl _ | exact HeldL.append _ _ | simp [HeldL]) ?_
        refine any_skip 30 rfl (by first | rfl | decide +kernel) rfl (by first | exact HeldL.refl _ | exact HeldL.append _ _ | simp [HeldL]) ?_
        refine any_skip 31 rfl (by first | rfl | decide +kernel) rfl (by first | exact HeldL.refl _ | exact HeldL.append _ _ | simp [HeldL]) ?_
        refine any_one_skip 32 rfl (by first | rfl | decide +kernel) rfl rfl (.inr (by first | exact HeldL.refl _ | exact HeldL.append _ _ | simp [HeldL])) ?_
        refine any_skip 33 rfl (by first | rfl | decide +kernel) rfl (by first | exact HeldL.refl _ | exact HeldL.append _ _ | simp [HeldL]) ?_
        refine any_take 34 rfl (by first | rfl | decide +kernel) rfl (by first | exact HeldL.refl _ | exact HeldL.append _ _ | simp [HeldL]) (fun H' hH => OpOk.step (ok_pickb (t := true) (d := true) rfl rfl rfl)) ?_
        refine any_done rfl ?_
        refine keepK hK45 [1, 5, 149] (by dsimp) (by dsimp) ?_
        refine T.cond_true rfl ?_
        refine T.seq fun K48 hK48 => ?_
        refine T.region ?_
        refine rs rfl rfl (ok_moveb (c := false) (.inr rfl) rfl) ?_
        refine ro_nil ?_
        refine keepK hK48 [6] (by dsimp) (by dsimp) ?_
        refine T.ret (hQ _ _ _ rfl ?_).1 -- ret 16
        exact by (rw [stepZ_4 (by assumption), if_neg (by unfold Z4; intro h; obtain ⟨h1, h2, h3, h4, h5⟩ := h; first | omega | (simp_all; done))]; exact ch_end (z' := z) (p := 2) (l := z.pars) hj rfl rfl rfl (by decide) (Ent.sl0 (b := ⟨2, false, Prs z.pars⟩) rfl rfl (by simp)) ⟨rfl, trivial⟩)
       ·(try simp only [dE] at hb)
        refine any_take 21 rfl (by first | rfl | decide +kernel) rfl (HeldL.refl _) (fun H' hH => OpOk.step (ok_fieldAddr rfl ti_api_Rec rfl rfl ti_int (by decide) rfl)) ?_
        refine any_take 22 rfl (by first | rfl | decide +kernel) rfl (HeldL.refl _) (fun H' hH => OpOk.step (ok_load rfl ti_int (locA_held hH rfl) rfl)) ?_
        refine any_take 23 rfl (by first | rfl | decide +kernel) rfl (HeldL.refl _) (fun H' hH => OpOk.step (ok_move (.inl rfl))) ?_
        refine any_one 24 rfl (by first | rfl | decide +kernel) rfl rfl (ok_call rfl rfl rfl ((sin_ok x.w 1 (sizeC s.c)).plain rfl rfl)) (.inr (by first | (simp [HeldL]; done) | (simp only [dH]; (repeat' first | trivial | rfl | constructor)))) ?_
        refine any_take 25 rfl (by first | rfl | decide +kernel) rfl (by first | exact HeldL.refl _ | exact HeldL.append _ _ | simp [HeldL]) (fun H' hH => OpOk.step (ok_unOp rfl rfl)) ?_
        refine any_take 26 rfl (by first | rfl | decide +kernel) rfl (by first | exact HeldL.refl _ | exact HeldL.append _ _ | simp [HeldL]) (fun H' hH => OpOk.step (ok_pick rfl rfl)) ?_
        refine any_take_case 27 rfl (by first | rfl | decide +kernel) rfl (by first | exact HeldL.refl _ | exact HeldL.append _ _ | simp [HeldL]) (fun H' hH => OpOk.step (ok_moveb (.inl rfl) rfl)) (fun hb => ?_) (fun hb => ?_)
        ·(try simp only [dE] at hb)
         refine any_skip 28 rfl (by first | rfl | decide +kernel) rfl (by first | exact HeldL.refl _ | exact HeldL.append _ _ | simp [HeldL]) ?_
         refine any_skip 29 rfl (by first | rfl | decide +kernel) rfl (by first | exact HeldL.refl _ | exact HeldL.append _ _ | simp [HeldL]) ?_
         refine any_skip 30 rfl (by first | rfl | decide +kernel) rfl (by first | exact HeldL.refl _ | exact HeldL.append _ _ | simp [HeldL]) ?_
         refine any_skip 31 rfl (by first | rfl | decide +kernel) rfl (by first | exact HeldL.refl _ | exact HeldL.append _ _ | simp [HeldL]) ?_
         refine any_one_skip 32 rfl (by first | rfl | decide +kernel) rfl rfl (.inr (by first | exact HeldL.refl _ | exact HeldL.append _ _ | simp [HeldL])) ?_
         refine any_skip 33 rfl (by first | rfl | decide +kernel) rfl (by first | exact HeldL.refl _ | exact HeldL.append _ _ | simp [HeldL]) ?_
         refine any_take 34 rfl (by first | rfl | decide +kernel) rfl (by first | exact HeldL.refl _ | exact HeldL.append _ _ | simp [HeldL]) (fun H' hH => OpOk.step (ok_pickb (t := true) (d := true) rfl rfl rfl)) ?_
         refine any_done rfl ?_
         refine keepK hK45 [1, 5, 149] (by dsimp) (by dsimp) ?_
         refine T.cond_true rfl ?_
         refine T.seq fun K49 hK49 => ?_
         refine T.region ?_
         refine rs rfl rfl (ok_moveb (c := false) (.inr rfl) rfl) ?_
         refine ro_nil ?_
         refine keepK hK49 [6] (by dsimp) (by dsimp) ?_
         refine T.ret (hQ _ _ _ rfl ?_).1 -- ret 17
         exact by (rw [stepZ_4 (by assumption), if_neg (by unfold Z4; intro h; obtain ⟨h1, h2, h3, h4, h5⟩ := h; first | omega | (simp_all; done))]; exact ch_end (z' := z) (p := 2) (l := z.pars) hj rfl rfl rfl (by decide) (Ent.sl0 (b := ⟨2, false, Prs z.pars⟩) rfl rfl (by simp)) ⟨rfl, trivial⟩)
        ·(try simp only [dE] at hb)
         refine any_take 28 rfl (by first | rfl | decide +kernel) rfl (by first | exact HeldL.refl _ | exact HeldL.append _ _ | simp [HeldL]) (fun H' hH => OpOk.step (ok_fieldAddr rfl ti_api_Rec rfl rfl ti_Luint8 (by decide) rfl)) ?_
         refine any_take 29 rfl (by first | rfl | decide +kernel) rfl (by first | exact HeldL.refl _ | exact HeldL.append _ _ | simp [HeldL]) (fun H' hH => OpOk.step (ok_load rfl ti_Luint8 (locA_held hH rfl) rfl)) ?_
         refine any_take 30 rfl (by first | rfl | decide +kernel) rfl (by first | exact HeldL.refl _ | exact HeldL.append _ _ | simp [HeldL]) (fun H' hH => OpOk.step (ok_len' rfl rfl ti_Luint8 rfl (by first | exact ints_length _ _ | exact rowsA_length _ _ | exact Cms_len _ | exact mapLen _ | rfl))) ?_
         refine any_take 31 rfl (by first | rfl | decide +kernel) rfl (by first | exact HeldL.refl _ | exact HeldL.append _ _ | simp [HeldL]) (fun H' hH => OpOk.step (ok_load rfl ti_api_State (locA_held hH rfl) rfl)) ?_
         refine any_one 32 rfl (by first | rfl | decide +kernel) rfl rfl (ok_call rfl rfl rfl ((sunit_ok s hck).lendV (EntL.cons (Ent.stz s hz rfl rfl rfl) EntL.nil) (by simp [renL, AV.ren, StC_ren]))) (.inr (by first | (simp [HeldL]; done) | (simp only [dH]; (repeat' first | trivial | rfl | constructor)))) ?_
         refine any_take 33 rfl (by first | rfl | decide +kernel) rfl (by first | exact HeldL.refl _ | exact HeldL.append _ _ | simp [HeldL]) (fun H' hH => OpOk.step (ok_binOp rfl ti_int rfl)) ?_
         refine any_take 34 rfl (by first | rfl | decide +kernel) rfl (by first | exact HeldL.refl _ | exact HeldL.append _ _ | simp [HeldL]) (fun H' hH => OpOk.step (ok_pick rfl rfl)) ?_
         refine any_done rfl ?_
         refine keepK hK45 [1, 5, 149] (by dsimp) (by dsimp) ?_
         refine T.cond rfl (fun hc => ?_) (fun hc => ?_) -- cond 8
         ·(try simp only [dE] at hc)
          refine T.seq fun K50 hK50 => ?_
          refine T.region ?_
          refine rs rfl rfl (ok_moveb (c := false) (.inr rfl) rfl) ?_
          refine ro_nil ?_
          refine keepK hK50 [6] (by dsimp) (by dsimp) ?_
          refine T.ret (hQ _ _ _ rfl ?_).1 -- ret 18
          exact by (rw [stepZ_4 (by assumption), if_neg (by unfold Z4; intro h; obtain ⟨h1, h2, h3, h4, h5⟩ := h; first | omega | (simp_all; done))]; exact ch_end (z' := z) (p := 2) (l := z.pars) hj rfl rfl rfl (by decide) (Ent.sl0 (b := ⟨2, false, Prs z.pars⟩) rfl rfl (by simp)) ⟨rfl, trivial⟩)
         ·(try simp only [dE] at hc)
          refine T.skip ?_
          refine keepK hK44 [1, 5] (by dsimp) (by dsimp) ?_
          refine T.seq fun K51 hK51 => ?_
          refine T.draw mixed (SH [15] (HeldL ([none, some (ZR s.zs j (ZnS z (.sl 2 0 z.pars.length))), none, none, some (RcB x)]))) ?_
          refine any_take 0 rfl (by first | rfl | decide +kernel) rfl (by first | (simp [HeldL]; done) | (simp only [dH]; (repeat' first | trivial | rfl | constructor))) (fun H' hH => OpOk.step (ok_move (.inl rfl))) ?_
          refine any_take 1 rfl (by first | rfl | decide +kernel) rfl (by first | (simp [HeldL]; done) | (simp only [dH]; (repeat' first | trivial | rfl | constructor))) (fun H' hH => OpOk.step (ok_move (.inl rfl))) ?_
          refine any_take 2 rfl (by first | rfl | decide +kernel) rfl (by first | (simp [HeldL]; done) | (simp only [dH]; (repeat' first | trivial | rfl | constructor))) (fun H' hH => OpOk.step (ok_nilCheck rfl rfl)) ?_
          refine any_take 3 rfl (by first | rfl | decide +kernel) rfl (by first | (simp [HeldL]; done) | (simp only [dH]; (repeat' first | trivial | rfl | constructor))) (fun H' hH => OpOk.step (ok_fieldAddr rfl ti_api_Zone rfl rfl ti_Lapi_Par (by decide) rfl)) ?_
          refine any_take 4 rfl (by first | rfl | decide +kernel) rfl (by first | (simp [HeldL]; done) | (simp only [dH]; (repeat' first | trivial | rfl | constructor))) (fun H' hH => OpOk.step (by exact ok_load rfl ti_Lapi_Par (cl := ZnS z (.sl 2 0 z.pars.length)) (f := 5) (locA_held hH (ZR_loc hj rfl)) rfl)) ?_
          refine any_take 5 rfl (by first | rfl | decide +kernel) rfl (by first | (simp [HeldL]; done) | (simp only [dH]; (repeat' first | trivial | rfl | constructor))) (fun H' hH => OpOk.step (ok_fieldAddr rfl ti_api_Rec rfl rfl ti_int (by decide) rfl)) ?_
          refine any_take 6 rfl (by first | rfl | decide +kernel) rfl (by first | (simp [HeldL]; done) | (simp only [dH]; (repeat' first | trivial | rfl | constructor))) (fun H' hH => OpOk.step (ok_load rfl ti_int (locA_held hH rfl) rfl)) ?_
          refine any_take 7 rfl (by first | rfl | decide +kernel) rfl (by first | (simp [HeldL]; done) | (simp only [dH]; (repeat' first | trivial | rfl | constructor))) (fun H' hH => OpOk.step (ok_fieldAddr rfl ti_api_Rec rfl rfl ti_Luint8 (by decide) rfl)) ?_
          refine any_take 8 rfl (by first | rfl | decide +kernel) rfl (by first | (simp [HeldL]; done) | (simp only [dH]; (repeat' first | trivial | rfl | constructor))) (fun H' hH => OpOk.step (ok_load rfl ti_Luint8 (locA_held hH rfl) rfl)) ?_
          refine any_one 9 rfl (by first | rfl | decide +kernel) rfl rfl (ok_call rfl rfl rfl ((clone_frz x.body (by omega)).plain (by simp [renL, AV.ren, renL_ints]) (by simp [AV.ren, renL_ints]))) (.inr (by first | (simp [HeldL]; done) | (simp only [dH]; (repeat' first | trivial | rfl | constructor)))) ?_
          refine any_take 10 rfl (by first | rfl | decide +kernel) rfl (by first | (simp [HeldL]; done) | (simp only [dH]; (repeat' first | trivial | rfl | constructor))) (fun H' hH => OpOk.step (ok_build rfl ti_api_Par rfl)) ?_
          refine any_one 11 rfl (by first | rfl | decide +kernel) rfl rfl (OpOk.step (ok_buildSlice (n := 1) (ps := #[(0, .tmp 160)]) rfl ti_Lapi_Par rfl ti_api_Par (by decide) rfl rfl (by decide) rfl rfl rfl)) (.inr (by first | (simp [HeldL]; done) | (simp only [dH]; (repeat' first | trivial | rfl | constructor)))) ?_
          refine any_one 12 rfl (by first | rfl | decide +kernel) rfl rfl (OpOk.step (by exact ok_append_map (fun p => .agg (PrC p)) (xs := z.pars) (ys := [(⟨x.w, x.body⟩ : Pr)]) rfl ti_Lapi_Par rfl ti_api_Par (by decide) (by decide) rfl ti_Lapi_Par (by simp) rfl rfl rfl rfl rfl rfl rfl rfl rfl (by show (z.pars.length + 1) * 32 ≤ _; omega))) (.inr (by first | (simp [HeldL]; done) | (simp only [dH]; (repeat' first | trivial | rfl | constructor)))) ?_
          refine any_take 13 rfl (by first | rfl | decide +kernel) rfl (by first | (simp [HeldL]; done) | (simp only [dH]; (repeat' first | trivial | rfl | constructor))) (fun H' hH => OpOk.step (ok_nilCheck rfl rfl)) ?_
          refine any_take 14 rfl (by first | rfl | decide +kernel) rfl (by first | (simp [HeldL]; done) | (simp only [dH]; (repeat' first | trivial | rfl | constructor))) (fun H' hH => OpOk.step (ok_fieldAddr rfl ti_api_Zone rfl rfl ti_Lapi_Par (by decide) rfl)) ?_
          refine any_one 15 rfl (by first | rfl | decide +kernel) rfl rfl (OpOk.step ((ok_store rfl ti_Lapi_Par (by decide) (id := 1) (j := j) (f := 5) rfl rfl rfl (ZR_get hj) rfl (by show 5 + 1 ≤ 6; decide) (.inr rfl)).eq (x' := .any) (H'' := [some ⟨1, true, ints .i64 s.st⟩, some (ZR s.zs j (ZnS z (.sl 6 0 (z.pars ++ [(⟨x.w, x.body⟩ : Pr)]).length))), none, some (SB s (.sl 0 0 s.st.length) (.sl 1 0 s.zs.length)), some (RcB x), some ⟨2, true, Prs [(⟨x.w, x.body⟩ : Pr)]⟩, some ⟨2, true, Prs (z.pars ++ [(⟨x.w, x.body⟩ : Pr)])⟩]) rfl (by show [_, some (⟨6, true, (ZR s.zs j (ZnS z (.sl 2 0 z.pars.length))).els.set j (.agg (ZnS z (.sl 6 0 (z.pars ++ [(⟨x.w, x.body⟩ : Pr)]).length)))⟩ : Blk), _, _, _, _, _] = _; rw [ZR_set] <;> rfl))) (.inl (by simp)) ?_
          refine any_done rfl ?_
          refine keepK hK51 [1] (by dsimp) (by dsimp) ?_
          refine T.drawH mixed [15] ?_
          refine any_take 0 rfl (by first | rfl | decide +kernel) rfl (HeldL.refl _) (fun H' hH => OpOk.step (ok_move (.inl rfl))) ?_
          refine any_take 1 rfl (by first | rfl | decide +kernel) rfl (HeldL.refl _) (fun H' hH => OpOk.step (ok_move (.inl rfl))) ?_
          refine any_take 2 rfl (by first | rfl | decide +kernel) rfl (HeldL.refl _) (fun H' hH => OpOk.step (ok_nilCheck rfl rfl)) ?_
          refine any_take 3 rfl (by first | rfl | decide +kernel) rfl (HeldL.refl _) (fun H' hH => OpOk.step (ok_fieldAddr rfl ti_api_Zone rfl rfl ti_Lapi_Par (by decide) rfl)) ?_
          refine any_take 4 rfl (by first | rfl | decide +kernel) rfl (HeldL.refl _) (fun H' hH => OpOk.step (by exact ok_load rfl ti_Lapi_Par (cl := ZnS z (.sl 6 0 (z.pars ++ [(⟨x.w, x.body⟩ : Pr)]).length)) (f := 5) (locA_held hH (ZR_loc hj rfl)) rfl)) ?_
          refine any_take 5 rfl (by first | rfl | decide +kernel) rfl (HeldL.refl _) (fun H' hH => OpOk.step (ok_move (.inl rfl))) ?_
          refine any_take 6 rfl (by first | rfl | decide +kernel) rfl (HeldL.refl _) (fun H' hH => OpOk.step (ok_nilCheck rfl rfl)) ?_
          refine any_take 7 rfl (by first | rfl | decide +kernel) rfl (HeldL.refl _) (fun H' hH => OpOk.step (ok_fieldAddr rfl ti_api_Zone rfl rfl ti_Lapi_Par (by decide) rfl)) ?_
          refine any_take 8 rfl (by first | rfl | decide +kernel) rfl (HeldL.refl _) (fun H' hH => OpOk.step (by exact ok_load rfl ti_Lapi_Par (cl := ZnS z (.sl 6 0 (z.pars ++ [(⟨x.w, x.body⟩ : Pr)]).length)) (f := 5) (locA_held hH (ZR_loc hj rfl)) rfl)) ?_
          refine any_take 9 rfl (by first | rfl | decide +kernel) rfl (HeldL.refl _) (fun H' hH => OpOk.step (ok_len' rfl rfl ti_Lapi_Par rfl (by first | exact ints_length _ _ | exact rowsA_length _ _ | exact Cms_len _ | exact mapLen _ | rfl))) ?_
          refine any_take 10 rfl (by first | rfl | decide +kernel) rfl (HeldL.refl _) (fun H' hH => OpOk.step (by exact ok_sub64 rfl ti_int rfl rfl (by simp; omega) (by simp; omega))) ?_
          refine any_take 11 rfl (by first | rfl | decide +kernel) rfl (HeldL.refl _) (fun H' hH => OpOk.step ((ok_max rfl rfl rfl).eq (x' := .int (((z.pars ++ [(⟨x.w, x.body⟩ : Pr)]).length - 2 : Nat) : Int)) (by exact congrArg AV.int (by simp; omega)) rfl)) ?_
          refine any_take 12 rfl (by first | rfl | decide +kernel) rfl (HeldL.refl _) (fun H' hH => OpOk.step (by exact ok_slice (r := .sl 6 ((z.pars ++ [(⟨x.w, x.body⟩ : Pr)]).length - 2) ((z.pars ++ [(⟨x.w, x.body⟩ : Pr)]).length - ((z.pars ++ [(⟨x.w, x.body⟩ : Pr)]).length - 2))) rfl ti_Lapi_Par (.inl ⟨_, _, rfl, ti_api_Par, rfl⟩) rfl rfl rfl (sliceA_held hH (by simp [sliceA, hget]; omega)))) ?_
          refine any_take 13 rfl (by first | rfl | decide +kernel) rfl (HeldL.refl _) (fun H' hH => OpOk.step (ok_nilCheck rfl rfl)) ?_
          refine any_take 14 rfl (by first | rfl | decide +kernel) rfl (HeldL.refl _) (fun H' hH => OpOk.step (ok_fieldAddr rfl ti_api_Zone rfl rfl ti_Lapi_Par (by decide) rfl)) ?_
          refine any_one 15 rfl (by first | rfl | decide +kernel) rfl rfl (OpOk.step ((ok_store rfl ti_Lapi_Par (by decide) (id := 1) (j := j) (f := 5) rfl rfl rfl (ZR_get hj) rfl (by show 5 + 1 ≤ 6; decide) (.inr rfl)).eq (x' := .any) (H'' := [some ⟨1, true, ints .i64 s.st⟩, some (ZR s.zs j (ZnS z (.sl 6 ((z.pars ++ [(⟨x.w, x.body⟩ : Pr)]).length - 2) ((z.pars ++ [(⟨x.w, x.body⟩ : Pr)]).length - ((z.pars ++ [(⟨x.w, x.body⟩ : Pr)]).length - 2))))), none, some (SB s (.sl 0 0 s.st.length) (.sl 1 0 s.zs.length)), some (RcB x), some ⟨2, true, Prs [(⟨x.w, x.body⟩ : Pr)]⟩, some ⟨2, true, Prs (z.pars ++ [(⟨x.w, x.body⟩ : Pr)])⟩]) rfl (by show [_, some (⟨6, true, (ZR s.zs j (ZnS z (.sl 6 0 (z.pars ++ [(⟨x.w, x.body⟩ : Pr)]).length))).els.set j (.agg (ZnS z (.sl 6 ((z.pars ++ [(⟨x.w, x.body⟩ : Pr)]).length - 2) ((z.pars ++ [(⟨x.w, x.body⟩ : Pr)]).length - ((z.pars ++ [(⟨x.w, x.body⟩ : Pr)]).length - 2)))))⟩ : Blk), _, _, _, _, _] = _; rw [ZR_set] <;> rfl))) (.inl (by simp)) ?_
          refine any_done rfl ?_
          refine keepK hK43 [] (by dsimp) (by dsimp) ?_
          refine T.exit ?_
          refine keepK hK4 [] (by dsimp) (by dsimp) ?_
          refine T.seq fun K52 hK52 => ?_
          refine T.region ?_
          refine rs rfl rfl (ok_moveb (c := true) (.inr rfl) rfl) ?_
          refine ro_nil ?_
          refine keepK hK52 [6] (by dsimp) (by dsimp) ?_
          refine T.ret (hQ _ _ _ rfl ?_).1 -- ret 19
          exact by (rw [stepZ_4 (by assumption), if_pos (by unfold Z4; refine ⟨?_, ?_, ?_, ?_, ?_⟩ <;> first | assumption | omega | (simp_all; done))]; exact ch_end (z' := { z with pars := last2 (z.pars ++ [(⟨x.w, x.body⟩ : Pr)]) }) (p := 6) (l := (z.pars ++ [(⟨x.w, x.body⟩ : Pr)])) hj rfl rfl rfl (by decide) (Ent_last2 rfl) ⟨rfl, trivial⟩)
    ·(try simp only [dE] at hc)
     refine T.skip ?_
     refine keepK hK41 [1, 7, 16] (by dsimp) (by dsimp) ?_
     refine T.seq fun K53 hK53 => ?_
     refine T.seq fun K54 hK54 => ?_
     refine T.region ?_
     refine rs rfl rfl (ok_binOp rfl ti_int rfl) ?_
     refine rs rfl rfl (ok_move (.inr rfl)) ?_
     refine ro_nil ?_
     refine keepK hK54 [1, 7, 16, 25] (by dsimp) (by dsimp) ?_
     refine T.cond rfl (fun hc => ?_) (fun hc => ?_) -- cond 9
     ·(try simp only [dE] at hc)
      refine T.exit ?_
      refine keepK hK7 [1, 7] (by dsimp) (by dsimp) ?_
      refine T.seq fun K55 hK55 => ?_
      refine T.seq fun K56 hK56 => ?_
      refine T.seq fun K57 hK57 => ?_
      refine T.region ?_
      refine rs rfl rfl (ok_move (.inl rfl)) ?_
      refine rs rfl rfl (ok_nilCheck rfl rfl) ?_
      refine rs rfl rfl (ok_fieldAddr rfl ti_api_Zone rfl rfl ti_int (by decide) rfl) ?_
      refine rs rfl rfl (by exact ok_load rfl ti_int (cl := ZnS z (.sl 2 0 z.pars.length)) (f := 1) (ZR_loc hj rfl) rfl) ?_
      refine rs rfl rfl (ok_binOp rfl ti_int rfl) ?_
      refine ro_case rfl rfl (OpOk.step (ok_moveb (.inl rfl) rfl)) (fun hb => ?_) (fun hb => ?_)
      ·(try simp only [dE] at hb)
       refine ro_skip rfl rfl ?_
       refine ro_skip rfl rfl ?_
       refine rs rfl rfl (ok_pickb (t := true) (d := true) rfl rfl rfl) ?_
       refine ro_nil ?_
       refine keepK hK57 [1, 188] (by dsimp) (by dsimp) ?_
       refine T.cond_true rfl ?_
       refine T.seq fun K58 hK58 => ?_
       refine T.region ?_
       refine rs rfl rfl (ok_moveb (c := false) (.inr rfl) rfl) ?_
       refine ro_nil ?_
       refine keepK hK58 [6] (by dsimp) (by dsimp) ?_
       refine T.ret (hQ _ _ _ rfl ?_).1 -- ret 20
       exact by (rw [stepZ_5 (by assumption), if_neg (by unfold Z5; intro h; obtain ⟨h1, h2⟩ := h; first | omega | (simp_all; done))]; exact ch_end (z' := z) (p := 2) (l := z.pars) hj rfl rfl rfl (by decide) (Ent.sl0 (b := ⟨2, false, Prs z.pars⟩) rfl rfl (by simp)) ⟨rfl, trivial⟩)
      ·(try simp only [dE] at hb)
       refine rs rfl rfl (ok_move (.inl rfl)) ?_
       refine rs rfl rfl (ok_unOp rfl rfl) ?_
       refine rs rfl rfl (ok_pick rfl rfl) ?_
       refine ro_nil ?_
       refine keepK hK57 [1, 188] (by dsimp) (by dsimp) ?_
       refine T.cond rfl (fun hc => ?_) (fun hc => ?_) -- cond 10
       ·(try simp only [dE] at hc)
        refine T.seq fun K59 hK59 => ?_
        refine T.region ?_
        refine rs rfl rfl (ok_moveb (c := false) (.inr rfl) rfl) ?_
        refine ro_nil ?_
        refine keepK hK59 [6] (by dsimp) (by dsimp) ?_
        refine T.ret (hQ _ _ _ rfl ?_).1 -- ret 21
        exact by (rw [stepZ_5 (by assumption), if_neg (by unfold Z5; intro h; obtain ⟨h1, h2⟩ := h; first | omega | (simp_all; done))]; exact ch_end (z' := z) (p := 2) (l := z.pars) hj rfl rfl rfl (by decide) (Ent.sl0 (b := ⟨2, false, Prs z.pars⟩) rfl rfl (by simp)) ⟨rfl, trivial⟩)
       ·(try simp only [dE] at hc)
        refine T.skip ?_
        refine keepK hK56 [1] (by dsimp) (by dsimp) ?_
        refine T.region ?_
        refine rs rfl rfl (ok_move (.inl rfl)) ?_
        refine rs rfl rfl (ok_nilCheck rfl rfl) ?_
        refine rs rfl rfl (ok_fieldAddr rfl ti_api_Zone rfl rfl ti_bool (by decide) rfl) ?_
        refine rs rfl rfl ((ok_store rfl ti_bool (by decide) (id := 1) (j := j) (f := 4) rfl rfl rfl (ZR_get hj) rfl (by show 4 + 1 ≤ 6; decide) (.inr rfl)).eq (x' := .any) (H'' := [some ⟨1, true, ints .i64 s.st⟩, some (ZR s.zs j (ZnS { z with whole := true } (.sl 2 0 z.pars.length))), some ⟨2, true, Prs z.pars⟩, some (SB s (.sl 0 0 s.st.length) (.sl 1 0 s.zs.length)), some (RcB x)]) rfl (by show [_, some (⟨6, true, (ZR s.zs j (ZnS z (.sl 2 0 z.pars.length))).els.set j (.agg (ZnS { z with whole := true } (.sl 2 0 z.pars.length)))⟩ : Blk), _, _, _] = _; rw [ZR_set] <;> rfl)) ?_
        refine ro_nil ?_
        refine keepK hK55 [] (by dsimp) (by dsimp) ?_
        refine T.exit ?_
        refine keepK hK4 [] (by dsimp) (by dsimp) ?_
        refine T.seq fun K60 hK60 => ?_
        refine T.region ?_
        refine rs rfl rfl (ok_moveb (c := true) (.inr rfl) rfl) ?_
        refine ro_nil ?_
        refine keepK hK60 [6] (by dsimp) (by dsimp) ?_
        refine T.ret (hQ _ _ _ rfl ?_).1 -- ret 22
        exact by (rw [stepZ_5 (by assumption), if_pos (by unfold Z5; refine ⟨?_, ?_⟩ <;> first | assumption | omega | (simp_all; done))]; exact ch_end (z' := { z with whole := true }) (p := 2) (l := z.pars) hj rfl rfl rfl (by decide) (Ent.sl0 (b := ⟨2, false, Prs z.pars⟩) rfl rfl (by simp)) ⟨rfl, trivial⟩)
     ·(try simp only [dE] at hc)
      refine T.skip ?_
      refine keepK hK53 [16] (by dsimp) (by dsimp) ?_
      refine T.seq fun K61 hK61 => ?_
      refine T.region ?_
      refine rs rfl rfl (ok_binOp rfl ti_int rfl) ?_
      refine rs rfl rfl (ok_move (.inr rfl)) ?_
      refine ro_nil ?_
      refine keepK hK61 [27] (by dsimp) (by dsimp) ?_
      refine T.cond rfl (fun hc => ?_) (fun hc => ?_) -- cond 11
      ·(try simp only [dE] at hc)
       refine T.exit ?_
       refine keepK hK6 [] (by dsimp) (by dsimp) ?_
       refine T.seq fun K62 hK62 => ?_
       refine T.seq fun K63 hK63 => ?_
       refine T.region ?_
       refine rs rfl rfl (ok_moveb (c := false) (.inr rfl) rfl) ?_
       refine ro_nil ?_
       refine keepK hK63 [6] (by dsimp) (by dsimp) ?_
       refine T.ret (hQ _ _ _ rfl ?_).1 -- ret 23
       exact by (rw [stepZ_no (by assumption) (by assumption) (by assumption) (by assumption) (by assumption)]; exact ch_end (z' := z) (p := 2) (l := z.pars) hj rfl rfl rfl (by decide) (Ent.sl0 (b := ⟨2, false, Prs z.pars⟩) rfl rfl (by simp)) ⟨rfl, trivial⟩)
      ·(try simp only [dE] at hc)
       refine T.skip ?_
       refine keepK hK12 [] (by dsimp) (by dsimp) ?_
       refine T.exit ?_
       refine keepK hK6 [] (by dsimp) (by dsimp) ?_
       refine T.seq fun K64 hK64 => ?_
       refine T.seq fun K65 hK65 => ?_
       refine T.region ?_
       refine rs rfl rfl (ok_moveb (c := false) (.inr rfl) rfl) ?_
       refine ro_nil ?_
       refine keepK hK65 [6] (by dsimp) (by dsimp) ?_
       refine T.ret (hQ _ _ _ rfl ?_).1 -- ret 24
       exact by (rw [stepZ_no (by assumption) (by assumption) (by assumption) (by assumption) (by assumption)]; exact ch_end (z' := z) (p := 2) (l := z.pars) hj rfl rfl rfl (by decide) (Ent.sl0 (b := ⟨2, false, Prs z.pars⟩) rfl rfl (by simp)) ⟨rfl, trivial⟩)
end Go.Proofs.YtjklgbafnfoolaaGreat.AmF
namespace Go.Proofs.YtjklgbafnfoolaaGreat.AmF
open Go Go.AM
set_option maxRecDepth 100000
set_option maxHeartbeats 4000000
set_option linter.unusedSimpArgs false
set_option linter.unusedVariables false
attribute [local simp] tkeep tget tput ev cav argsTM pickA normT putA splice AV.cells ints_length rowsA_length Prs_len Zns_len
theorem sapply_ok (s : St) (x : Rc) (hn : s.st.length ≤ 1000000) (hm : s.zs.length ≤ 1000000) (hl : ∀ z ∈ s.zs, z.pars.length ≤ 1000000) (hpb : ∀ z ∈ s.zs, ∀ p ∈ z.pars, p.b.length ≤ 140737488355328) (hx : x.body.length ≤ 140737488355328) : CSpec Tryz.prog 30 [] [.agg (StC s), .agg (RcC x)] [] (.tup [.agg (StC (applyS s x).1), .int (applyS s x).2]) := by
 refine CSpec.body Tryz.func30 rfl rfl rfl rfl rfl fun Q hQ => ?_
 refine T.seq fun K1 hK1 => ?_
 refine T.region ?_
 refine rs rfl rfl (ok_box (n := 15) rfl rfl (by decide)) ?_
 refine rs rfl rfl (ok_box (n := 10) rfl rfl (by decide)) ?_
 refine rs rfl rfl (ok_alloc rfl ti_api_State rfl (by decide)) ?_
 refine rs rfl rfl (ok_move (.inr rfl)) ?_
 refine ro_nil ?_
 refine keepK hK1 [2, 3, 4] (by dsimp) (by dsimp) ?_
 refine T.seq fun K2 hK2 => ?_
 refine T.seq fun K3 hK3 => ?_
 refine T.region ?_
 refine rs rfl rfl (ok_load rfl ti_api_State rfl rfl) ?_
 refine ro rfl rfl (ok_call rfl rfl rfl ((sright_ok s (by omega) (by omega) (fun z hz => by have := hl z hz; omega)).plain (by simp [renL, AV.ren, StC_take, StC_ren]) rfl)) ?_
 refine rs rfl rfl (ok_unOp rfl rfl) ?_
 refine ro_nil ?_
 refine keepK hK3 [2, 3, 4, 9] (by dsimp) (by dsimp) ?_
 refine T.cond rfl (fun hc => ?_) (fun hc => ?_) -- cond 1
 ·(try simp only [dE] at hc)
  rw [applyS_no hc] at hQ
  refine T.seq fun K4 hK4 => ?_
  refine T.region ?_
  refine rs rfl rfl (ok_build rfl ti_api_State rfl) ?_
  refine rs rfl rfl (ok_store rfl ti_api_State (by decide) rfl rfl rfl rfl rfl (by first | exact Nat.le_of_ble_eq_true rfl | simp) (by first | exact .inl ⟨rfl, rfl⟩ | exact .inr rfl)) ?_
  refine rs rfl rfl (ok_move (.inr rfl)) ?_
  refine ro_nil ?_
  refine keepK hK4 [4, 5] (by dsimp) (by dsimp) ?_
  refine T.ret (hQ _ _ _ rfl ?_).1 -- ret 1
  exact by exact ap_no (e := 1) rfl rfl
 ·(try simp only [dE] at hc)
  have hrs := hc
  have hck := hrs.1
  have hzl : 0 < s.zs.length := by have := hrs.2.2.2.2.1; have := (chkC_ok hck).2; unfold okC at *; omega
  obtain ⟨j, hj, hjx⟩ : ∃ j, j < s.zs.length ∧ (0 ≤ x.zone ∧ x.zone < s.zs.length → j = x.zone.toNat) := by
    by_cases h : 0 ≤ x.zone ∧ x.zone < s.zs.length
    · exact ⟨x.zone.toNat, by omega, fun _ => rfl⟩
    · exact ⟨0, hzl, fun h' => absurd h' h⟩
  obtain ⟨z, hz⟩ : ∃ z, s.zs[j]? = some z := ⟨_, List.getElem?_eq_getElem hj⟩
  have hsq := hrs.2.2.1
  refine T.skip ?_
  refine keepK hK2 [2, 3, 4] (by dsimp) (by dsimp) ?_
  refine T.seq fun K5 hK5 => ?_
  refine T.seq fun K6 hK6 => ?_
  refine T.region ?_
  refine rs rfl rfl (ok_fieldAddr rfl ti_api_Rec rfl rfl ti_int (by decide) rfl) ?_
  refine rs rfl rfl (ok_load rfl ti_int rfl rfl) ?_
  refine rs rfl rfl (ok_fieldAddr rfl ti_api_State rfl rfl ti_int (by decide) rfl) ?_
  refine rs rfl rfl (ok_load rfl ti_int rfl rfl) ?_
  refine rs rfl rfl (ok_binOp rfl ti_int rfl) ?_
  refine ro_case rfl rfl (OpOk.step (ok_moveb (.inl rfl) rfl)) (fun hb => ?_) (fun hb => ?_)
  ·(try simp only [dE] at hb)
   refine ro_skip rfl rfl ?_
   refine ro_skip rfl rfl ?_
   refine ro_skip rfl rfl ?_
   refine ro_skip rfl rfl ?_
   refine ro_skip rfl rfl ?_
   refine ro_skip rfl rfl ?_
   refine rs rfl rfl (ok_pickb (t := true) (d := true) rfl rfl rfl) ?_
   refine rs rfl rfl (ok_moveb (c := true) (.inl rfl) rfl) ?_
   refine ro_skip rfl rfl ?_
   refine ro_skip rfl rfl ?_
   refine ro_skip rfl rfl ?_
   refine rs rfl rfl (ok_pickb (t := true) (d := true) rfl rfl rfl) ?_
   refine ro_nil ?_
   refine keepK hK6 [2, 3, 4, 28] (by dsimp) (by dsimp) ?_
   refine T.cond_true rfl ?_
   refine T.seq fun K7 hK7 => ?_
   refine T.region ?_
   refine rs rfl rfl (ok_build rfl ti_api_State rfl) ?_
   refine rs rfl rfl (ok_store rfl ti_api_State (by decide) rfl rfl rfl rfl rfl (by first | exact Nat.le_of_ble_eq_true rfl | simp) (by first | exact .inl ⟨rfl, rfl⟩ | exact .inr rfl)) ?_
   refine rs rfl rfl (ok_move (.inr rfl)) ?_
   refine ro_nil ?_
   refine keepK hK7 [4, 5] (by dsimp) (by dsimp) ?_
   refine T.ret (hQ _ _ _ rfl ?_).1 -- ret 2
   exact by (rw [applyS_form hrs (by unfold Goes; omega)]; exact ap_no (e := 13) rfl rfl)
  ·(try simp only [dE] at hb)
   refine rs rfl rfl (ok_fieldAddr rfl ti_api_Rec rfl rfl ti_int (by decide) rfl) ?_
   refine rs rfl rfl (ok_load rfl ti_int rfl rfl) ?_
   refine rs rfl rfl (ok_fieldAddr rfl ti_api_State rfl rfl ti_int (by decide) rfl) ?_
   refine rs rfl rfl (ok_load rfl ti_int rfl rfl) ?_
   refine rs rfl rfl (ok_add64 rfl ti_int rfl rfl (by omega) (by omega)) ?_
   refine rs rfl rfl (ok_binOp rfl ti_int rfl) ?_
   refine rs rfl rfl (ok_pick rfl rfl) ?_
   refine ro_case rfl rfl (OpOk.step (ok_moveb (.inl rfl) rfl)) (fun hb => ?_) (fun hb => ?_)
   ·(try simp only [dE] at hb)
    refine ro_skip rfl rfl ?_
    refine ro_skip rfl rfl ?_
    refine ro_skip rfl rfl ?_
    refine rs rfl rfl (ok_pickb (t := true) (d := true) rfl rfl rfl) ?_
    refine ro_nil ?_
    refine keepK hK6 [2, 3, 4, 28] (by dsimp) (by dsimp) ?_
    refine T.cond_true rfl ?_
    refine T.seq fun K8 hK8 => ?_
    refine T.region ?_
    refine rs rfl rfl (ok_build rfl ti_api_State rfl) ?_
    refine rs rfl rfl (ok_store rfl ti_api_State (by decide) rfl rfl rfl rfl rfl (by first | exact Nat.le_of_ble_eq_true rfl | simp) (by first | exact .inl ⟨rfl, rfl⟩ | exact .inr rfl)) ?_
    refine rs rfl rfl (ok_move (.inr rfl)) ?_
    refine ro_nil ?_
    refine keepK hK8 [4, 5] (by dsimp) (by dsimp) ?_
    refine T.ret (hQ _ _ _ rfl ?_).1 -- ret 3
    exact by (rw [applyS_form hrs (by unfold Goes; omega)]; exact ap_no (e := 13) rfl rfl)
   ·(try simp only [dE] at hb)
    refine rs rfl rfl (ok_fieldAddr rfl ti_api_Rec rfl rfl ti_int (by decide) rfl) ?_
    refine rs rfl rfl (ok_load rfl ti_int rfl rfl) ?_
    refine rs rfl rfl (ok_binOp rfl ti_int rfl) ?_
    refine rs rfl rfl (ok_pick rfl rfl) ?_
    refine ro_nil ?_
    refine keepK hK6 [2, 3, 4, 28] (by dsimp) (by dsimp) ?_
    refine T.cond rfl (fun hc => ?_) (fun hc => ?_) -- cond 2
    ·(try simp only [dE] at hc)
     refine T.seq fun K9 hK9 => ?_
     refine T.region ?_
     refine rs rfl rfl (ok_build rfl ti_api_State rfl) ?_
     refine rs rfl rfl (ok_store rfl ti_api_State (by decide) rfl rfl rfl rfl rfl (by first | exact Nat.le_of_ble_eq_true rfl | simp) (by first | exact .inl ⟨rfl, rfl⟩ | exact .inr rfl)) ?_
     refine rs rfl rfl (ok_move (.inr rfl)) ?_
     refine ro_nil ?_
     refine keepK hK9 [4, 5] (by dsimp) (by dsimp) ?_
     refine T.ret (hQ _ _ _ rfl ?_).1 -- ret 4
     exact by (rw [applyS_form hrs (by unfold Goes; omega)]; exact ap_no (e := 13) rfl rfl)
    ·(try simp only [dE] at hc)
     refine T.skip ?_
     refine keepK hK5 [2, 3, 4] (by dsimp) (by dsimp) ?_
     refine T.seq fun K10 hK10 => ?_
     refine T.region ?_
     refine rs rfl rfl (ok_load rfl ti_api_State rfl rfl) ?_
     refine ro rfl rfl (ok_call rfl rfl rfl ((sclone_at s j z hz (by omega) (by omega) (fun z hz => by have := hl z hz; omega) hpb).fresh (by simp [renL, AV.ren, StC_take, StC_ren]) (by simp [AV.ren, StS_ren]; rfl) (by show [_, _, _] = _; exact heap3 (ib_ren _ _) (ZR_ren (p := 2) (q := 5) rfl _ _ _ _) (prb_ren _ _)))) ?_
     refine rs rfl rfl (ok_store rfl ti_api_State (by decide) rfl rfl rfl rfl rfl (by first | exact Nat.le_of_ble_eq_true rfl | simp) (by first | exact .inl ⟨rfl, rfl⟩ | exact .inr rfl)) ?_
     refine ro_nil ?_
     refine keepK hK10 [2, 3, 4] (by dsimp) (by dsimp) ?_
     refine T.seq fun K11 hK11 => ?_
     refine T.region ?_
     refine rs rfl rfl (ok_moveb (c := false) (.inr rfl) rfl) ?_
     refine ro_nil ?_
     refine keepK hK11 [2, 3, 4, 6] (by dsimp) (by dsimp) ?_
     refine T.seq fun K12 hK12 => ?_
     refine T.block ?_
     refine T.seq fun K13 hK13 => ?_
     refine T.region ?_
     refine rs rfl rfl (ok_fieldAddr rfl ti_api_Rec rfl rfl ti_int (by decide) rfl) ?_
     refine rs rfl rfl (ok_load rfl ti_int rfl rfl) ?_
     refine rs rfl rfl (ok_binOp rfl ti_int rfl) ?_
     refine rs rfl rfl (ok_move (.inr rfl)) ?_
     refine ro_nil ?_
     refine keepK hK13 [2, 3, 4, 6, 32] (by dsimp) (by dsimp) ?_
     refine T.cond rfl (fun hc => ?_) (fun hc => ?_) -- cond 3
     ·(try simp only [dE] at hc)
      refine T.ent (((TEnt.freeze 5 (b := ⟨2, true, Prs z.pars⟩) rfl).trans (TEnt.blk 4 (b := ZR s.zs j (ZnS z (.sl 5 0 z.pars.length))) (l' := Zns s.zs) rfl (by simp [ZR]) (EntL.back (Zns_get hz) (Ent.zone z rfl)))).trans (TEnt.toH (tm' := [(2, .ref 0 0 0), (3, .ref 1 0 0), (4, .ref 2 0 0)]) (H' := [some (SB s (.sl 3 0 s.st.length) (.sl 4 0 s.zs.length)), some (RcB x), some Z15, some ⟨1, true, ints .i64 s.st⟩, some ⟨6, true, Zns s.zs⟩, some ⟨2, false, Prs z.pars⟩]) rfl ⟨rfl, rfl, rfl, trivial⟩)) ?_
      refine T.region ?_
      refine rs rfl rfl (ok_load rfl ti_api_Rec rfl rfl) ?_
      refine ro rfl rfl (ok_call rfl rfl rfl (((sstatus_ok s x (by omega) (by omega)).pass [0, 3, 4] (by decide) (by simp) (by exact heap3 (SB_ren (by decide) (by decide)) (ib_ren _ _) (znb_ren _ _)) (by simp [renL, AV.ren, RcC_take, RcC_ren]; rfl)).eq (x' := .b (decide (StOk s.st x))) (H'' := [some (SB s (.sl 3 0 s.st.length) (.sl 4 0 s.zs.length)), some (RcB x), some Z15, some ⟨1, true, ints .i64 (if StOk s.st x then s.st.set x.member.toNat x.status else s.st)⟩, some ⟨6, true, Zns (if StOk s.st x then s.zs.map unw else s.zs)⟩, some ⟨2, false, Prs z.pars⟩]) rfl (heap6 (SB_ren rfl rfl) rfl rfl (ib_ren _ _) (znb_ren _ _) rfl))) ?_
      refine rs rfl rfl (ok_move (.inr rfl)) ?_
      refine ro_nil ?_
      refine keepK hK12 [2, 3, 4, 6] (by dsimp) (by dsimp) ?_
      refine T.seq fun K14 hK14 => ?_
      refine T.seq fun K15 hK15 => ?_
      refine T.region ?_
      refine rs rfl rfl (ok_move (.inl rfl)) ?_
      refine rs rfl rfl (ok_unOp rfl rfl) ?_
      refine ro_nil ?_
      refine keepK hK15 [2, 3, 4, 55] (by dsimp) (by dsimp) ?_
      refine T.cond rfl (fun hc => ?_) (fun hc => ?_) -- cond 4
      ·(try simp only [dE] at hc)
       refine T.seq fun K16 hK16 => ?_
       refine T.region ?_
       refine rs rfl rfl (ok_build rfl ti_api_State rfl) ?_
       refine rs rfl rfl (ok_store rfl ti_api_State (by decide) rfl rfl rfl rfl rfl (by first | exact Nat.le_of_ble_eq_true rfl | simp) (by first | exact .inl ⟨rfl, rfl⟩ | exact .inr rfl)) ?_
       refine rs rfl rfl (ok_move (.inr rfl)) ?_
       refine ro_nil ?_
       refine keepK hK16 [4, 5] (by dsimp) (by dsimp) ?_
       refine T.ret (hQ _ _ _ rfl ?_).1 -- ret 5
       exact by (rw [applyS_bad hrs (by unfold Goes; omega) (by rw [stepS_st (by assumption), if_neg (by assumption)])]; exact ap_no (e := 13) rfl rfl)
      ·(try simp only [dE] at hc)
       refine T.skip ?_
       refine keepK hK14 [2, 3, 4] (by dsimp) (by dsimp) ?_
       refine T.seq fun K17 hK17 => ?_
       refine T.region ?_
       refine rs rfl rfl (ok_fieldAddr rfl ti_api_Rec rfl rfl ti_int (by decide) rfl) ?_
       refine rs rfl rfl (ok_load rfl ti_int rfl rfl) ?_
       refine rs rfl rfl (ok_fieldAddr rfl ti_api_State rfl rfl ti_int (by decide) rfl) ?_
       refine rs rfl rfl (ok_store rfl ti_int (by decide) rfl rfl rfl rfl rfl (by first | exact Nat.le_of_ble_eq_true rfl | simp) (by first | exact .inl ⟨rfl, rfl⟩ | exact .inr rfl)) ?_
       refine ro_nil ?_
       refine keepK hK17 [2, 4] (by dsimp) (by dsimp) ?_
       refine T.seq fun K18 hK18 => ?_
       refine T.region ?_
       refine rs rfl rfl (ok_load rfl ti_api_State rfl rfl) ?_
       refine rs rfl rfl (ok_store rfl ti_api_State (by decide) rfl rfl rfl rfl rfl (by first | exact Nat.le_of_ble_eq_true rfl | simp) (by first | exact .inl ⟨rfl, rfl⟩ | exact .inr rfl)) ?_
       refine rs rfl rfl (ok_move (.inr rfl)) ?_
       refine ro_nil ?_
       refine keepK hK18 [4, 5] (by dsimp) (by dsimp) ?_
       refine T.ret (hQ _ _ _ rfl ?_).1 -- ret 6
       have e := applyS_ok (t := { s with st := s.st.set x.member.toNat x.status, zs := s.zs.map unw, sq := x.seq }) hrs (x := x) (by unfold Goes; omega) (by rw [stepS_st (by assumption), if_pos (by assumption)])
       rw [e]
       exact ap_ok _ rfl rfl (by simp) (by simp) (by show some (⟨1, true, ints .i64 (if StOk s.st x then _ else _)⟩ : Blk) = _; rw [if_pos (by assumption)]) (by show some (⟨6, true, Zns (if StOk s.st x then _ else _)⟩ : Blk) = _; rw [if_pos (by assumption)])
     ·(try simp only [dE] at hc)
      refine T.seq fun K19 hK19 => ?_
      refine T.region ?_
      refine rs rfl rfl (ok_fieldAddr rfl ti_api_Rec rfl rfl ti_int (by decide) rfl) ?_
      refine rs rfl rfl (ok_load rfl ti_int rfl rfl) ?_
      refine rs rfl rfl (ok_fieldAddr rfl ti_api_State rfl rfl ti_Lapi_Zone (by decide) rfl) ?_
      refine rs rfl rfl (ok_load rfl ti_Lapi_Zone rfl rfl) ?_
      refine rs rfl rfl (ok_len' rfl rfl ti_Lapi_Zone rfl (by first | exact ints_length _ _ | exact rowsA_length _ _ | exact Cms_len _ | exact mapLen _ | rfl)) ?_
      refine rs rfl rfl (ok_sub64 rfl ti_int rfl rfl (by omega) (by omega)) ?_
      refine ro rfl rfl (ok_call rfl rfl rfl ((sin_ok x.zone 0 ((s.zs.length : Int) - 1)).plain (by simp [renL, AV.ren]) rfl)) ?_
      refine rs rfl rfl (ok_move (.inr rfl)) ?_
      refine ro_nil ?_
      refine keepK hK19 [2, 3, 4, 6, 38] (by dsimp) (by dsimp) ?_
      refine T.cond rfl (fun hc => ?_) (fun hc => ?_) -- cond 5
      ·(try simp only [dE] at hc)
       refine T.drawH mixed [7, 8] ?_
       refine any_take 0 rfl (by first | rfl | decide +kernel) rfl (HeldL.refl _) (fun H' hH => OpOk.step (ok_load rfl ti_api_State (locA_held hH rfl) rfl)) ?_
       refine any_take 1 rfl (by first | rfl | decide +kernel) rfl (HeldL.refl _) (fun H' hH => OpOk.step (ok_fieldAddr rfl ti_api_State rfl rfl ti_Lapi_Zone (by decide) rfl)) ?_
       refine any_take 2 rfl (by first | rfl | decide +kernel) rfl (HeldL.refl _) (fun H' hH => OpOk.step (ok_load rfl ti_Lapi_Zone (locA_held hH rfl) rfl)) ?_
       refine any_take 3 rfl (by first | rfl | decide +kernel) rfl (HeldL.refl _) (fun H' hH => OpOk.step (ok_fieldAddr rfl ti_api_Rec rfl rfl ti_int (by decide) rfl)) ?_
       refine any_take 4 rfl (by first | rfl | decide +kernel) rfl (HeldL.refl _) (fun H' hH => OpOk.step (ok_load rfl ti_int (locA_held hH rfl) rfl)) ?_
       refine any_take 5 rfl (by first | rfl | decide +kernel) rfl (HeldL.refl _) (fun H' hH => OpOk.step (by exact ok_index_sl (b := ZR s.zs j (ZnS z (.sl 5 0 z.pars.length))) rfl ti_Lapi_Zone rfl ti_api_Zone rfl (hH.get rfl) rfl rfl (by omega) (by omega))) ?_
       refine any_take 6 rfl (by first | rfl | decide +kernel) rfl (HeldL.refl _) (fun H' hH => OpOk.step (ok_load rfl ti_api_Rec (locA_held hH rfl) rfl)) ?_
       refine any_one 7 rfl (by first | rfl | decide +kernel) rfl rfl (ok_call rfl rfl rfl (((schange_ok s x j z hz hck (by have := hrs.2.2.2.2.2.2.2.1 z (List.mem_of_getElem? hz); exact this.1) (by omega) (by omega) (hl z (List.mem_of_getElem? hz)) hx).pass [3, 4, 5] (by decide) (by simp) (by exact heap3 (ib_ren _ _) (ZR_ren (by decide) _ _ _ _) (prb_ren _ _)) (by
  have hjz := hjx (by omega)
  rw [Nat.zero_add, ← hjz]
  simp [renL, AV.ren, RcC_take, RcC_ren, StS_take, StS_ren, pos345.1, pos345.2])).eq (x' := .b (stepZ s.c s.zs (decide (2 ∈ s.st)) z x).isSome) (H'' := [some (SB s (.sl 3 0 s.st.length) (.sl 4 0 s.zs.length)), some (RcB x), some Z15, some ⟨1, true, ints .i64 s.st⟩, some ⟨6, true, Zns (s.zs.set j ((stepZ s.c s.zs (decide (2 ∈ s.st)) z x).getD z))⟩, none]) rfl (heap6 rfl rfl rfl (ib_ren _ _) (znb_ren _ _) rfl))) (.inl (by simp)) ?_
       refine any_one 8 rfl (by first | rfl | decide +kernel) rfl rfl (OpOk.step (ok_move (.inr rfl))) (.inl (by simp)) ?_
       refine any_done rfl ?_
       refine keepK hK12 [2, 3, 4, 6] (by dsimp) (by dsimp) ?_
       refine T.seq fun K20 hK20 => ?_
       refine T.seq fun K21 hK21 => ?_
       refine T.region ?_
       refine rs rfl rfl (ok_move (.inl rfl)) ?_
       refine rs rfl rfl (ok_unOp rfl rfl) ?_
       refine ro_nil ?_
       refine keepK hK21 [2, 3, 4, 55] (by dsimp) (by dsimp) ?_
       refine T.cond rfl (fun hc => ?_) (fun hc => ?_) -- cond 6
       ·(try simp only [dE] at hc)
        refine T.seq fun K22 hK22 => ?_
        refine T.region ?_
        refine rs rfl rfl (ok_build rfl ti_api_State rfl) ?_
        refine rs rfl rfl (ok_store rfl ti_api_State (by decide) rfl rfl rfl rfl rfl (by first | exact Nat.le_of_ble_eq_true rfl | simp) (by first | exact .inl ⟨rfl, rfl⟩ | exact .inr rfl)) ?_
        refine rs rfl rfl (ok_move (.inr rfl)) ?_
        refine ro_nil ?_
        refine keepK hK22 [4, 5] (by dsimp) (by dsimp) ?_
        refine T.ret (hQ _ _ _ rfl ?_).1 -- ret 7
        exact by (rw [applyS_bad hrs (by unfold Goes; omega) (by rw [stepS_zn (by assumption) (by omega) (by rw [← hjx (by omega)]; exact hz)]; simp_all)]; exact ap_no (e := 13) rfl rfl)
       ·(try simp only [dE] at hc)
        refine T.skip ?_
        refine keepK hK20 [2, 3, 4] (by dsimp) (by dsimp) ?_
        refine T.seq fun K23 hK23 => ?_
        refine T.region ?_
        refine rs rfl rfl (ok_fieldAddr rfl ti_api_Rec rfl rfl ti_int (by decide) rfl) ?_
        refine rs rfl rfl (ok_load rfl ti_int rfl rfl) ?_
        refine rs rfl rfl (ok_fieldAddr rfl ti_api_State rfl rfl ti_int (by decide) rfl) ?_
        refine rs rfl rfl (ok_store rfl ti_int (by decide) rfl rfl rfl rfl rfl (by first | exact Nat.le_of_ble_eq_true rfl | simp) (by first | exact .inl ⟨rfl, rfl⟩ | exact .inr rfl)) ?_
        refine ro_nil ?_
        refine keepK hK23 [2, 4] (by dsimp) (by dsimp) ?_
        refine T.seq fun K24 hK24 => ?_
        refine T.region ?_
        refine rs rfl rfl (ok_load rfl ti_api_State rfl rfl) ?_
        refine rs rfl rfl (ok_store rfl ti_api_State (by decide) rfl rfl rfl rfl rfl (by first | exact Nat.le_of_ble_eq_true rfl | simp) (by first | exact .inl ⟨rfl, rfl⟩ | exact .inr rfl)) ?_
        refine rs rfl rfl (ok_move (.inr rfl)) ?_
        refine ro_nil ?_
        refine keepK hK24 [4, 5] (by dsimp) (by dsimp) ?_
        refine T.ret (hQ _ _ _ rfl ?_).1 -- ret 8
        obtain ⟨z', hz'⟩ := Option.isSome_iff_exists.1 (by assumption)
        have hjz := hjx (by omega)
        have e := applyS_ok (t := { s with zs := s.zs.set j z', sq := x.seq }) hrs (x := x) (by unfold Goes; omega) (by rw [stepS_zn (by assumption) (by omega) (by rw [← hjz]; exact hz), hz', ← hjz]; rfl)
        rw [e]
        exact ap_ok _ rfl rfl rfl (by simp) rfl (by show some (⟨6, true, Zns (s.zs.set j ((stepZ s.c s.zs (decide (2 ∈ s.st)) z x).getD z))⟩ : Blk) = _; rw [hz']; rfl)
      ·(try simp only [dE] at hc)
       refine T.skip ?_
       refine keepK hK12 [2, 3, 4, 6] (by dsimp) (by dsimp) ?_
       refine T.seq fun K25 hK25 => ?_
       refine T.seq fun K26 hK26 => ?_
       refine T.region ?_
       refine rs rfl rfl (ok_moveb (c := false) (.inl rfl) rfl) ?_
       refine rs rfl rfl (ok_unOp rfl rfl) ?_
       refine ro_nil ?_
       refine keepK hK26 [2, 3, 4, 55] (by dsimp) (by dsimp) ?_
       refine T.cond rfl (fun hc => ?_) (fun hc => ?_) -- cond 7
       ·(try simp only [dE] at hc)
        refine T.seq fun K27 hK27 => ?_
        refine T.region ?_
        refine rs rfl rfl (ok_build rfl ti_api_State rfl) ?_
        refine rs rfl rfl (ok_store rfl ti_api_State (by decide) rfl rfl rfl rfl rfl (by first | exact Nat.le_of_ble_eq_true rfl | simp) (by first | exact .inl ⟨rfl, rfl⟩ | exact .inr rfl)) ?_
        refine rs rfl rfl (ok_move (.inr rfl)) ?_
        refine ro_nil ?_
        refine keepK hK27 [4, 5] (by dsimp) (by dsimp) ?_
        refine T.ret (hQ _ _ _ rfl ?_).1 -- ret 9
        exact by (rw [applyS_bad hrs (by unfold Goes; omega) (stepS_no (by assumption) (by omega))]; exact ap_no (e := 13) rfl rfl)
       ·(try simp only [dE] at hc)
        refine T.skip ?_
        refine keepK hK25 [2, 3, 4] (by dsimp) (by dsimp) ?_
        refine T.seq fun K28 hK28 => ?_
        refine T.region ?_
        refine rs rfl rfl (ok_fieldAddr rfl ti_api_Rec rfl rfl ti_int (by decide) rfl) ?_
        refine rs rfl rfl (ok_load rfl ti_int rfl rfl) ?_
        refine rs rfl rfl (ok_fieldAddr rfl ti_api_State rfl rfl ti_int (by decide) rfl) ?_
        refine rs rfl rfl (ok_store rfl ti_int (by decide) rfl rfl rfl rfl rfl (by first | exact Nat.le_of_ble_eq_true rfl | simp) (by first | exact .inl ⟨rfl, rfl⟩ | exact .inr rfl)) ?_
        refine ro_nil ?_
        refine keepK hK28 [2, 4] (by dsimp) (by dsimp) ?_
        refine T.seq fun K29 hK29 => ?_
        refine T.region ?_
        refine rs rfl rfl (ok_load rfl ti_api_State rfl rfl) ?_
        refine rs rfl rfl (ok_store rfl ti_api_State (by decide) rfl rfl rfl rfl rfl (by first | exact Nat.le_of_ble_eq_true rfl | simp) (by first | exact .inl ⟨rfl, rfl⟩ | exact .inr rfl)) ?_
        refine rs rfl rfl (ok_move (.inr rfl)) ?_
        refine ro_nil ?_
        refine keepK hK29 [4, 5] (by dsimp) (by dsimp) ?_
        refine T.ret (hQ _ _ _ rfl ?_).1 -- ret 10
        exact by exact absurd hc (by decide)
end Go.Proofs.YtjklgbafnfoolaaGreat.AmF
