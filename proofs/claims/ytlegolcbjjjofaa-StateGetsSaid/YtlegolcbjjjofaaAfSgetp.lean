/- States got of bytes: they are put as these bytes. -/
import Derived.Test.YtlegolcbjjjofaaAfSget2
import Derived.Test.YtlegolcbjjjofaaAfSput1
import Derived.Test.YtlegolcbjjjofaaAfInv
namespace Go.Proofs.Ytlegolcbjjjofaa.AmF
open Go Go.AM
set_option maxRecDepth 100000
set_option linter.unusedSimpArgs false
set_option linter.unusedVariables false
theorem rdN_inv {l : List Int} {a b : Int} (hB : Bytes l) : ∀ n, (rdN l a b n).2 = 0 → l = encs ((List.range n).map (rdV l a b)) ++ l.drop (rdN l a b n).1
  | 0, _ => by simp [encs, rdN]
  | n + 1, h => by
    obtain ⟨h1, h2, h3, h4⟩ := ri_inv (l := l) (p := (rdN l a b n).1) (e := (rdN l a b n).2) (a := a) (b := b) hB h
    have g := rdN_inv hB n h1
    have hL : (List.range (n + 1)).map (rdV l a b) = (List.range n).map (rdV l a b) ++ [rdV l a b n] := by simp [List.range_succ]
    rw [hL, encs_snoc, List.append_assoc]
    exact g.trans (congrArg (encs ((List.range n).map (rdV l a b)) ++ ·) h4)
theorem getC_inv {l : List Int} {c : Cf} (hB : Bytes l) (h : getC l = (c, 0)) : encs c.l = l := by
  by_cases h1 : (rdN l gA gB 11).2 ≠ 0
  · rw [getC_err h1] at h
    exact absurd (Prod.mk.inj h).2 h1
  · by_cases h2 : (rdN l gA gB 11).1 < l.length
    · rw [getC_form h1 h2] at h
      cases h
    · rw [getC_ok h1 h2] at h
      cases h
      have h3 := rdN_inv (a := gA) (b := gB) hB 11 (by simpa using h1)
      rw [List.drop_eq_nil_of_le (by omega), List.append_nil] at h3
      exact h3.symm
theorem pgK_inv {l : List Int} {p : Nat} {e : Int} (hB : Bytes l) : ∀ n, (pgK l p e n).2.2 = 0 → e = 0 ∧ l.drop p = encPs (pgK l p e n).1 ++ l.drop (pgK l p e n).2.1
  | 0, h => ⟨h, rfl⟩
  | n + 1, h => by
    obtain ⟨⟨ps, p1, e1⟩, q1⟩ : ∃ q, pgK l p e n = q := ⟨_, rfl⟩
    obtain ⟨⟨p2, e2, w⟩, q2⟩ : ∃ q, ri l p1 e1 0 1099511627776 = q := ⟨_, rfl⟩
    obtain ⟨⟨p3, e3, x⟩, q3⟩ : ∃ q, rb l p2 e2 1048576 = q := ⟨_, rfl⟩
    have q4 := pgK_succ q1 q2 q3
    rw [q4] at h ⊢
    have ih := pgK_inv (p := p) (e := e) hB n
    rw [q1] at ih
    have i3 := rb_inv (l := l) (p := p2) (e := e2) (m := 1048576) hB
    rw [q3] at i3
    obtain ⟨a1, a2, a3⟩ := i3 h
    have i2 := ri_inv (l := l) (p := p1) (e := e1) (a := 0) (b := 1099511627776) hB
    rw [q2] at i2
    obtain ⟨b1, b2, b3, b4⟩ := i2 a1
    obtain ⟨c1, c2⟩ := ih b1
    refine ⟨c1, ?_⟩
    dsimp only at *
    rw [c2, b4, a3, encPs_append]
    simp [encPs, encP]
theorem zget_inv {l : List Int} {p : Nat} {e : Int} (hB : Bytes l) (h : (zget l p e).2.2 = 0) : e = 0 ∧ l.drop p = encZ (zget l p e).1 ++ l.drop (zget l p e).2.1 := by
  obtain ⟨⟨p1, e1, g⟩, h1⟩ : ∃ q, ri l p e 0 1099511627776 = q := ⟨_, rfl⟩
  obtain ⟨⟨p2, e2, s⟩, h2⟩ : ∃ q, ri l p1 e1 (-1) 64 = q := ⟨_, rfl⟩
  obtain ⟨⟨p3, e3, f⟩, h3⟩ : ∃ q, rf l p2 e2 = q := ⟨_, rfl⟩
  obtain ⟨⟨p4, e4, w⟩, h4⟩ : ∃ q, ri l p3 e3 0 1099511627776 = q := ⟨_, rfl⟩
  obtain ⟨⟨p5, e5, wh⟩, h5⟩ : ∃ q, rf l p4 e4 = q := ⟨_, rfl⟩
  obtain ⟨⟨p6, e6, n0⟩, h6⟩ : ∃ q, ri l p5 e5 0 2 = q := ⟨_, rfl⟩
  have hz : zget l p e = (⟨g, s, f, w, wh, (pgK l p6 e6 n0.toNat).1⟩, (pgK l p6 e6 n0.toNat).2.1, (pgK l p6 e6 n0.toNat).2.2) := by
    unfold zget
    simp only [h1, h2, h3, h4, h5, h6]
  rw [hz] at h ⊢
  obtain ⟨a1, a2⟩ := pgK_inv hB n0.toNat h
  have hlen := pgK_len l p6 e6 n0.toNat
  have i6 := ri_inv (l := l) (p := p5) (e := e5) (a := 0) (b := 2) hB
  rw [h6] at i6
  obtain ⟨b1, b2, b3, b4⟩ := i6 a1
  have i5 := rf_inv (l := l) (p := p4) (e := e4) hB
  rw [h5] at i5
  obtain ⟨c1, c2⟩ := i5 b1
  have i4 := ri_inv (l := l) (p := p3) (e := e3) (a := 0) (b := 1099511627776) hB
  rw [h4] at i4
  obtain ⟨d1, d2, d3, d4⟩ := i4 c1
  have i3 := rf_inv (l := l) (p := p2) (e := e2) hB
  rw [h3] at i3
  obtain ⟨f1, f2⟩ := i3 d1
  have i2 := ri_inv (l := l) (p := p1) (e := e1) (a := -1) (b := 64) hB
  rw [h2] at i2
  obtain ⟨g1, g2, g3, g4⟩ := i2 f1
  have i1 := ri_inv (l := l) (p := p) (e := e) (a := 0) (b := 1099511627776) hB
  rw [h1] at i1
  obtain ⟨k1, k2, k3, k4⟩ := i1 g1
  refine ⟨k1, ?_⟩
  have hn : ((pgK l p6 e6 n0.toNat).1.length : Int) = n0 := by
    have b2 : 0 ≤ n0 := b2
    rw [hlen]; omega
  show l.drop p = encZ ⟨g, s, f, w, wh, (pgK l p6 e6 n0.toNat).1⟩ ++ l.drop (pgK l p6 e6 n0.toNat).2.1
  rw [encZ, headZ]
  dsimp only at *
  rw [hn, k4, g4, f2, d4, c2, b4, a2]
  simp [flagB]
theorem stK_inv {l : List Int} {p : Nat} {e : Int} (hB : Bytes l) : ∀ n, (stK l p e n).2.2 = 0 → e = 0 ∧ l.drop p = encs (stK l p e n).1 ++ l.drop (stK l p e n).2.1
  | 0, h => ⟨h, rfl⟩
  | n + 1, h => by
    obtain ⟨⟨st, p1, e1⟩, q1⟩ : ∃ q, stK l p e n = q := ⟨_, rfl⟩
    obtain ⟨⟨p2, e2, v⟩, q2⟩ : ∃ q, ri l p1 e1 0 2 = q := ⟨_, rfl⟩
    have q4 := stK_succ q1 q2
    rw [q4] at h ⊢
    have ih := stK_inv (p := p) (e := e) hB n
    rw [q1] at ih
    have i2 := ri_inv (l := l) (p := p1) (e := e1) (a := 0) (b := 2) hB
    rw [q2] at i2
    obtain ⟨b1, b2, b3, b4⟩ := i2 h
    obtain ⟨c1, c2⟩ := ih b1
    refine ⟨c1, ?_⟩
    dsimp only at *
    rw [c2, b4, encs_snoc]
    simp
theorem zsK_inv {l : List Int} {p : Nat} {e : Int} (hB : Bytes l) : ∀ n, (zsK l p e n).2.2 = 0 → e = 0 ∧ l.drop p = encZs (zsK l p e n).1 ++ l.drop (zsK l p e n).2.1
  | 0, h => ⟨h, rfl⟩
  | n + 1, h => by
    obtain ⟨⟨zs, p1, e1⟩, q1⟩ : ∃ q, zsK l p e n = q := ⟨_, rfl⟩
    obtain ⟨⟨z, p2, e2⟩, q2⟩ : ∃ q, zget l p1 e1 = q := ⟨_, rfl⟩
    have q4 := zsK_succ q1 q2
    rw [q4] at h ⊢
    have ih := zsK_inv (p := p) (e := e) hB n
    rw [q1] at ih
    have i2 := zget_inv (l := l) (p := p1) (e := e1) hB
    rw [q2] at i2
    obtain ⟨b1, b4⟩ := i2 h
    obtain ⟨c1, c2⟩ := ih b1
    refine ⟨c1, ?_⟩
    dsimp only at *
    rw [c2, b4, encZs_append]
    simp [encZs]
theorem bodyS_inv {l : List Int} {c : Cf} {s : St} {p : Nat} (hB : Bytes l) (h : bodyS l c = (s, p, 0)) : s.c = c ∧ l = (enc s.ep 8 ++ enc s.sq 8) ++ (encs s.st ++ encZs s.zs) ++ l.drop p := by
  obtain ⟨⟨p1, e1, v1⟩, h1⟩ : ∃ q, ri l 0 0 0 1099511627776 = q := ⟨_, rfl⟩
  obtain ⟨⟨p2, e2, v2⟩, h2⟩ : ∃ q, ri l p1 e1 0 1099511627776 = q := ⟨_, rfl⟩
  obtain ⟨⟨st, p3, e3⟩, h3⟩ : ∃ q, stK l p2 e2 c.mem.toNat = q := ⟨_, rfl⟩
  obtain ⟨⟨zs, p4, e4⟩, h4⟩ : ∃ q, zsK l p3 e3 c.zon.toNat = q := ⟨_, rfl⟩
  unfold bodyS at h
  simp only [h1, h2, h3, h4] at h
  cases h
  have i4 := zsK_inv (l := l) (p := p3) (e := e3) hB c.zon.toNat
  rw [h4] at i4
  obtain ⟨a1, a2⟩ := i4 rfl
  have i3 := stK_inv (l := l) (p := p2) (e := e2) hB c.mem.toNat
  rw [h3] at i3
  obtain ⟨b1, b2⟩ := i3 a1
  have i2 := ri_inv (l := l) (p := p1) (e := e1) (a := 0) (b := 1099511627776) hB
  rw [h2] at i2
  obtain ⟨d1, d2, d3, d4⟩ := i2 b1
  have i1 := ri_inv (l := l) (p := 0) (e := 0) (a := 0) (b := 1099511627776) hB
  rw [h1] at i1
  obtain ⟨k1, k2, k3, k4⟩ := i1 d1
  refine ⟨rfl, ?_⟩
  dsimp only at *
  have e0 : l = l.drop 0 := rfl
  rw [a2] at b2
  rw [b2] at d4
  rw [d4] at k4
  rw [List.drop_zero] at k4
  exact k4.trans (by simp)
theorem bodyS_okE (l : List Int) (c : Cf) : okE (bodyS l c).2.2 := zsK_okE (stK_okE (ri_okE (ri_okE (.inl rfl))) _) _
/-- What is got: the bytes of a state that may be; or nothing, and one of two errors. -/
theorem getS_law {b : List Int} (hB : Bytes b) : ((getS b).2 = 0 ∧ RS (getS b).1 ∧ encSt (getS b).1 = b) ∨ ((getS b).1 = St0 ∧ ((getS b).2 = 13 ∨ (getS b).2 = 14)) := by
  by_cases h : b.length < 88
  · rw [getS_1 h]; exact .inr ⟨rfl, .inr rfl⟩
  · obtain ⟨⟨c, ce⟩, hc⟩ : ∃ q, getC (b.take 88) = q := ⟨_, rfl⟩
    by_cases h2 : ce ≠ 0 ∨ chkC c ≠ 0
    · rw [getS_2 h hc h2]; exact .inr ⟨rfl, .inl rfl⟩
    · obtain ⟨rfl, hck⟩ : ce = 0 ∧ chkC c = 0 := by omega
      obtain ⟨⟨s, p, e⟩, hb⟩ : ∃ q, bodyS (b.drop 88) c = q := ⟨_, rfl⟩
      have hok := bodyS_okE (b.drop 88) c
      rw [hb] at hok
      by_cases he : e ≠ 0
      · rw [getS_3 h hc hck hb he]
        refine .inr ⟨rfl, ?_⟩
        rcases hok with h0 | h0 | h0
        · exact absurd h0 he
        · exact .inl h0
        · exact .inr h0
      · obtain rfl : e = 0 := by omega
        by_cases h4 : p < (b.drop 88).length ∨ ¬ RS s
        · rw [getS_4 h hc hck hb h4]; exact .inr ⟨rfl, .inl rfl⟩
        · rw [getS_5 h hc hck hb h4]
          obtain ⟨h5, h6⟩ : ¬ p < (b.drop 88).length ∧ RS s := ⟨fun hp => h4 (.inl hp), Decidable.byContradiction fun hr => h4 (.inr hr)⟩
          refine .inl ⟨rfl, h6, ?_⟩
          obtain ⟨i1, i2⟩ := bodyS_inv (hB.drop 88) hb
          have i4 : (b.drop 88).drop p = [] := List.drop_eq_nil_of_le (by omega)
          rw [i4, List.append_nil] at i2
          have i3 := getC_inv (hB.take 88) hc
          show encSt s = b
          rw [encSt, headS, i1, i3, List.append_assoc, ← i2, List.take_append_drop]
end Go.Proofs.Ytlegolcbjjjofaa.AmF
