/- Acts on zones: each one's error, and what is left, as the reference has it. -/
import Derived.Test.YthpggaglmdnncaaGZoneLib
import Derived.ArgAppend
import Derived.Below
import Derived.BigQuiet
import Derived.Deep.AppendLies
import Derived.Deep.CutBlock
import Derived.Deep.DeepCutAuto
import Derived.Deep.Draws
import Derived.Deep.LoopGhost
import Derived.Deep.OwnRows
import Derived.Deep.QuietTactic
import Derived.Deep.RegionHeld3
import Derived.KernelRfl
import Derived.Laws.BitsLemmas
import Derived.Laws.BytesArg
import Derived.Laws.IdiomCopy
import Derived.Laws.MakeOwn
import Derived.Laws.OwnMore
import Derived.Laws.Rows
import Derived.Laws.Slices
import Derived.Lib.AppendStr
import Derived.Lib.ConvBytes
import Derived.Maps.AppendAt
import Derived.OrdersHeld
import Derived.OwnWalk
import Derived.RowKit
import Derived.RowKit3
import Derived.Tactics
import Derived.Test.YthpggaglmdnncaaGMyWords
import Derived.Test.YthpggaglmdnncaaProg
import Derived.Test.YthpggaglmdnncaaGWApart
import Derived.Test.YthpggaglmdnncaaGWArr
import Derived.Test.YthpggaglmdnncaaGWAt
import Derived.Test.YthpggaglmdnncaaGWEqStruct
import Derived.Test.YthpggaglmdnncaaGWFoot
import Derived.Test.YthpggaglmdnncaaGWFootNe
import Derived.Test.YthpggaglmdnncaaGWFour
import Derived.Test.YthpggaglmdnncaaGWGuard
import Derived.Test.YthpggaglmdnncaaGWInv
import Derived.Test.YthpggaglmdnncaaGWInvWords
import Derived.Test.YthpggaglmdnncaaGWKept
import Derived.Test.YthpggaglmdnncaaGWLast
import Derived.Test.YthpggaglmdnncaaGWMore
import Derived.Test.YthpggaglmdnncaaGWN
import Derived.Test.YthpggaglmdnncaaGWNEv
import Derived.Test.YthpggaglmdnncaaGWQPut
import Derived.Test.YthpggaglmdnncaaGWRepsOne
import Derived.Test.YthpggaglmdnncaaGWShare
import Derived.Test.YthpggaglmdnncaaGWTab
import Derived.Test.YthpggaglmdnncaaGWWords
import Derived.Test.YthpggaglmdnncaaGWZeros
import Derived.WalkKit
import Derived.WideLaws
import Derived.Test.YthpggaglmdnncaaGM0
import Derived.Test.YthpggaglmdnncaaGMrlaw04
import Derived.Test.YthpggaglmdnncaaGMrlaw04p2
import Derived.Test.YthpggaglmdnncaaGMrlaw04p4
import Derived.Test.YthpggaglmdnncaaGMrref04
import Derived.Test.YthpggaglmdnncaaGMslices
import Derived.Test.YthpggaglmdnncaaGMzone
import Derived.Test.YthpggaglmdnncaaGMzonep3
import Derived.Test.YthpggaglmdnncaaGMzonep4
import Derived.Test.YthpggaglmdnncaaGMzonep5
namespace Go.Proofs.Ythpggaglmdnncaa.ZoneLib
open Go.RowKit Go.Proofs.Ythpggaglmdnncaa.M Go.Proofs.YthpggaglmdnncaaW.PrintWords Go.Proofs.YthpggaglmdnncaaW.PrintLast Go.Proofs.YthpggaglmdnncaaW.PrintMore Go.Proofs.YthpggaglmdnncaaW.MyPure
theorem live04_20 : revetmentlaw04_live.f 20 = some true := by decide +kernel
theorem live04 (k : Nat) (hk : 20 ≤ k) : revetmentlaw04_live.f k = some true := at_rounds (fun k => revetmentlaw04_live.mono k) hk live04_20
theorem crash_tells {cap blk safe : Int} {d : List Int} {L : List ByteArray} (h : Rep cap blk d safe L) (done : Bool) (a : Int) :
    ∃ s' : Int, safe ≤ s' ∧ s' ≤ L.length ∧ zone_Crash.f cap blk d safe done a = some (cap, blk, d.take (blk.toNat * s'.toNat), s', done) ∧ revetmentref04_Crash.f cap blk L safe done a = some (cap, blk, L.take s'.toNat, s', done) ∧ Rep cap blk (d.take (blk.toNat * s'.toNat)) s' (L.take s'.toNat) := by
  have b1 := h.b1
  have b2 := h.b2
  have c2 := h.c2
  have hf := h.fit
  have s0 := h.s0
  have s1 := h.s1
  have hle := h.le
  have hnl := h.nlen
  have em : mx blk 1 = blk := by unfold mx; omega
  have D0 : 0 < (L.length : Int) - safe + 1 := by omega
  have m0 : 0 ≤ mx a 0 := by unfold mx; split <;> omega
  have r0 := Int.emod_nonneg (mx a 0) (by omega : (L.length : Int) - safe + 1 ≠ 0)
  have r1 := Int.emod_lt_of_pos (mx a 0) D0
  generalize hq : mx a 0 % ((L.length : Int) - safe + 1) = q at r0 r1
  refine ⟨safe + q, by omega, by omega, ?_, ?_, ?_⟩
  · unfold zone_Crash.f
    rw [h.wp, em]
    simp only [Option.bind_some]
    have w1 : wrap64 ((L.length : Int) - safe) = L.length - safe := wrap64_id (by omega) (by omega)
    have w2 : wrap64 ((L.length : Int) - safe + 1) = L.length - safe + 1 := wrap64_id (by omega) (by omega)
    have w3 : wrap64 (safe + q) = safe + q := wrap64_id (by omega) (by omega)
    obtain ⟨m1, m2, m3⟩ := h.mul (safe + q) (by omega) (by omega)
    have w4 : wrap64 ((safe + q) * blk) = (safe + q) * blk := wrap64_id (by omega) (by omega)
    rw [w1, w2, hq, w3, w4, if_neg (by omega), if_pos m1, if_pos m2, m3]
    unfold slices_Clone_byte_byte.f
    rw [if_pos (by rw [List.length_take]; omega)]
    rfl
  · unfold revetmentref04_Crash.f
    have w1 : wrap64 ((L.length : Int) - safe) = L.length - safe := wrap64_id (by omega) (by omega)
    have w2 : wrap64 ((L.length : Int) - safe + 1) = L.length - safe + 1 := wrap64_id (by omega) (by omega)
    have w3 : wrap64 (safe + q) = safe + q := wrap64_id (by omega) (by omega)
    have hl : ((L.take (safe + q).toNat).length : Int) = safe + q := by rw [List.length_take]; omega
    rw [w1, w2]
    by_cases c : a < 0
    · have e : mx a 0 = 0 := by unfold mx; omega
      rw [e] at hq
      rw [if_pos c, hq, w3, if_neg (by omega), if_pos (by omega), if_pos (by omega)]
      simp only [Option.bind_some, hl]
    · have e : mx a 0 = a := by unfold mx; omega
      rw [e] at hq
      rw [if_neg c, Int.tmod_eq_emod_of_nonneg (by omega), hq, w3, if_neg (by omega), if_pos (by omega), if_pos (by omega)]
      simp only [Option.bind_some, hl]
  · have hl : (L.take (safe + q).toNat).length = (safe + q).toNat := by rw [List.length_take]; omega
    have hlt : blk.toNat * (safe + q).toNat ≤ blk.toNat * L.length := Nat.mul_le_mul_left _ (by omega)
    have hdl : (d.take (blk.toNat * (safe + q).toNat)).length = blk.toNat * (safe + q).toNat := by rw [List.length_take]; omega
    refine ⟨h.c1, c2, b1, b2, ?_, ?_, by omega, by omega, by omega⟩
    · rw [hl, hdl]
      have e : blk = (blk.toNat : Int) := by omega
      have e2 : ((blk.toNat * (safe + q).toNat : Nat) : Int) = (blk.toNat : Int) * ((safe + q).toNat : Int) := Int.natCast_mul _ _
      rw [e2, ← e]
    · rw [hl, chunks_cut _ _ _ _ (Nat.le_refl _)]
      have := h.eq
      rw [this, chunks_take _ _ _ _ (by omega)]
theorem Rep.safe_to {cap blk safe s : Int} {d : List Int} {L : List ByteArray} (h : Rep cap blk d safe L) (h0 : 0 ≤ s) (h1 : s ≤ L.length) : Rep cap blk d s L := ⟨h.c1, h.c2, h.b1, h.b2, h.len, h.eq, h.fit, h0, h1⟩
theorem act_tells {cap blk safe : Int} {d : List Int} {L : List ByteArray} (h : Rep cap blk d safe L) (done : Bool) (o : Int) (b : List Int) (hb : b.length ≤ 1000000) (n : Int) (k : Nat) (hk : 5000 < k) :
    ∃ d' safe' done' L' e, revetmentlaw04_does.f k cap blk d safe done o b n = some (cap, blk, d', safe', done', e) ∧ revetmentlaw04_should.f k cap blk L safe done o b n = some (cap, blk, L', safe', done', e) ∧ Rep cap blk d' safe' L' ∧
      (o ≠ 2 → safe ≤ safe' ∧ d'.take (blk.toNat * safe.toNat) = d.take (blk.toNat * safe.toNat)) := by
  have s0 := h.s0
  have s1 := h.s1
  unfold revetmentlaw04_does.f revetmentlaw04_should.f
  by_cases o0 : o = 0
  · rw [if_pos o0, if_pos o0]
    rcases append_tells h done b hb k hk with ⟨e, he, a1, a2⟩ | ⟨hd, L', a1, a2, a3, M, hM⟩
    · refine ⟨d, safe, done, L, e, ?_, ?_, h, fun _ => ⟨Int.le_refl _, rfl⟩⟩
      · rw [a1]
        simp only [Option.bind_some, revetmentlaw04_code.f]
        rw [if_neg (by omega)]
      · rw [a2]; rfl
    · refine ⟨d ++ b, safe, done, L', 0, ?_, ?_, a3, fun _ => ⟨Int.le_refl _, ?_⟩⟩
      · rw [a1]
        simp only [Option.bind_some, revetmentlaw04_code.f, if_true]
      · rw [a2]; rfl
      · exact List.take_append_of_le_length (by rw [h.nlen]; exact Nat.mul_le_mul_left _ (by omega))
  rw [if_neg o0, if_neg o0]
  by_cases o1 : o = 1
  · rw [if_pos o1, if_pos o1]
    refine ⟨d, (L.length : Int), done, L, 0, ?_, rfl, h.safe_to (by omega) (Int.le_refl _), fun _ => ⟨s1, rfl⟩⟩
    unfold zone_Flush.f
    rw [h.wp]; rfl
  rw [if_neg o1, if_neg o1]
  by_cases o2 : o = 2
  · rw [if_pos o2, if_pos o2]
    refine ⟨[], 0, false, [], 0, rfl, rfl, ⟨h.c1, h.c2, h.b1, h.b2, by simp, rfl, by have := h.c1; simp; omega, by omega, by simp⟩, fun hne => absurd o2 hne⟩
  rw [if_neg o2, if_neg o2]
  by_cases o3 : o = 3
  · rw [if_pos o3, if_pos o3]
    refine ⟨d, (L.length : Int), true, L, 0, ?_, rfl, h.safe_to (by omega) (Int.le_refl _), fun _ => ⟨s1, rfl⟩⟩
    unfold zone_Finish.f zone_Flush.f
    rw [h.wp]; rfl
  rw [if_neg o3, if_neg o3]
  by_cases o4 : o = 4
  · rw [if_pos o4, if_pos o4]
    obtain ⟨s', h1, h2, h3, h4, h5⟩ := crash_tells h done n
    refine ⟨_, s', done, _, 0, by rw [h3]; rfl, by rw [h4]; rfl, h5, fun _ => ⟨h1, ?_⟩⟩
    rw [List.take_take, Nat.min_eq_left (Nat.mul_le_mul_left _ (by omega))]
  rw [if_neg o4, if_neg o4]
  exact ⟨d, safe, done, L, 0, rfl, rfl, h, fun _ => ⟨Int.le_refl _, rfl⟩⟩
theorem active_tells {cap blk safe : Int} {d : List Int} {L : List ByteArray} (h : Rep cap blk d safe L) (done : Bool) : ∃ b, zone_Active.f cap blk d safe done = some b ∧ revetmentref04_Active.f cap blk L safe done = some b := by
  unfold zone_Active.f revetmentref04_Active.f
  cases done with
  | true => exact ⟨false, by rw [if_pos rfl], by rw [if_pos rfl]⟩
  | false =>
    rw [if_neg (by decide : ¬ (false = true)), if_neg (by decide : ¬ (false = true)), h.wp]
    simp only [Option.bind_some]
    by_cases c : (L.length : Int) > 0
    · exact ⟨_, by rw [if_pos c], by rw [if_pos c]⟩
    · exact ⟨_, by rw [if_neg c], by rw [if_neg c]⟩
abbrev AC := S57
theorem ac_drop (l : List AC) (i : Int) (h0 : 0 ≤ i) (h1 : i < l.length) : l.drop i.toNat = rd_T57 l i :: l.drop (i + 1).toNat := by
  have e : (i + 1).toNat = i.toNat + 1 := by omega
  rw [e, List.drop_eq_getElem_cons (by omega)]
  congr 1
  unfold rd_T57
  rw [List.getD_eq_getElem?_getD, List.getElem?_eq_getElem (by omega)]; rfl
theorem ac_mem {l : List AC} (i : Int) (h0 : 0 ≤ i) (h1 : i < l.length) : rd_T57 l i ∈ l := by
  unfold rd_T57
  rw [List.getD_eq_getElem?_getD, List.getElem?_eq_getElem (by omega)]
  exact List.getElem_mem _
theorem much04_l0 (l : List AC) (hb : ∀ r ∈ l, r.f1.length ≤ 140737488351232) : ∀ (d k : Nat) (n i : Int), 0 ≤ i → i + d = 40 → 2 * d + 4 < k → 0 ≤ n → n ≤ 2000 → i ≤ l.length →
    ∃ b, revetmentlaw04_much.l0 k l n i = some b ∧ (b = false → l.length ≤ 30 ∧ ∀ r ∈ l.drop i.toNat, r.f1.length ≤ 2000) := by
  intro d
  induction d with
  | zero =>
    intro k n i h0 h1 hk hn hn2 hi
    obtain ⟨k, rfl⟩ : ∃ m, k = m + 2 := ⟨k - 2, by omega⟩
    refine ⟨decide ((l.length : Int) > 30), ?_, fun h => ?_⟩
    · simp only [revetmentlaw04_much.l0, revetmentlaw04_much.j1]
      by_cases c : i < (l.length : Int)
      · rw [if_pos c, if_neg (by simp; omega)]
      · rw [if_neg c, if_neg (by simp)]
    · have := of_decide_eq_false h
      omega
  | succ d ih =>
    intro k n i h0 h1 hk hn hn2 hi
    obtain ⟨k, rfl⟩ : ∃ m, k = m + 2 := ⟨k - 2, by omega⟩
    by_cases c : i < (l.length : Int)
    · have hr := hb _ (ac_mem i h0 c)
      by_cases c2 : n + ((rd_T57 l i).f1.length : Int) > 2000
      · refine ⟨true, ?_, fun h => by cases h⟩
        simp only [revetmentlaw04_much.l0, revetmentlaw04_much.j1]
        rw [if_pos c, if_pos (by simp; omega), if_pos h0, if_pos c, wrap64_id (by omega) (by omega), if_pos c2]
      · obtain ⟨b, hb1, hb2⟩ := ih k (n + ((rd_T57 l i).f1.length : Int)) (i + 1) (by omega) (by omega) (by omega) (by omega) (by omega) (by omega)
        refine ⟨b, ?_, fun h => ?_⟩
        · simp only [revetmentlaw04_much.l0, revetmentlaw04_much.j1]
          rw [if_pos c, if_pos (by simp; omega), if_pos h0, if_pos c, wrap64_id (by omega) (by omega), if_neg c2, wrap_succ i h0 (by omega)]
          exact hb1
        · obtain ⟨h3, h4⟩ := hb2 h
          refine ⟨h3, fun r hr => ?_⟩
          rw [ac_drop l i h0 c] at hr
          rcases List.mem_cons.1 hr with rfl | hr
          · omega
          · exact h4 r hr
    · refine ⟨decide ((l.length : Int) > 30), ?_, fun h => ?_⟩
      · simp only [revetmentlaw04_much.l0, revetmentlaw04_much.j1]
        rw [if_neg c, if_neg (by simp)]
      · have := of_decide_eq_false h
        refine ⟨by omega, fun r hr => ?_⟩
        rw [List.drop_of_length_le (by omega)] at hr
        cases hr
theorem much04_tells (l : List AC) (hb : ∀ r ∈ l, r.f1.length ≤ 140737488351232) (k : Nat) (hk : 100 < k) : ∃ b, revetmentlaw04_much.f k l = some b ∧ (b = false → l.length ≤ 30 ∧ ∀ r ∈ l, r.f1.length ≤ 2000) := by
  obtain ⟨b, h1, h2⟩ := much04_l0 l hb 40 k 0 0 (by omega) (by omega) (by omega) (by omega) (by omega) (by omega)
  exact ⟨b, h1, by simpa using h2⟩
end Go.Proofs.Ythpggaglmdnncaa.ZoneLib
