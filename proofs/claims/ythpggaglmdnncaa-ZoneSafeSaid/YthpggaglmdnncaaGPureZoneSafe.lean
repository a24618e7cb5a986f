/- What is safe stays, whatever comes, if the zone is not reset; behind a crash what is there is a beginning of what was. No condition. -/
import Derived.Test.YthpggaglmdnncaaGAskZoneSafe
import Derived.Test.YthpggaglmdnncaaGZoneActs
namespace Go.Proofs.Ythpggaglmdnncaa.Pure
open Go.RowKit Go.Proofs.Ythpggaglmdnncaa.M Go.Proofs.Ythpggaglmdnncaa.ZoneLib Go.Proofs.Ythpggaglmdnncaa.AskZoneSafe Go.Proofs.YthpggaglmdnncaaW.PrintWords Go.Proofs.YthpggaglmdnncaaW.PrintLast Go.Proofs.YthpggaglmdnncaaW.PrintMore Go.Proofs.YthpggaglmdnncaaW.MyPure
theorem read_from_0 {cap blk safe : Int} {d : List Int} {L : List ByteArray} (h : Rep cap blk d safe L) (done : Bool) (n : Int) (h0 : 0 ≤ n) (h1 : n ≤ L.length) : zone_Read.f cap blk d safe done 0 n = some (d.take (blk.toNat * n.toNat), 0) := by
  obtain ⟨s, g, r1, _, r3⟩ := read_tells h done 0 n 6000 (by omega)
  rcases r3 with ⟨_, _, r3⟩ | ⟨r3, _, r4⟩
  · exact absurd ⟨by omega, by omega, by omega⟩ r3
  · rw [r1, r3, r4]
    unfold ZoneLib.part
    simp
theorem safe_l0 (l : List AC) (hl : l.length ≤ 30) (hb : ∀ r ∈ l, r.f1.length ≤ 2000) (keep : Int) : ∀ (n k : Nat) (i cap blk safe : Int) (d : List Int) (L : List ByteArray) (done : Bool), 0 ≤ i → i + n = l.length → n + 5100 < k → Rep cap blk d safe L →
    revetmentlaw04_ZoneSafe.l0 k l keep (strOfNums (d.take (blk.toNat * safe.toNat))) i cap blk d safe done = some true := by
  intro n
  induction n with
  | zero =>
    intro k i cap blk safe d L done h0 h1 hk h
    obtain ⟨k, rfl⟩ := rounds_succ' hk
    have hnl := h.nlen
    have hs0 := h.s0
    have hs1 := h.s1
    simp only [revetmentlaw04_ZoneSafe.l0]
    obtain ⟨s', c1, c2, c3, _, c5⟩ := crash_tells h done keep
    have hlt : (L.take s'.toNat).length = s'.toNat := by rw [List.length_take]; omega
    rw [if_neg (by omega), h.look]
    simp only [Option.bind_some]
    rw [read_from_0 h done _ (by omega) (Int.le_refl _), c3]
    simp only [Option.bind_some]
    rw [c5.look]
    simp only [Option.bind_some]
    rw [read_from_0 c5 done _ (by omega) (Int.le_refl _)]
    simp only [Option.bind_some, revetmentlaw04_code.f, hlt, Int.toNat_natCast, strOfNums_size]
    have hle1 : blk.toNat * s'.toNat ≤ blk.toNat * L.length := Nat.mul_le_mul_left _ (by omega)
    have hle2 : blk.toNat * safe.toNat ≤ blk.toNat * s'.toNat := Nat.mul_le_mul_left _ (by omega)
    have e1 : d.take (blk.toNat * L.length) = d := List.take_of_length_le (by omega)
    have e2 : (d.take (blk.toNat * s'.toNat)).take (blk.toNat * s'.toNat) = d.take (blk.toNat * s'.toNat) := by rw [List.take_take, Nat.min_self]
    have e3 : (d.take (blk.toNat * s'.toNat)).length = blk.toNat * s'.toNat := by rw [List.length_take]; omega
    have e4 : (d.take (blk.toNat * safe.toNat)).length = blk.toNat * safe.toNat := by rw [List.length_take]; omega
    have e5 : wrap64 (0 + 0) = 0 := by decide +kernel
    rw [e1, e2, e3, e4, e5, if_pos (rfl : (0 : Int) = 0), if_pos (by omega), if_pos (by omega), if_pos rfl, if_pos (by omega), if_pos (by omega), live04 _ (by omega)]
    rfl
  | succ n ih =>
    intro k i cap blk safe d L done h0 h1 hk h
    obtain ⟨k, rfl⟩ := rounds_succ' hk
    have hr := hb _ (ac_mem i h0 (by omega : i < (l.length : Int)))
    have hnl := h.nlen
    have hs0 := h.s0
    have hs1 := h.s1
    simp only [revetmentlaw04_ZoneSafe.l0]
    rw [if_pos (by omega), if_pos h0, wrap_succ i h0 (by omega)]
    by_cases c : (rd_T57 l i).f0 = 2
    · rw [if_pos c]
      exact ih k (i + 1) cap blk safe d L done (by omega) (by omega) (by omega) h
    rw [if_neg c]
    obtain ⟨d', safe', done', L', e, a1, _, a3, a4⟩ := act_tells h done (rd_T57 l i).f0 (rd_T57 l i).f1 (by omega) (rd_T57 l i).f2 k (by omega)
    obtain ⟨a5, a6⟩ := a4 c
    have hnl' := a3.nlen
    have hs1' := a3.s1
    rw [a1]
    simp only [Option.bind_some]
    rw [a3.look]
    simp only [Option.bind_some]
    rw [read_from_0 a3 done' safe' (by omega) hs1']
    simp only [Option.bind_some, revetmentlaw04_code.f, if_true, strOfNums_size]
    have hle1 : blk.toNat * safe.toNat ≤ blk.toNat * L.length := Nat.mul_le_mul_left _ (by omega)
    have hle2 : blk.toNat * safe.toNat ≤ blk.toNat * safe'.toNat := Nat.mul_le_mul_left _ (by omega)
    have hle3 : blk.toNat * safe'.toNat ≤ blk.toNat * L'.length := Nat.mul_le_mul_left _ (by omega)
    have e3 : (d.take (blk.toNat * safe.toNat)).length = blk.toNat * safe.toNat := by rw [List.length_take]; omega
    have e4 : (d'.take (blk.toNat * safe'.toNat)).length = blk.toNat * safe'.toNat := by rw [List.length_take]; omega
    have e5 : (d'.take (blk.toNat * safe'.toNat)).take (blk.toNat * safe.toNat) = d.take (blk.toNat * safe.toNat) := by rw [List.take_take, Nat.min_eq_left hle2, a6]
    rw [e3, e4, if_neg (by omega), if_pos (by omega), if_pos (by omega), Int.toNat_natCast, e5, if_pos rfl]
    exact ih k (i + 1) cap blk safe' d' L' done' (by omega) (by omega) (by omega) a3
theorem ZoneSafe : AskZoneSafe.Pure := by
  intro a l keep ha hl hk
  have hrl : ∀ r ∈ l, r.f1.length ≤ 140737488351232 := fun r hr => by have := (hl.2.2 r hr).2.1.2.1; omega
  obtain ⟨k, hk6⟩ : ∃ k, k = 6000 := ⟨_, rfl⟩
  refine ⟨k, ?_⟩
  unfold revetmentlaw04_ZoneSafe.f
  obtain ⟨m, hm, hm2⟩ := much04_tells l hrl k (by omega)
  rw [hm]
  simp only [Option.bind_some]
  cases m with
  | true => rw [if_pos rfl, live04 _ (by omega)]; rfl
  | false =>
    rw [if_neg (by decide : ¬ (false = true))]
    obtain ⟨h30, h2000⟩ := hm2 rfl
    obtain ⟨cap, blk, h1, h2, h3⟩ := new_tells 50 (wrap64 a)
    rw [h1]
    simp only [Option.bind_some]
    have q := safe_l0 l h30 h2000 keep l.length k 0 cap blk 0 [] [] false (by omega) (by omega) (by omega) h3
    have e : strOfNums (([] : List Int).take (blk.toNat * (0 : Int).toNat)) = (⟨#[]⟩ : ByteArray) := by rw [List.take_nil]; rfl
    rw [e] at q
    exact q
end Go.Proofs.Ythpggaglmdnncaa.Pure
