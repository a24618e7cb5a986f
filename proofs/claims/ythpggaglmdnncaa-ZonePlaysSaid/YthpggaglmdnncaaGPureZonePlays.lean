/- What any acts make of a zone: each one's error, the pointers, and whether it is in use, are as the reference has them. No condition. -/
import Derived.Test.YthpggaglmdnncaaGAskZonePlays
import Derived.Test.YthpggaglmdnncaaGZoneActs
namespace Go.Proofs.Ythpggaglmdnncaa.Pure
open Go.RowKit Go.Proofs.Ythpggaglmdnncaa.M Go.Proofs.Ythpggaglmdnncaa.ZoneLib Go.Proofs.Ythpggaglmdnncaa.AskZonePlays Go.Proofs.YthpggaglmdnncaaW.PrintWords Go.Proofs.YthpggaglmdnncaaW.PrintLast Go.Proofs.YthpggaglmdnncaaW.PrintMore Go.Proofs.YthpggaglmdnncaaW.MyPure
theorem zplays_l0 (l : List AC) (hl : l.length ≤ 30) (hb : ∀ r ∈ l, r.f1.length ≤ 2000) : ∀ (n k : Nat) (i cap blk safe : Int) (d : List Int) (L : List ByteArray) (done : Bool), 0 ≤ i → i + n = l.length → n + 5100 < k → Rep cap blk d safe L →
    revetmentlaw04_ZonePlays.l0 k l i cap blk d safe done cap blk L safe done = some true := by
  intro n
  induction n with
  | zero =>
    intro k i cap blk safe d L done h0 h1 hk h
    obtain ⟨k, rfl⟩ := rounds_succ' hk
    simp only [revetmentlaw04_ZonePlays.l0]
    rw [if_neg (by omega), live04 _ (by omega)]
    rfl
  | succ n ih =>
    intro k i cap blk safe d L done h0 h1 hk h
    obtain ⟨k, rfl⟩ := rounds_succ' hk
    have hr := hb _ (ac_mem i h0 (by omega : i < (l.length : Int)))
    simp only [revetmentlaw04_ZonePlays.l0]
    rw [if_pos (by omega), if_pos h0]
    obtain ⟨d', safe', done', L', e, a1, a2, a3, _⟩ := act_tells h done (rd_T57 l i).f0 (rd_T57 l i).f1 (by omega) (rd_T57 l i).f2 k (by omega)
    rw [a1, a2]
    simp only [Option.bind_some]
    obtain ⟨s, g, r1, r2, r3⟩ := read_tells a3 done' 0 (L'.length : Int) k (by omega)
    obtain ⟨act, t1, t2⟩ := active_tells a3 done'
    have g0 : g = 0 := by
      rcases r3 with ⟨_, _, r3⟩ | ⟨r3, _⟩
      · exact absurd ⟨by omega, by omega, by omega⟩ r3
      · exact r3
    rw [r1, r2, a3.look, t1, t2]
    simp only [Option.bind_some, revetmentlaw04_code.f, if_true, g0]
    rw [if_neg (by simp), if_neg (by simp), wrap_succ i h0 (by omega)]
    exact ih k (i + 1) cap blk safe' d' L' done' (by omega) (by omega) (by omega) a3
theorem ZonePlays : AskZonePlays.Pure := by
  intro a b l ha hb hl
  have hrl : ∀ r ∈ l, r.f1.length ≤ 140737488351232 := fun r hr => by have := (hl.2.2 r hr).2.1.2.1; omega
  refine ⟨6000, ?_⟩
  unfold revetmentlaw04_ZonePlays.f
  obtain ⟨m, hm, hm2⟩ := much04_tells l hrl 6000 (by omega)
  rw [hm]
  simp only [Option.bind_some]
  cases m with
  | true => rw [if_pos rfl, live04 _ (by omega)]; rfl
  | false =>
    rw [if_neg (by decide : ¬ (false = true))]
    obtain ⟨h30, h2000⟩ := hm2 rfl
    obtain ⟨cap, blk, h1, h2, h3⟩ := new_tells a b
    rw [h1, h2]
    simp only [Option.bind_some]
    exact zplays_l0 l h30 h2000 l.length 6000 0 cap blk 0 [] [] false (by omega) (by omega) (by omega) h3
end Go.Proofs.Ythpggaglmdnncaa.Pure
