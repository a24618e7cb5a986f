/- Any range of blocks split at the zones' ends: as the reference splits it block by block; joined it stays as it is, and has as many blocks as were asked. No condition. -/
import Derived.Test.YthpggaglmdnncaaFAskFlatSplits
import Derived.Test.YthpggaglmdnncaaFFlatConf
namespace Go.Proofs.Ythpggaglmdnncaa.Pure
open Go.RowKit Go.Proofs.Ythpggaglmdnncaa.M Go.Proofs.Ythpggaglmdnncaa.ConfLib Go.Proofs.Ythpggaglmdnncaa.FlatLib Go.Proofs.Ythpggaglmdnncaa.FlatConf Go.Proofs.Ythpggaglmdnncaa.AskFlatSplits Go.Proofs.YthpggaglmdnncaaW.PrintWords Go.Proofs.YthpggaglmdnncaaW.PrintLast Go.Proofs.YthpggaglmdnncaaW.PrintMore Go.Proofs.YthpggaglmdnncaaW.MyWords Go.Proofs.YthpggaglmdnncaaW.MyPure
theorem lst_app (acc : List RG) (x : RG) : lst (acc ++ [x]) = x := by
  unfold lst
  simp
theorem cnts_app (acc : List RG) (x : RG) : cnts (acc ++ [x]) = cnts acc + cnt x := by
  unfold cnts
  simp
theorem set_app (acc : List RG) (x y : RG) : (acc ++ [x]).set ((acc ++ [x]).length - 1) y = acc ++ [y] := by
  simp
theorem fold_app (acc : List RG) (x : RG) (h : acc.foldl jstep [] = acc) (h1 : 1 ≤ x.f2) (h2 : acc = [] ∨ (lst acc).f0 ≠ x.f0) : (acc ++ [x]).foldl jstep [] = acc ++ [x] := by
  rw [List.foldl_append, h]
  simp only [List.foldl_cons, List.foldl_nil]
  unfold jstep
  rw [if_neg (by omega)]
  rcases h2 with rfl | h2
  · rw [if_neg (by simp)]
  · rw [if_neg (fun q => h2 q.2.1)]
section
variable {i v1 v2 v3 v4 v5 v6 v7 v8 v9 v10 : Int}
theorem ref_one (hc : conf_Check.v i v1 v2 v3 v4 v5 v6 v7 v8 v9 v10 = 0) (k : Nat) (hk : 10 < k) (x1 x2 j : Int) (acc : List RG) (h0 : 0 ≤ j) (h1 : j < x1 + x2) (h2 : x1 + x2 ≤ 4000) (h3 : acc.length ≤ 4000)
    (hb : acc = [] ∨ j % SZ v1 v2 v3 v4 v5 v6 v7 v8 v9 v10 = 0) :
    revetmentref33_Split.l0 (k + 1) x1 x2 acc j i v1 v2 v3 v4 v5 v6 v7 v8 v9 v10 = revetmentref33_Split.l0 k x1 x2 (acc ++ [⟨j / SZ v1 v2 v3 v4 v5 v6 v7 v8 v9 v10, j % SZ v1 v2 v3 v4 v5 v6 v7 v8 v9 v10, 1⟩]) (j + 1) i v1 v2 v3 v4 v5 v6 v7 v8 v9 v10 := by
  obtain ⟨g1, g2, g3, g4⟩ := good hc
  have hq := Int.ediv_nonneg h0 (by omega : 0 ≤ SZ v1 v2 v3 v4 v5 v6 v7 v8 v9 v10)
  have hq2 : j / SZ v1 v2 v3 v4 v5 v6 v7 v8 v9 v10 ≤ j := Int.ediv_le_self _ h0
  rw [revetmentref33_Split.l0, wrap64_id (i := x1 + x2) (by omega) (by omega), if_pos h1, ref_size _ _ _ _ _ _ _ _ _ _ _ k hk]
  simp only [Option.bind_some]
  rw [if_neg (by omega), if_neg (by omega), Int.tdiv_eq_ediv_of_nonneg h0, Int.tmod_eq_emod_of_nonneg h0, wrap64_id (i := j / _) (by omega) (by omega), wrap64_id (i := j + 1) (by omega) (by omega)]
  rcases hb with rfl | hb
  · rw [if_neg (by simp), if_pos (by simp)]
  · rw [hb]
    by_cases c : (acc.length : Int) > 0
    · rw [if_pos c, if_neg (by omega), if_pos (by omega)]
    · rw [if_neg c, if_pos (by omega)]
theorem ref_more (hc : conf_Check.v i v1 v2 v3 v4 v5 v6 v7 v8 v9 v10 = 0) (k : Nat) (hk : 10 < k) (x1 x2 j : Int) (acc : List RG) (q p m : Int) (h0 : 0 ≤ j) (h1 : j < x1 + x2) (h2 : x1 + x2 ≤ 4000) (h3 : acc.length ≤ 4000)
    (hb : 0 < j % SZ v1 v2 v3 v4 v5 v6 v7 v8 v9 v10) (hm : 0 ≤ m) (hm2 : m ≤ 4000) :
    revetmentref33_Split.l0 (k + 1) x1 x2 (acc ++ [⟨q, p, m⟩]) j i v1 v2 v3 v4 v5 v6 v7 v8 v9 v10 = revetmentref33_Split.l0 k x1 x2 (acc ++ [⟨q, p, m + 1⟩]) (j + 1) i v1 v2 v3 v4 v5 v6 v7 v8 v9 v10 := by
  obtain ⟨g1, g2, g3, g4⟩ := good hc
  have hl : (acc ++ [(⟨q, p, m⟩ : RG)]).length = acc.length + 1 := by simp
  have w1 : wrap64 (((acc ++ [(⟨q, p, m⟩ : RG)]).length : Int) - 1) = ((acc ++ [(⟨q, p, m⟩ : RG)]).length : Int) - 1 := wrap64_id (by omega) (by omega)
  have e1 : (((acc ++ [(⟨q, p, m⟩ : RG)]).length : Int) - 1).toNat = (acc ++ [(⟨q, p, m⟩ : RG)]).length - 1 := by omega
  rw [revetmentref33_Split.l0, wrap64_id (i := x1 + x2) (by omega) (by omega), if_pos h1, ref_size _ _ _ _ _ _ _ _ _ _ _ k hk]
  simp only [Option.bind_some]
  rw [if_neg (by omega), if_neg (by omega), Int.tmod_eq_emod_of_nonneg h0, wrap64_id (i := j + 1) (by omega) (by omega), if_pos (by omega), if_pos (by omega), w1, if_pos (by omega), if_pos (by omega), rd_lst (by omega), lst_app, e1, set_app, wrap64_id (i := m + 1) (by omega) (by omega)]
theorem ref_piece (hc : conf_Check.v i v1 v2 v3 v4 v5 v6 v7 v8 v9 v10 = 0) (x1 x2 n : Int) (acc : List RG) (h0 : 0 ≤ n) (h2 : x1 + x2 ≤ 4000) (h3 : acc.length ≤ 4000)
    (hb : acc = [] ∨ n % SZ v1 v2 v3 v4 v5 v6 v7 v8 v9 v10 = 0) : ∀ (m k : Nat), 10 < k → n + m + 1 ≤ x1 + x2 → n % SZ v1 v2 v3 v4 v5 v6 v7 v8 v9 v10 + m + 1 ≤ SZ v1 v2 v3 v4 v5 v6 v7 v8 v9 v10 →
    revetmentref33_Split.l0 (k + (m + 1)) x1 x2 acc n i v1 v2 v3 v4 v5 v6 v7 v8 v9 v10 = revetmentref33_Split.l0 k x1 x2 (acc ++ [⟨n / SZ v1 v2 v3 v4 v5 v6 v7 v8 v9 v10, n % SZ v1 v2 v3 v4 v5 v6 v7 v8 v9 v10, (m : Int) + 1⟩]) (n + m + 1) i v1 v2 v3 v4 v5 v6 v7 v8 v9 v10 := by
  obtain ⟨g1, g2, g3, g4⟩ := good hc
  intro m
  induction m with
  | zero =>
    intro k hk h4 h5
    have := ref_one hc k hk x1 x2 n acc h0 (by omega) h2 h3 hb
    simpa using this
  | succ m ih =>
    intro k hk h4 h5
    have e : k + (m + 1 + 1) = (k + 1) + (m + 1) := by omega
    have r0 := Int.emod_nonneg n (by omega : SZ v1 v2 v3 v4 v5 v6 v7 v8 v9 v10 ≠ 0)
    have hj : (n + m + 1) % SZ v1 v2 v3 v4 v5 v6 v7 v8 v9 v10 = n % SZ v1 v2 v3 v4 v5 v6 v7 v8 v9 v10 + m + 1 := by
      rw [Int.add_assoc, Int.add_emod, Int.emod_eq_of_lt (a := (m : Int) + 1) (by omega) (by omega), Int.emod_eq_of_lt (by omega) (by omega)]
      omega
    rw [e, ih (k + 1) (by omega) (by omega) (by omega), ref_more hc k hk x1 x2 (n + m + 1) acc _ _ ((m : Int) + 1) (by omega) (by omega) h2 h3 (by omega) (by omega) (by omega)]
    have e2 : ((m + 1 : Nat) : Int) = (m : Int) + 1 := by omega
    rw [e2]
    congr 1
    omega
theorem split_loop (hc : conf_Check.v i v1 v2 v3 v4 v5 v6 v7 v8 v9 v10 = 0) (ht : TT i v1 v2 v3 v4 v5 v6 v7 v8 v9 v10 ≤ 2000) (x1 x2 : Int) : ∀ (d k k' : Nat) (n c : Int) (acc : List RG), 0 ≤ n → 0 ≤ c → c ≤ d → n + c ≤ TT i v1 v2 v3 v4 v5 v6 v7 v8 v9 v10 → x1 + x2 = n + c →
    (acc = [] ∨ (n % SZ v1 v2 v3 v4 v5 v6 v7 v8 v9 v10 = 0 ∧ (lst acc).f0 < n / SZ v1 v2 v3 v4 v5 v6 v7 v8 v9 v10)) → acc.foldl jstep [] = acc → acc.length + c ≤ 2000 → d < k → c + 11 < k' →
    ∃ L, flat_Split.l0 k n c acc i v1 v2 v3 v4 v5 v6 v7 v8 v9 v10 = some L ∧ revetmentref33_Split.l0 k' x1 x2 acc n i v1 v2 v3 v4 v5 v6 v7 v8 v9 v10 = some L ∧ L.foldl jstep [] = L ∧ cnts L = cnts acc + c ∧ L.length ≤ 2000 := by
  obtain ⟨g1, g2, g3, g4⟩ := good hc
  have fin : ∀ (k k' : Nat) (n : Int) (acc : List RG), 0 ≤ n → x1 + x2 = n → n ≤ 2000 → 0 < k → 0 < k' → flat_Split.l0 k n 0 acc i v1 v2 v3 v4 v5 v6 v7 v8 v9 v10 = some acc ∧ revetmentref33_Split.l0 k' x1 x2 acc n i v1 v2 v3 v4 v5 v6 v7 v8 v9 v10 = some acc := by
    intro k k' n acc h0 hx hn hk hk'
    obtain ⟨k, rfl⟩ : ∃ q, k = q + 1 := ⟨k - 1, by omega⟩
    obtain ⟨k', rfl⟩ : ∃ q, k' = q + 1 := ⟨k' - 1, by omega⟩
    constructor
    · rw [flat_Split.l0, if_neg (by omega)]
    · rw [revetmentref33_Split.l0, wrap64_id (by omega) (by omega), if_neg (by omega)]
  intro d
  induction d with
  | zero =>
    intro k k' n c acc h0 hc0 hcd hnc hx hb hj hl hk hk'
    obtain rfl : c = 0 := by omega
    obtain ⟨f1, f2⟩ := fin k k' n acc h0 (by omega) (by omega) (by omega) (by omega)
    exact ⟨acc, f1, f2, hj, by omega, by omega⟩
  | succ d ih =>
    intro k k' n c acc h0 hc0 hcd hnc hx hb hj hl hk hk'
    by_cases c0 : c = 0
    · subst c0
      obtain ⟨f1, f2⟩ := fin k k' n acc h0 (by omega) (by omega) (by omega) (by omega)
      exact ⟨acc, f1, f2, hj, by omega, by omega⟩
    obtain ⟨k, rfl⟩ : ∃ q, k = q + 1 := ⟨k - 1, by omega⟩
    obtain ⟨_, d0, d1, d2, d3, d4⟩ := div_in (i := i) (v1 := v1) (v2 := v2) (v3 := v3) (v4 := v4) (v5 := v5) (v6 := v6) (v7 := v7) (v8 := v8) (v9 := v9) (v10 := v10) n h0 (by omega)
    rw [flat_Split.l0, if_pos (by omega), of_yes n h0 (by omega), size_f]
    simp only [Option.bind_some]
    rw [wrap64_id (i := SZ v1 v2 v3 v4 v5 v6 v7 v8 v9 v10 - n % SZ v1 v2 v3 v4 v5 v6 v7 v8 v9 v10) (by omega) (by omega), if_pos (by omega)]
    have hm1 : 1 ≤ mn c (SZ v1 v2 v3 v4 v5 v6 v7 v8 v9 v10 - n % SZ v1 v2 v3 v4 v5 v6 v7 v8 v9 v10) := by unfold mn; split <;> omega
    have hm2 : mn c (SZ v1 v2 v3 v4 v5 v6 v7 v8 v9 v10 - n % SZ v1 v2 v3 v4 v5 v6 v7 v8 v9 v10) ≤ c := by unfold mn; split <;> omega
    have hm3 : mn c (SZ v1 v2 v3 v4 v5 v6 v7 v8 v9 v10 - n % SZ v1 v2 v3 v4 v5 v6 v7 v8 v9 v10) ≤ SZ v1 v2 v3 v4 v5 v6 v7 v8 v9 v10 - n % SZ v1 v2 v3 v4 v5 v6 v7 v8 v9 v10 := by unfold mn; split <;> omega
    have hm4 : mn c (SZ v1 v2 v3 v4 v5 v6 v7 v8 v9 v10 - n % SZ v1 v2 v3 v4 v5 v6 v7 v8 v9 v10) = c ∨ mn c (SZ v1 v2 v3 v4 v5 v6 v7 v8 v9 v10 - n % SZ v1 v2 v3 v4 v5 v6 v7 v8 v9 v10) = SZ v1 v2 v3 v4 v5 v6 v7 v8 v9 v10 - n % SZ v1 v2 v3 v4 v5 v6 v7 v8 v9 v10 := by unfold mn; split <;> omega
    generalize mn c (SZ v1 v2 v3 v4 v5 v6 v7 v8 v9 v10 - n % SZ v1 v2 v3 v4 v5 v6 v7 v8 v9 v10) = m at hm1 hm2 hm3 hm4 ⊢
    rw [wrap64_id (i := n + m) (by omega) (by omega), wrap64_id (i := c - m) (by omega) (by omega)]
    have hp := ref_piece hc x1 x2 n acc h0 (by omega) (by omega) (by rcases hb with hb | hb; exact .inl hb; exact .inr hb.1) (m.toNat - 1) (k' - m.toNat) (by omega) (by omega) (by omega)
    have ek : k' - m.toNat + (m.toNat - 1 + 1) = k' := by omega
    have em : ((m.toNat - 1 : Nat) : Int) + 1 = m := by omega
    have en : n + ((m.toNat - 1 : Nat) : Int) + 1 = n + m := by omega
    rw [ek, em, en] at hp
    rw [hp]
    have hfold := fold_app acc ⟨n / SZ v1 v2 v3 v4 v5 v6 v7 v8 v9 v10, n % SZ v1 v2 v3 v4 v5 v6 v7 v8 v9 v10, m⟩ hj hm1 (by rcases hb with hb | hb; exact .inl hb; exact .inr (by have := hb.2; simp only; omega))
    have hcn : cnt ⟨n / SZ v1 v2 v3 v4 v5 v6 v7 v8 v9 v10, n % SZ v1 v2 v3 v4 v5 v6 v7 v8 v9 v10, m⟩ = m := by unfold cnt mn mx; simp only; split <;> split <;> omega
    have hca := cnts_app acc ⟨n / SZ v1 v2 v3 v4 v5 v6 v7 v8 v9 v10, n % SZ v1 v2 v3 v4 v5 v6 v7 v8 v9 v10, m⟩
    have hla : (acc ++ [(⟨n / SZ v1 v2 v3 v4 v5 v6 v7 v8 v9 v10, n % SZ v1 v2 v3 v4 v5 v6 v7 v8 v9 v10, m⟩ : RG)]).length = acc.length + 1 := by simp
    by_cases cc : m = c
    · subst cc
      rw [Int.sub_self]
      obtain ⟨f1, f2⟩ := fin k (k' - m.toNat) (n + m) (acc ++ [⟨n / SZ v1 v2 v3 v4 v5 v6 v7 v8 v9 v10, n % SZ v1 v2 v3 v4 v5 v6 v7 v8 v9 v10, m⟩]) (by omega) (by omega) (by omega) (by omega) (by omega)
      exact ⟨_, f1, f2, hfold, by omega, by omega⟩
    · have hr : m = SZ v1 v2 v3 v4 v5 v6 v7 v8 v9 v10 - n % SZ v1 v2 v3 v4 v5 v6 v7 v8 v9 v10 := by omega
      have hn : n + m = SZ v1 v2 v3 v4 v5 v6 v7 v8 v9 v10 * (n / SZ v1 v2 v3 v4 v5 v6 v7 v8 v9 v10 + 1) := by
        rw [Int.mul_add, Int.mul_comm _ (n / _)]
        omega
      have e1 : (n + m) % SZ v1 v2 v3 v4 v5 v6 v7 v8 v9 v10 = 0 := by rw [hn]; exact Int.mul_emod_right _ _
      have e2 : (n + m) / SZ v1 v2 v3 v4 v5 v6 v7 v8 v9 v10 = n / SZ v1 v2 v3 v4 v5 v6 v7 v8 v9 v10 + 1 := by rw [hn]; exact Int.mul_ediv_cancel_left _ (by omega)
      obtain ⟨L, l1, l2, l3, l4, l5⟩ := ih k (k' - m.toNat) (n + m) (c - m) (acc ++ [⟨n / SZ v1 v2 v3 v4 v5 v6 v7 v8 v9 v10, n % SZ v1 v2 v3 v4 v5 v6 v7 v8 v9 v10, m⟩]) (by omega) (by omega) (by omega) (by omega) (by omega)
        (.inr ⟨e1, by rw [lst_app, e2]; simp only; omega⟩) hfold (by omega) (by omega) (by omega)
      exact ⟨L, l1, l2, l3, by omega, l5⟩
theorem split_tells (wv : -9223372036854775808 ≤ v10) (ht : TT i v1 v2 v3 v4 v5 v6 v7 v8 v9 v10 ≤ 2000) (n c : Int) (k : Nat) (hk : 5000 < k) :
    ∃ L, flat_Split.f k i v1 v2 v3 v4 v5 v6 v7 v8 v9 v10 n c = some L ∧ revetmentref33_Split.f k i v1 v2 v3 v4 v5 v6 v7 v8 v9 v10 n c = some L ∧ L.foldl jstep [] = L ∧ (L = [] ∨ cnts L = c) ∧ L.length ≤ 2000 := by
  obtain ⟨t0, t1⟩ := tt_bd (i := i) (v1 := v1) (v2 := v2) (v3 := v3) (v4 := v4) (v5 := v5) (v6 := v6) (v7 := v7) (v8 := v8) (v9 := v9) (v10 := v10)
  obtain ⟨k, rfl⟩ : ∃ q, k = q + 1 := ⟨k - 1, by omega⟩
  have no1 : flat_Split.j0 (k + 1) n c true i v1 v2 v3 v4 v5 v6 v7 v8 v9 v10 = some [] := by rw [flat_Split.j0, if_pos rfl]
  have no2 : revetmentref33_Split.j0 (k + 1) n c [] true i v1 v2 v3 v4 v5 v6 v7 v8 v9 v10 = some [] := by rw [revetmentref33_Split.j0, if_pos rfl]
  unfold flat_Split.f revetmentref33_Split.f
  rw [total_f, ref_total (k + 1) (by omega) wv]
  simp only [Option.bind_some]
  by_cases c1 : n < 0
  · rw [if_pos c1, if_pos c1, no1, no2]; exact ⟨[], rfl, rfl, rfl, .inl rfl, by simp⟩
  rw [if_neg c1, if_neg c1]
  by_cases c2 : c < 0
  · rw [if_pos c2, if_pos c2, no1, no2]; exact ⟨[], rfl, rfl, rfl, .inl rfl, by simp⟩
  rw [if_neg c2, if_neg c2]
  by_cases c3 : n > TT i v1 v2 v3 v4 v5 v6 v7 v8 v9 v10
  · rw [if_pos c3, if_pos c3, no1, no2]; exact ⟨[], rfl, rfl, rfl, .inl rfl, by simp⟩
  rw [if_neg c3, if_neg c3, wrap64_id (by omega) (by omega)]
  by_cases c4 : c > TT i v1 v2 v3 v4 v5 v6 v7 v8 v9 v10 - n
  · rw [decide_eq_true c4, no1, no2]; exact ⟨[], rfl, rfl, rfl, .inl rfl, by simp⟩
  rw [decide_eq_false c4, flat_Split.j0, revetmentref33_Split.j0, if_neg (by decide), if_neg (by decide)]
  by_cases c5 : c = 0
  · subst c5
    obtain ⟨k, rfl⟩ : ∃ q, k = q + 1 := ⟨k - 1, by omega⟩
    rw [flat_Split.l0, if_neg (by omega), revetmentref33_Split.l0, wrap64_id (by omega) (by omega), if_neg (by omega)]
    exact ⟨[], rfl, rfl, rfl, .inl rfl, by simp⟩
  · have hc : conf_Check.v i v1 v2 v3 v4 v5 v6 v7 v8 v9 v10 = 0 := (div_in n (by omega) (by omega)).1
    obtain ⟨L, l1, l2, l3, l4, l5⟩ := split_loop hc ht n c 2000 k k n c [] (by omega) (by omega) (by omega) (by omega) rfl (.inl rfl) rfl (by simp; omega) (by omega) (by omega)
    exact ⟨L, l1, l2, l3, .inr (by rw [l4]; simp [cnts]), l5⟩
theorem FlatSplits_all (wv : -9223372036854775808 ≤ v10) (n c : Int) (k : Nat) (hk : k = 6000) : revetmentlaw33_FlatSplits.f k i v1 v2 v3 v4 v5 v6 v7 v8 v9 v10 n c = some true := by
  unfold revetmentlaw33_FlatSplits.f
  rw [ref_total k (by omega) wv]
  simp only [Option.bind_some]
  by_cases ct : TT i v1 v2 v3 v4 v5 v6 v7 v8 v9 v10 > 2000
  · rw [if_pos ct, live33 _ (by omega)]; rfl
  rw [if_neg ct]
  obtain ⟨L, l1, l2, l3, l4, l5⟩ := split_tells (i := i) (v1 := v1) (v2 := v2) (v3 := v3) (v4 := v4) (v5 := v5) (v6 := v6) (v7 := v7) (v8 := v8) (v9 := v9) wv (by omega) n c k (by omega)
  rw [l1, l2]
  simp only [Option.bind_some]
  rw [same_tells L (by omega) k (by omega)]
  simp only [Option.bind_some]
  rw [if_pos trivial, join_tells L (by omega) k (by omega), l3]
  simp only [Option.bind_some]
  rw [same_tells L (by omega) k (by omega)]
  simp only [Option.bind_some, Bool.not_true]
  obtain ⟨k, rfl⟩ : ∃ q, k = q + 1 := ⟨k - 1, by omega⟩
  rw [revetmentlaw33_FlatSplits.j0, if_neg (by decide), live33 _ (by omega), blocks_tells L (by omega) k (by omega)]
  simp only [Option.bind_some]
  rcases l4 with rfl | l4
  · rw [if_pos (by simp)]
  · by_cases ce : (L.length : Int) = 0
    · rw [if_pos ce]
    · rw [if_neg ce, if_pos l4]
end
theorem FlatSplits : AskFlatSplits.Pure := by
  rintro ⟨i, v1, v2, v3, v4, v5, v6, v7, v8, v9, v10⟩ n c h hn hc
  have hw := wf_i64 h.2.2.2.2.2.2.2.2.2.2
  simp only at hw
  exact ⟨6000, FlatSplits_all hw.1 n c 6000 rfl⟩
end Go.Proofs.Ythpggaglmdnncaa.Pure
