/- The check sum of layer 2 equals the reference's sum, of any bytes, and one step from any state on. No condition. -/
import Derived.Test.YtpfonhppmnibkaaAskCrcSums
import Derived.Test.YtpfonhppmnibkaaMyPure
namespace Go.Proofs.Ytpfonhppmnibkaa.Pure
open Go.RowKit Go.Proofs.Ytpfonhppmnibkaa.M Go.Proofs.Ytpfonhppmnibkaa.AskCrcSums Go.Proofs.YtpfonhppmnibkaaW.PrintWords Go.Proofs.YtpfonhppmnibkaaW.PrintLast Go.Proofs.YtpfonhppmnibkaaW.MyPure

/-- One bit's turn. -/
def turn (x : Int) : Int := if x % 2 = 1 then Go.bits .xor .u32 (x / 2) 2197175160 else x / 2
theorem turn_u (x : Int) (h : U32 x) : U32 (turn x) := by
  unfold turn
  split
  · exact bits32 _ _ _
  · have := h.1; have := h.2; unfold U32; omega
def turns : Nat → Int → Int
  | 0, x => x
  | n + 1, x => turns n (turn x)
theorem turns_u : ∀ (n : Nat) (x : Int), U32 x → U32 (turns n x)
  | 0, _, h => h
  | n + 1, x, h => turns_u n _ (turn_u x h)
theorem crc_l0 : ∀ (n : Nat) (k : Nat) (x i : Int), U32 x → 0 ≤ i → i + n = 8 → n < k → crc_Step.l0 k x i = some (turns n x) := by
  intro n
  induction n with
  | zero =>
    intro k x i hx h0 hi hk
    obtain ⟨k, rfl⟩ : ∃ m, k = m + 1 := ⟨k - 1, by omega⟩
    simp only [crc_Step.l0]; rw [if_neg (by omega)]; rfl
  | succ n ih =>
    intro k x i hx h0 hi hk
    obtain ⟨k, rfl⟩ : ∃ m, k = m + 1 := ⟨k - 1, by omega⟩
    simp only [crc_Step.l0]; rw [if_pos (by omega), and1 x hx, wrap_succ i h0 (by omega)]
    have ht := turn_u x hx
    unfold turns turn
    unfold turn at ht
    by_cases c : x % 2 = 1
    · rw [if_pos c, if_pos c]; rw [if_pos c] at ht; exact ih k _ _ ht (by omega) (by omega) (by omega)
    · rw [if_neg c, if_neg c]; rw [if_neg c] at ht; exact ih k _ _ ht (by omega) (by omega) (by omega)
theorem ref_l0 : ∀ (n : Nat) (k : Nat) (x i : Int), U32 x → 0 ≤ i → i + n = 8 → n < k → revetmentref02_Step.l0 k x i = some (turns n x) := by
  intro n
  induction n with
  | zero =>
    intro k x i hx h0 hi hk
    obtain ⟨k, rfl⟩ : ∃ m, k = m + 1 := ⟨k - 1, by omega⟩
    simp only [revetmentref02_Step.l0]; rw [if_neg (by omega)]; rfl
  | succ n ih =>
    intro k x i hx h0 hi hk
    obtain ⟨k, rfl⟩ : ∃ m, k = m + 1 := ⟨k - 1, by omega⟩
    have e1 : Int.tmod x 2 = x % 2 := Int.tmod_eq_emod_of_nonneg hx.1
    have e2 : Int.tdiv x 2 % 4294967296 = x / 2 := by
      rw [Int.tdiv_eq_ediv_of_nonneg hx.1]; have := hx.1; have := hx.2; omega
    simp only [revetmentref02_Step.l0]; rw [if_pos (by omega), e1, e2, wrap_succ i h0 (by omega)]
    have ht := turn_u x hx
    unfold turns turn
    unfold turn at ht
    by_cases c : x % 2 = 1
    · rw [if_pos c, if_pos c]; rw [if_pos c] at ht; exact ih k _ _ ht (by omega) (by omega) (by omega)
    · rw [if_neg c, if_neg c]; rw [if_neg c] at ht; exact ih k _ _ ht (by omega) (by omega) (by omega)
/-- The state behind one byte more. -/
def step (s c : Int) : Int := turns 8 (Go.bits .xor .u32 s c)
theorem step_u (s c : Int) : U32 (step s c) := turns_u _ _ (bits32 _ _ _)
theorem crc_step (k : Nat) (s c : Int) (hc : 0 ≤ c ∧ c < 256) (hk : 8 < k) : crc_Step.f k s c = some (step s c) := by
  unfold crc_Step.f
  rw [show c % 4294967296 = c by omega]
  exact crc_l0 8 k _ 0 (bits32 _ _ _) (by omega) (by omega) hk
theorem ref_step (k : Nat) (s c : Int) (hs : U32 s) (hc : 0 ≤ c ∧ c < 256) (hk : 8 < k) : revetmentref02_Step.f k s c = some (step s c) := by
  unfold revetmentref02_Step.f
  have e : ((((((Int.tdiv s 256) % 4294967296) * 256) % 4294967296) + ((Go.bits .xor .u8 ((Int.tmod s 256) % 256) c) % 4294967296)) % 4294967296) = Go.bits .xor .u32 s c := by
    obtain ⟨n, rfl⟩ := Int.eq_ofNat_of_zero_le hs.1
    obtain ⟨b, rfl⟩ := Int.eq_ofNat_of_zero_le hc.1
    have hn : n < 4294967296 := by have := hs.2; omega
    have hb : b < 256 := by have := hc.2; omega
    rw [xor_nat n b hn (by omega), Int.tdiv_eq_ediv_of_nonneg hs.1, Int.tmod_eq_emod_of_nonneg hs.1]
    have e1 : ((n : Int) % 256) % 256 = ((n % 256 : Nat) : Int) := by omega
    rw [e1, xor8_nat _ b (by omega) hb, xor_low n b hb]
    have hx : (n % 256) ^^^ b < 2 ^ 8 := Nat.xor_lt_two_pow (by omega) hb
    generalize (n % 256) ^^^ b = q at hx ⊢
    omega
  rw [e]
  exact ref_l0 8 k _ 0 (bits32 _ _ _) (by omega) (by omega) hk
theorem over_l1 (l : List Int) (hb : Bytes l) (hl : l.length ≤ 140737488351232) : ∀ (d : Nat) (k : Nat) (s i : Int), U32 s → 0 ≤ i → i + d = l.length → d + 10 < k →
    crc_Over.l1 k s [l] 1 0 l (l.length : Int) i = some (4294967295 - (l.drop i.toNat).foldl step s) := by
  intro d
  induction d with
  | zero =>
    intro k s i hs h0 hi hk
    obtain ⟨k, rfl⟩ : ∃ m, k = m + 1 := ⟨k - 1, by omega⟩
    obtain ⟨k, rfl⟩ : ∃ m, k = m + 1 := ⟨k - 1, by omega⟩
    simp only [crc_Over.l1]; rw [if_neg (by omega), wrap_succ 0 (by omega) (by omega)]
    simp only [crc_Over.l0]; rw [if_neg (by omega), List.drop_of_length_le (by omega), xor_all s hs]
    rfl
  | succ d ih =>
    intro k s i hs h0 hi hk
    obtain ⟨k, rfl⟩ : ∃ m, k = m + 1 := ⟨k - 1, by omega⟩
    simp only [crc_Over.l1]; rw [if_pos (by omega), if_pos h0, if_pos (by omega), crc_step k s _ (rd_byte hb i h0 (by omega)) (by omega)]
    simp only [Option.bind_some]
    rw [wrap_succ i h0 (by omega), ih k _ (i + 1) (step_u _ _) (by omega) (by omega) (by omega), drop_rd l i h0 (by omega)]
    rfl
theorem of_tells (l : List Int) (hb : Bytes l) (hl : l.length ≤ 140737488351232) (k : Nat) (hk : l.length + 20 < k) : crc_Of.f k l = some (4294967295 - l.foldl step 4294967295) := by
  unfold crc_Of.f crc_Over.f
  obtain ⟨k, rfl⟩ : ∃ m, k = m + 1 := ⟨k - 1, by omega⟩
  simp only [crc_Over.l0, List.length_singleton]
  rw [if_pos (by omega), if_pos (by omega), if_pos (by omega)]
  have e : rd_L1 [l] 0 = l := rfl
  rw [e]
  have := over_l1 l hb hl l.length k 4294967295 0 ⟨by omega, by omega⟩ (by omega) (by omega) (by omega)
  rw [show ((1 : Nat) : Int) = 1 from rfl, this]
  rfl
theorem ref_of_l0 (l : List Int) (hb : Bytes l) (hl : l.length ≤ 140737488351232) : ∀ (d : Nat) (k : Nat) (s i : Int), U32 s → 0 ≤ i → i + d = l.length → d + 10 < k →
    revetmentref02_Of.l0 k l s i = some (4294967295 - (l.drop i.toNat).foldl step s) := by
  intro d
  induction d with
  | zero =>
    intro k s i hs h0 hi hk
    obtain ⟨k, rfl⟩ : ∃ m, k = m + 1 := ⟨k - 1, by omega⟩
    simp only [revetmentref02_Of.l0]; rw [if_neg (by omega), List.drop_of_length_le (by omega)]
    have := hs.1; have := hs.2
    rw [show (4294967295 - s) % 4294967296 = 4294967295 - s by omega]
    rfl
  | succ d ih =>
    intro k s i hs h0 hi hk
    obtain ⟨k, rfl⟩ : ∃ m, k = m + 1 := ⟨k - 1, by omega⟩
    simp only [revetmentref02_Of.l0]; rw [if_pos (by omega), if_pos h0, ref_step k s _ hs (rd_byte hb i h0 (by omega)) (by omega)]
    simp only [Option.bind_some]
    rw [wrap_succ i h0 (by omega), ih k _ (i + 1) (step_u _ _) (by omega) (by omega) (by omega), drop_rd l i h0 (by omega)]
    rfl
theorem ref_of_tells (l : List Int) (hb : Bytes l) (hl : l.length ≤ 140737488351232) (k : Nat) (hk : l.length + 20 < k) : revetmentref02_Of.f k l = some (4294967295 - l.foldl step 4294967295) := by
  unfold revetmentref02_Of.f
  have := ref_of_l0 l hb hl l.length k 4294967295 0 ⟨by omega, by omega⟩ (by omega) (by omega) (by omega)
  rw [this]; rfl
theorem live_40 : revetmentlaw02_live.f 40 = some true := by decide +kernel
theorem live (k : Nat) (hk : 40 ≤ k) : revetmentlaw02_live.f k = some true := at_rounds (fun k => revetmentlaw02_live.mono k) hk live_40

theorem CrcSums : AskCrcSums.Pure := by
  intro l a c hl ha hc
  obtain ⟨_, hl, hb⟩ := hl
  refine ⟨l.length + 50, ?_⟩
  have hb' := bytes_of hb
  have ha' : U32 a := wf_u32 ha
  have hc' := wf_u8 hc
  unfold revetmentlaw02_CrcSums.f
  rw [live _ (by omega), of_tells l hb' (by omega) _ (by omega), ref_of_tells l hb' (by omega) _ (by omega), crc_step _ a c hc' (by omega), ref_step _ a c ha' hc' (by omega)]
  simp

end Go.Proofs.Ytpfonhppmnibkaa.Pure
