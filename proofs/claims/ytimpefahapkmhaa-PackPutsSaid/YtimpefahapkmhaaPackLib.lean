/- Numbers, truths and texts as bytes, and bytes filled up: as pack lays them and as the reference does. -/
import Derived.Test.YtimpefahapkmhaaMpack
import Derived.Test.YtimpefahapkmhaaMrref01
import Derived.Test.YtimpefahapkmhaaMrlaw01
import Derived.Test.YtimpefahapkmhaaMyPure
namespace Go.Proofs.Ytimpefahapkmhaa.PackLib
open Go.RowKit Go.Proofs.Ytimpefahapkmhaa.M Go.Proofs.YtimpefahapkmhaaW.PrintWords Go.Proofs.YtimpefahapkmhaaW.PrintLast Go.Proofs.YtimpefahapkmhaaW.PrintMore Go.Proofs.YtimpefahapkmhaaW.MyPure
theorem live01_20 : revetmentlaw01_live.f 20 = some true := by decide +kernel
theorem live01 (k : Nat) (hk : 20 ≤ k) : revetmentlaw01_live.f k = some true := at_rounds (fun k => revetmentlaw01_live.mono k) hk live01_20
theorem str_app (a b : List Int) : strOfNums (a ++ b) = strOfNums a ++ strOfNums b := by
  apply ByteArray.ext
  simp [strOfNums]
/-- A number's eight bytes. -/
def wd (n : Int) : List Int := [n % 256, n / 256 % 256, n / 65536 % 256, n / 16777216 % 256, n / 4294967296 % 256, n / 1099511627776 % 256, n / 281474976710656 % 256, n / 72057594037927936 % 256]
theorem wd_len (n : Int) : (wd n).length = 8 := rfl
theorem clone_id (l : List Int) (h : l.length < 140737488355328) : slices_Clone_byte_byte.f l = some l := by unfold slices_Clone_byte_byte.f; rw [if_pos h]
theorem int_step (k : Nat) (n i : Int) (x : List Int) (h0 : 0 ≤ i) (h1 : i < 8) (hx : x.length < 1000000) : pack_Int.l0 (k + 1) n x i = pack_Int.l0 k n (x ++ [n / 2 ^ (8 * i).toNat % 256]) (i + 1) := by
  have e : shr .i64 n (8 * i) = n / 2 ^ (8 * i).toNat := by
    unfold shr
    rw [Nat.min_eq_left (by show _ ≤ 64; omega)]
  rw [pack_Int.l0, if_pos h1, wrap64_id (i := 8 * i) (by omega) (by omega), if_pos (by omega), if_pos (by omega), e, wrap_succ i h0 (by omega)]
theorem int_tells (l : List Int) (n : Int) (k : Nat) (hk : 10 < k) (hl : l.length < 100000) : pack_Int.f k l n = some (l ++ wd n) := by
  obtain ⟨k, rfl⟩ : ∃ q, k = q + 9 := ⟨k - 9, by omega⟩
  unfold pack_Int.f
  rw [clone_id l (by omega)]
  simp only [Option.bind_some]
  rw [int_step _ n 0 _ (by omega) (by omega) (by omega), int_step _ n _ _ (by omega) (by omega) (by simp; omega), int_step _ n _ _ (by omega) (by omega) (by simp; omega), int_step _ n _ _ (by omega) (by omega) (by simp; omega), int_step _ n _ _ (by omega) (by omega) (by simp; omega),
    int_step _ n _ _ (by omega) (by omega) (by simp; omega), int_step _ n _ _ (by omega) (by omega) (by simp; omega), int_step _ n _ _ (by omega) (by omega) (by simp; omega), pack_Int.l0, if_neg (by omega)]
  simp [wd]
theorem ref_step (k : Nat) (v i : Int) (x : List Int) (h0 : 0 ≤ i) (h1 : i < 8) (hv : 0 ≤ v) (hv2 : v < 18446744073709551616) (hx : x.length < 1000000) : revetmentref01_Int.l0 (k + 1) x v i = revetmentref01_Int.l0 k (x ++ [v % 256]) (v / 256) (i + 1) := by
  have e : IntKind.u64.wrap (Int.tdiv v 256) = v / 256 := by
    rw [Int.tdiv_eq_ediv_of_nonneg hv, IntKind.wrap_u64]
    omega
  rw [revetmentref01_Int.l0, if_pos h1, if_pos (by omega), e, Int.tmod_eq_emod_of_nonneg hv, wrap_succ i h0 (by omega)]
  congr 2
  rw [Int.emod_emod_of_dvd _ (Int.dvd_refl _)]
theorem ref_int_tells (n : Int) (k : Nat) (hk : 10 < k) : revetmentref01_Int.f k n = some (wd n) := by
  obtain ⟨k, rfl⟩ : ∃ q, k = q + 9 := ⟨k - 9, by omega⟩
  unfold revetmentref01_Int.f
  rw [IntKind.wrap_u64]
  rw [ref_step _ _ 0 _ (by omega) (by omega) (by omega) (by omega) (by simp), ref_step _ _ _ _ (by omega) (by omega) (by omega) (by omega) (by simp), ref_step _ _ _ _ (by omega) (by omega) (by omega) (by omega) (by simp), ref_step _ _ _ _ (by omega) (by omega) (by omega) (by omega) (by simp),
    ref_step _ _ _ _ (by omega) (by omega) (by omega) (by omega) (by simp), ref_step _ _ _ _ (by omega) (by omega) (by omega) (by omega) (by simp), ref_step _ _ _ _ (by omega) (by omega) (by omega) (by omega) (by simp), ref_step _ _ _ _ (by omega) (by omega) (by omega) (by omega) (by simp), revetmentref01_Int.l0, if_neg (by omega)]
  simp only [wd, List.nil_append, List.cons_append, Option.some.injEq, List.cons.injEq, and_true]
  refine ⟨by omega, by omega, by omega, by omega, by omega, by omega, by omega, by omega⟩
theorem bytes_tells (l x : List Int) (k : Nat) (hk : 10 < k) (hl : l.length < 100000) (hx : x.length < 100000) : pack_Bytes.f k l x = some (l ++ wd x.length ++ x) := by
  unfold pack_Bytes.f
  rw [int_tells l _ k hk hl]
  simp only [Option.bind_some]
  rw [if_pos (by rw [List.length_append, wd_len]; omega)]
theorem ref_bytes_tells (x : List Int) (k : Nat) (hk : 10 < k) (hx : x.length < 100000) : revetmentref01_Bytes.f k x = some (wd x.length ++ x) := by
  unfold revetmentref01_Bytes.f
  rw [ref_int_tells _ k hk]
  simp only [Option.bind_some]
  rw [if_pos (by rw [wd_len]; omega)]
def fl (b : Bool) : List Int := if b then [1] else [0]
theorem flag_tells (l : List Int) (b : Bool) (hl : l.length < 100000) : pack_Flag.f l b = some (l ++ fl b) := by
  unfold pack_Flag.f
  rw [clone_id l (by omega)]
  simp only [Option.bind_some]
  cases b
  · rw [if_neg (by simp), if_pos (by omega)]; rfl
  · rw [if_pos rfl, if_pos (by omega)]; rfl
theorem ref_flag_tells (b : Bool) : revetmentref01_Flag.f b = some (fl b) := by
  unfold revetmentref01_Flag.f
  cases b
  · rw [if_neg (by decide)]; rfl
  · rw [if_pos rfl]; rfl
/-- The unit, in bounds. -/
def un (a : Int) : Int := mn (mx a 1) 65536
theorem un_bd (a : Int) : 1 ≤ un a ∧ un a ≤ 65536 := by unfold un mn mx; omega
theorem pad_l0 (u : Int) (h1 : 1 ≤ u) (h2 : u ≤ 65536) : ∀ (d k : Nat) (x : List Int), x.length < 1000000 → (x.length : Int) % u = (if d = 0 then 0 else u - d) → (d : Int) < u → d < k → x.length + d < 1000000 →
    revetmentref01_Pad.l0 k u x = some (x ++ List.replicate d 0) := by
  intro d
  induction d with
  | zero =>
    intro k x hx hm hd hk _
    obtain ⟨k, rfl⟩ := rounds_succ' hk
    rw [if_pos rfl] at hm
    rw [revetmentref01_Pad.l0, if_neg (by omega), if_pos hm]
    simp
  | succ d ih =>
    intro k x hx hm hd hk hs
    obtain ⟨k, rfl⟩ := rounds_succ' hk
    rw [if_neg (by omega)] at hm
    rw [revetmentref01_Pad.l0, if_neg (by omega), if_neg (by omega), if_pos (by omega)]
    have hl : (x ++ [(0 : Int)]).length = x.length + 1 := by simp
    have hm2 : ((x ++ [(0 : Int)]).length : Int) % u = (if d = 0 then 0 else u - d) := by
      have hq := Int.emod_add_mul_ediv (x.length : Int) u
      rw [hm] at hq
      by_cases c : d = 0
      · subst c
        rw [if_pos rfl]
        have e : ((x ++ [(0 : Int)]).length : Int) = u * ((x.length : Int) / u + 1) := by rw [Int.mul_add]; omega
        rw [e]
        exact Int.mul_emod_right _ _
      · rw [if_neg c]
        have e : ((x ++ [(0 : Int)]).length : Int) = (u - d) + u * ((x.length : Int) / u) := by omega
        rw [e, Int.add_mul_emod_self_left]
        exact Int.emod_eq_of_lt (by omega) (by omega)
    rw [ih k (x ++ [0]) (by omega) hm2 (by omega) (by omega) (by omega), List.append_assoc]
    rfl
theorem ref_pad_un (l : List Int) (a : Int) (k : Nat) (hl : l.length < 100000) : revetmentref01_Pad.f (k + 2) l a = revetmentref01_Pad.l0 k (un a) l := by
  have j1 : ∀ u, revetmentref01_Pad.j1 (k + 1) l u = revetmentref01_Pad.l0 k u l := by
    intro u
    rw [revetmentref01_Pad.j1]
    simp only [Option.bind_some, List.nil_append, List.length_nil]
    rw [if_pos (by omega)]
  unfold revetmentref01_Pad.f
  by_cases c : a < 1
  · rw [if_pos c, revetmentref01_Pad.j0, if_neg (by omega), j1]
    congr 1
    unfold un mn mx; omega
  · rw [if_neg c, revetmentref01_Pad.j0]
    by_cases c2 : a > 65536
    · rw [if_pos c2, j1]
      congr 1
      unfold un mn mx; omega
    · rw [if_neg c2, j1]
      congr 1
      unfold un mn mx; omega
theorem pad_tells (l : List Int) (a : Int) (k : Nat) (hk : 70000 < k) (hl : l.length < 100000) : ∃ x, pack_Pad.f l a = some x ∧ revetmentref01_Pad.f k l a = some x := by
  obtain ⟨k, rfl⟩ : ∃ q, k = q + 2 := ⟨k - 2, by omega⟩
  rw [ref_pad_un l a k hl]
  have e : mn (mx a 1) 65536 = un a := rfl
  unfold pack_Pad.f
  rw [clone_id l (by omega), e]
  simp only [Option.bind_some]
  obtain ⟨h1, h2⟩ := un_bd a
  generalize un a = u at h1 h2
  have r0 := Int.emod_nonneg (l.length : Int) (by omega : u ≠ 0)
  have r1 := Int.emod_lt_of_pos (l.length : Int) (by omega : 0 < u)
  rw [if_neg (by omega)]
  by_cases c : (l.length : Int) % u > 0
  · rw [if_pos c, wrap64_id (by omega) (by omega), if_pos (by omega), if_pos (by omega)]
    refine ⟨_, rfl, ?_⟩
    exact pad_l0 u h1 h2 (u - (l.length : Int) % u).toNat k l (by omega) (by rw [if_neg (by omega)]; omega) (by omega) (by omega) (by omega)
  · rw [if_neg c]
    refine ⟨l, rfl, ?_⟩
    rw [pad_l0 u h1 h2 0 k l (by omega) (by rw [if_pos rfl]; omega) (by omega) (by omega) (by omega)]
    simp
end Go.Proofs.Ytimpefahapkmhaa.PackLib
