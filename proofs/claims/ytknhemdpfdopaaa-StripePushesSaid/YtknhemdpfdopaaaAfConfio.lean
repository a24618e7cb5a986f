/- Walks over the abstract machine: settings as bytes, and got again. -/
import Derived.Test.YtknhemdpfdopaaaAfBack
import Derived.Test.YtknhemdpfdopaaaAfConf
namespace Go.Proofs.Ytknhemdpfdopaaa.AmF
open Go Go.AM
set_option maxRecDepth 100000
set_option linter.unusedSimpArgs false
set_option linter.unusedVariables false
attribute [local simp] tkeep tget tput ev cav argsTM pickA normT putA splice AV.cells ints_length rowsA_length enc_len
theorem pow_split (i : Nat) (h : i < 8) : (18446744073709551616 : Int) = 2 ^ (8 * i) * (256 * 2 ^ (8 * (7 - i))) := by
  match i, h with
  | 0, _ | 1, _ | 2, _ | 3, _ | 4, _ | 5, _ | 6, _ | 7, _ => decide
/-- A byte of a number of 64 bits. -/
theorem byte_u64 (v : Int) (i : Nat) (h : i < 8) : v % 18446744073709551616 / 2 ^ (8 * i) % 256 = v / 2 ^ (8 * i) % 256 := by
  have hA : (0 : Int) < 2 ^ (8 * i) := Int.pow_pos (by decide)
  have h1 := Int.mul_ediv_add_emod v 18446744073709551616
  generalize v / 18446744073709551616 = q at h1
  generalize v % 18446744073709551616 = r at h1 ⊢
  have hs := pow_split i h
  generalize (2 : Int) ^ (8 * (7 - i)) = B at hs
  have h2 : v = r + 2 ^ (8 * i) * (256 * B * q) := by
    rw [← h1, hs, Int.add_comm, Int.mul_assoc]
  rw [h2, Int.add_mul_ediv_left _ _ (by omega), Int.mul_assoc, Int.add_mul_emod_self_left]
theorem div_step (V : Nat) (i : Nat) : V / 2 ^ (8 * (i + 1)) = V / 2 ^ (8 * i) / 256 := by
  rw [Nat.mul_add, Nat.pow_add, Nat.div_div_eq_div_mul]
/-- Numbers as bytes, one behind the other. -/
def encs : List Int → List Int
  | [] => []
  | v :: l => enc v 8 ++ encs l
theorem encs_append (a b : List Int) : encs (a ++ b) = encs a ++ encs b := by
  induction a with
  | nil => rfl
  | cons v a ih => simp [encs, ih]
theorem encs_snoc (a : List Int) (v : Int) : encs (a ++ [v]) = encs a ++ enc v 8 := by rw [encs_append]; simp [encs]
theorem encs_len (l : List Int) : (encs l).length = 8 * l.length := by
  induction l with
  | nil => rfl
  | cons v l ih => simp [encs, ih]; omega
theorem encs_bytes (l : List Int) : Bytes (encs l) := by
  induction l with
  | nil => exact Bytes.nil
  | cons v l ih => exact (enc_bytes _ _).append ih
/-- Numbers read one behind the other between the same bounds: the place and the error behind so many. -/
def rdN (l : List Int) (a b : Int) : Nat → Nat × Int
  | 0 => (0, 0)
  | n + 1 => ((ri l (rdN l a b n).1 (rdN l a b n).2 a b).1, (ri l (rdN l a b n).1 (rdN l a b n).2 a b).2.1)
def rdV (l : List Int) (a b : Int) (n : Nat) : Int := (ri l (rdN l a b n).1 (rdN l a b n).2 a b).2.2
theorem rdN_le (l : List Int) (a b : Int) : ∀ n, (rdN l a b n).1 ≤ l.length
  | 0 => Nat.zero_le _
  | n + 1 => ri_le (rdN_le l a b n)
def rdL (l : List Int) (a b : Int) (i n : Nat) : List Int := (List.range i).map (rdV l a b) ++ List.replicate n 0
theorem rdL_len (l : List Int) (a b : Int) (i n : Nat) : (rdL l a b i n).length = i + n := by simp [rdL]
theorem rdL_put (l : List Int) (a b : Int) (i n : Nat) : splice (ints .i64 (rdL l a b i (n + 1))) i [.int (rdV l a b i)] = ints .i64 (rdL l a b (i + 1) n) := by
  have h1 : (rdL l a b i (n + 1)).take i = (List.range i).map (rdV l a b) := by unfold rdL; exact List.take_left' (by simp)
  have h2 : (rdL l a b i (n + 1)).drop (i + 1) = List.replicate n 0 := by
    unfold rdL
    rw [List.replicate_succ]
    have : (List.range i).map (rdV l a b) ++ 0 :: List.replicate n 0 = ((List.range i).map (rdV l a b) ++ [0]) ++ List.replicate n 0 := by simp
    rw [this]
    exact List.drop_left' (by simp)
  unfold splice
  rw [ints_take, h1]
  simp only [List.length_cons, List.length_nil, Nat.zero_add]
  rw [ints_drop, h2]
  simp [ints, rdL, List.range_succ]
def cf11 (f : Nat → Int) : Cf := ⟨f 0, f 1, f 2, f 3, f 4, f 5, f 6, f 7, f 8, f 9, f 10⟩
def cf0 : Cf := ⟨0, 0, 0, 0, 0, 0, 0, 0, 0, 0, 0⟩
abbrev gA : Int := -4611686018427387904
abbrev gB : Int := 4611686018427387904
/-- Settings read of bytes, and the error. -/
def getC (l : List Int) : Cf × Int :=
  if (rdN l gA gB 11).2 ≠ 0 then (cf0, (rdN l gA gB 11).2) else if (rdN l gA gB 11).1 < l.length then (cf0, 13) else (cf11 (rdV l gA gB), 0)
theorem getC_err {l : List Int} (h : (rdN l gA gB 11).2 ≠ 0) : getC l = (cf0, (rdN l gA gB 11).2) := if_pos h
theorem getC_form {l : List Int} (h : ¬ (rdN l gA gB 11).2 ≠ 0) (h' : (rdN l gA gB 11).1 < l.length) : getC l = (cf0, 13) := by unfold getC; rw [if_neg h, if_pos h']
theorem getC_ok {l : List Int} (h : ¬ (rdN l gA gB 11).2 ≠ 0) (h' : ¬ (rdN l gA gB 11).1 < l.length) : getC l = (cf11 (rdV l gA gB), 0) := by unfold getC; rw [if_neg h, if_neg h']
/-- The pointers, where the settings are the third block. -/
def NB2 : Blk := ⟨1, true, [.ref 2 0 1, .ref 2 0 2, .ref 2 0 3, .ref 2 0 4, .ref 2 0 5, .ref 2 0 6, .ref 2 0 7, .ref 2 0 8, .ref 2 0 9, .ref 2 0 10]⟩
theorem NB2_get {i : Nat} (h : i < 10) : NB2.els[i]? = some (.ref 2 0 (i + 1)) := by
  match i, h with
  | 0, _ | 1, _ | 2, _ | 3, _ | 4, _ | 5, _ | 6, _ | 7, _ | 8, _ | 9, _ => rfl
theorem eqLeafs_ints (k : IntKind) : ∀ (a b : List Int), a.length = b.length → eqLeafs (ints k a) (ints k b) = some (decide (a = b))
  | [], [], _ => by simp [ints, eqLeafs]
  | x :: a, y :: b, h => by
    have ih := eqLeafs_ints k a b (by simpa using h)
    simp only [ints, List.map_cons, eqLeafs, eqLeaf, if_true, Option.bind_some] at ih ⊢
    rw [ih]
    simp only [Option.map_some, Option.some.injEq]
    by_cases h1 : x = y
    · subst h1; simp
    · simp [h1]
theorem Cf.l_inj {c d : Cf} : c.l = d.l ↔ c = d := by
  cases c; cases d; simp [Cf.l]
theorem und_of {P : Program} {t : TypeId} {i : TI} {d : TypeDesc} (hi : tyI P t = some i) (hd : i.desc = d) : P.underlying t = some d := by
  subst hd
  unfold tyI at hi
  obtain ⟨ti, h1, h⟩ := Option.bind_eq_some_iff.1 hi
  obtain ⟨d, h2, h⟩ := Option.bind_eq_some_iff.1 h
  obtain ⟨z, h3, h⟩ := Option.map_eq_some_iff.1 h
  subst h
  exact h2
theorem eq_conf {tm : TM} {H : Heap} {o : Oper} {op : BinOp} {t' : TypeId} {p q : Operand} {c d : Cf} (ho : o.op = .binOp op 39 p q t') (hop : op = .eql ∨ op = .neq) (hp : ev tm p = .agg (CC c)) (hq : ev tm q = .agg (CC d)) :
    OpOk Try.prog tm H o (.b (if op = .eql then decide (c = d) else !decide (c = d))) H := by
  refine ok_eqS ho (und_of ti_api_Conf rfl) (by kernel_rfl) (by kernel_rfl) hop (l := CC c) (m := CC d) (by rw [hp]; rfl) (by rw [hq]; rfl) rfl ?_
  have := eqLeafs_ints .i64 c.l d.l rfl
  rw [CC, CC, this]
  congr 1
  rw [decide_eq_decide]
  exact Cf.l_inj
abbrev plainC : Cf := ⟨7, 4, 2, 64, 24, 3, 1, 3, 2, 3, 7⟩
theorem plain_vals : chkC plainC = 0 ∧ rowC plainC = 6 ∧ stripesC plainC = 12 ∧ sizeC plainC = 72 ∧ allC plainC = 7 := by decide +kernel
def inR (a b x : Int) : Bool := decide (a ≤ x ∧ x ≤ b)
theorem ri_encs {L : List Int} {rest : List Int} {n : Nat} {x lo hi : Int} (hx : L[n]? = some x) (hv : I64 x) : ri (encs L ++ rest) (8 * n) 0 lo hi = (8 * n + 8, if x < lo ∨ hi < x then 13 else 0, if x < lo ∨ hi < x then 0 else x) := by
  have hn := (List.getElem?_eq_some_iff.1 hx).1
  have hL : L = L.take n ++ x :: L.drop (n + 1) := by
    have hxx : L[n] = x := (List.getElem?_eq_some_iff.1 hx).2
    rw [← hxx, ← List.drop_eq_getElem_cons hn, List.take_append_drop]
  refine ri_enc (a := encs (L.take n)) (b := encs (L.drop (n + 1)) ++ rest) (by rw [encs_len, List.length_take]; omega) ?_ hv
  conv => lhs; rw [hL]
  rw [encs_append]
  simp [encs]
theorem rdN_encs {L : List Int} {rest : List Int} {a b : Int} (hI : ∀ x ∈ L, I64 x) : ∀ n, n ≤ L.length →
    (((L.take n).all (inR a b) = true → rdN (encs L ++ rest) a b n = (8 * n, 0) ∧ ∀ j, j < n → rdV (encs L ++ rest) a b j = L.getD j 0) ∧ ((L.take n).all (inR a b) = false → (rdN (encs L ++ rest) a b n).2 ≠ 0))
  | 0, _ => ⟨fun _ => ⟨rfl, fun j hj => absurd hj (Nat.not_lt_zero _)⟩, fun h => by simp at h⟩
  | n + 1, h => by
    obtain ⟨ih1, ih2⟩ := rdN_encs (rest := rest) (a := a) (b := b) hI n (by omega)
    obtain ⟨x, hx⟩ : ∃ x, L[n]? = some x := ⟨_, List.getElem?_eq_getElem (by omega)⟩
    have hxI := hI x (List.mem_of_getElem? hx)
    have htk : (L.take (n + 1)).all (inR a b) = ((L.take n).all (inR a b) && inR a b x) := by rw [take_succ_get hx, List.all_append]; simp
    have hgd : L.getD n 0 = x := by rw [List.getD_eq_getElem?_getD, hx]; rfl
    cases hb : (L.take n).all (inR a b)
    · have hne := ih2 hb
      rw [hb] at htk
      refine ⟨fun h => (by rw [htk] at h; cases h), fun _ => ?_⟩
      show (ri _ _ (rdN (encs L ++ rest) a b n).2 a b).2.1 ≠ 0
      unfold ri
      rw [if_pos hne]
      exact hne
    · obtain ⟨h1, h2⟩ := ih1 hb
      have hr := ri_encs (rest := rest) (lo := a) (hi := b) hx hxI
      have hrd : rdN (encs L ++ rest) a b (n + 1) = (8 * n + 8, if x < a ∨ b < x then 13 else 0) := by
        show ((ri _ (rdN (encs L ++ rest) a b n).1 (rdN (encs L ++ rest) a b n).2 a b).1, (ri _ (rdN (encs L ++ rest) a b n).1 (rdN (encs L ++ rest) a b n).2 a b).2.1) = _
        rw [h1, hr]
      have hrv : rdV (encs L ++ rest) a b n = if x < a ∨ b < x then 0 else x := by
        show (ri _ (rdN (encs L ++ rest) a b n).1 (rdN (encs L ++ rest) a b n).2 a b).2.2 = _
        rw [h1, hr]
      rw [hb, Bool.true_and] at htk
      rw [htk, hrd]
      by_cases ho : x < a ∨ b < x
      · have : inR a b x = false := by simp [inR]; omega
        rw [if_pos ho]
        exact ⟨fun h => (by rw [this] at h; cases h), fun _ => by simp⟩
      · have : inR a b x = true := by simp [inR]; omega
        rw [if_neg ho]
        refine ⟨fun _ => ⟨rfl, fun j hj => ?_⟩, fun h => (by rw [this] at h; cases h)⟩
        rcases Nat.lt_or_ge j n with hjn | hjn
        · exact h2 j hjn
        · obtain rfl : j = n := by omega
          rw [hrv, if_neg ho, hgd]
theorem cf11_eq {f : Nat → Int} {c : Cf} (h : ∀ j, j < 11 → f j = c.l.getD j 0) : cf11 f = c := by
  cases c
  simp only [cf11, Cf.mk.injEq]
  exact ⟨h 0 (by decide), h 1 (by decide), h 2 (by decide), h 3 (by decide), h 4 (by decide), h 5 (by decide), h 6 (by decide), h 7 (by decide), h 8 (by decide), h 9 (by decide), h 10 (by decide)⟩
theorem getC_of {l : List Int} {c : Cf} {n : Nat} (h3 : rdN l gA gB 11 = (n, 0)) (hl : l.length = n) (h4 : ∀ j, j < 11 → rdV l gA gB j = c.l.getD j 0) : getC l = (c, 0) := by
  rw [getC_ok (by rw [h3]; simp) (by rw [h3, hl]; exact Nat.lt_irrefl _), cf11_eq h4]
theorem getC_no {l : List Int} (h : (rdN l gA gB 11).2 ≠ 0) : (getC l).2 ≠ 0 := by
  rw [getC_err h]; exact h
theorem getC_put {c : Cf} (hI : ∀ x ∈ c.l, I64 x) : (c.l.all (inR gA gB) = true → getC (encs c.l) = (c, 0)) ∧ (c.l.all (inR gA gB) = false → (getC (encs c.l)).2 ≠ 0) := by
  obtain ⟨k, hk⟩ : ∃ k, c.l.length = k := ⟨_, rfl⟩
  have hk11 : 11 = k := hk
  have h := rdN_encs (rest := []) (a := gA) (b := gB) hI k (Nat.le_of_eq hk.symm)
  rw [List.take_of_length_le (Nat.le_of_eq hk), List.append_nil] at h
  have hlen : (encs c.l).length = 8 * k := by rw [encs_len, hk]
  generalize encs c.l = l at h hlen ⊢
  subst hk11
  obtain ⟨h1, h2⟩ := h
  exact ⟨fun h => getC_of (h1 h).1 hlen (h1 h).2, fun h => getC_no (h2 h)⟩
abbrev Cf11 := Int × Int × Int × Int × Int × Int × Int × Int × Int × Int × Int
def cfOf (a : Cf11) : Cf := ⟨a.1, a.2.1, a.2.2.1, a.2.2.2.1, a.2.2.2.2.1, a.2.2.2.2.2.1, a.2.2.2.2.2.2.1, a.2.2.2.2.2.2.2.1, a.2.2.2.2.2.2.2.2.1, a.2.2.2.2.2.2.2.2.2.1, a.2.2.2.2.2.2.2.2.2.2⟩
theorem cfOf_wf {a : Cf11} (h : (Lit.int .i64 a.1).wf = true ∧ (Lit.int .i64 a.2.1).wf = true ∧ (Lit.int .i64 a.2.2.1).wf = true ∧ (Lit.int .i64 a.2.2.2.1).wf = true ∧ (Lit.int .i64 a.2.2.2.2.1).wf = true ∧ (Lit.int .i64 a.2.2.2.2.2.1).wf = true ∧ (Lit.int .i64 a.2.2.2.2.2.2.1).wf = true ∧ (Lit.int .i64 a.2.2.2.2.2.2.2.1).wf = true ∧ (Lit.int .i64 a.2.2.2.2.2.2.2.2.1).wf = true ∧ (Lit.int .i64 a.2.2.2.2.2.2.2.2.2.1).wf = true ∧ (Lit.int .i64 a.2.2.2.2.2.2.2.2.2.2).wf = true) : ∀ x ∈ (cfOf a).l, I64 x := by
  obtain ⟨h0, h1, h2, h3, h4, h5, h6, h7, h8, h9, h10⟩ := h
  intro x hx
  simp only [cfOf, Cf.l, List.mem_cons, List.not_mem_nil, or_false] at hx
  rcases hx with rfl | rfl | rfl | rfl | rfl | rfl | rfl | rfl | rfl | rfl | rfl
  all_goals (apply wf_i64; assumption)
end Go.Proofs.Ytknhemdpfdopaaa.AmF
