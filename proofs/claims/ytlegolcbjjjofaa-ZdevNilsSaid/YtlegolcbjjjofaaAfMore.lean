/- Walks over the abstract machine: what an operation makes in other words, rows cut off, the library's Grow and Concat. -/
import Derived.Test.YtlegolcbjjjofaaAfBasea
namespace Go.Proofs.Ytlegolcbjjjofaa.AmF
open Go Go.AM
set_option maxRecDepth 100000
set_option linter.unusedSimpArgs false
set_option linter.unusedVariables false
attribute [local simp] tkeep tget tput ev cav argsTM pickA normT putA splice AV.cells ints_length rowsA_length
/-- What an operation leaves behind, in other words. -/
theorem _root_.Go.AM.OpOk.tent {P : Program} {tm : TM} {H H' H'' : Heap} {o : Oper} {x x' : AV} (h : OpOk P tm H o x H') (he : TEnt H'.length [(0, x)] H' [(0, x')] H'') : OpOk P tm H o x' H'' := by
  intro g a hH hgo ht
  obtain ⟨v, g1, h1, h2, h3, h4, h5⟩ := h g a hH hgo ht
  subst h2
  obtain ⟨g2, k1, k2, k3, k4, k5, k6⟩ := he g1 (fun _ => v) rfl (Nat.le_refl _) h3 (fun t => by
    simp only [tget]
    split
    · exact h4
    · simp [Rel])
  have k4' := k4 0
  simp only [tget, if_true] at k4'
  have hsub : Sub g1 g2 := ⟨⟨k5.z, fun b _ => by rw [k1], fun i j hi hj => by cases hj; exact ⟨Nat.lt_of_lt_of_le hi k6.len, fun k' hk' => k6.id i k' hi hk'⟩⟩, k5⟩
  refine ⟨v, g2, ?_, k2, k3, k4', h5.trans hsub⟩
  rw [k1]; exact h1
/-- A nil row as an empty block of its own. -/
theorem _root_.Go.AM.OpOk.empty {P : Program} {tm : TM} {H H' : Heap} {o : Oper} (es : Nat) (he : 0 < es) (h : OpOk P tm H o (.v (.slice none 0 0)) H') : OpOk P tm H o (.sl H'.length 0 0) (H' ++ [some ⟨es, true, []⟩]) :=
  h.tent ((TEnt.empty 0 es he (.inr rfl)).trans (TEnt.to ⟨rfl, trivial⟩))
/-- What lies behind in a block is no longer told. -/
theorem _root_.Go.AM.TEnt.trunc {k : Nat} {tm : TM} {H : Heap} (id m : Nat) {b : Blk} (hb : hget H id = some b) (hm : m ≤ b.els.length) : TEnt k tm H tm (H.set id (some { b with els := b.els.take m })) := by
  intro g vs hH hk hg ht
  subst hH
  have hid := hget_lt hb
  let g' : G := { g with H := g.H.set id (some { b with els := b.els.take m }) }
  have hget' : ∀ j b', hget g'.H j = some b' → ∃ b0, hget g.H j = some b0 ∧ b'.es = b0.es ∧ b'.own = b0.own ∧ (b' = b0 ∨ (j = id ∧ b0 = b ∧ b' = { b with els := b.els.take m })) := by
    intro j b' h
    simp only [g', hget_set] at h
    by_cases hj : j = id
    · subst hj
      simp only [hid, and_self, if_true, Option.some.injEq] at h
      subst h
      exact ⟨b, hb, rfl, rfl, .inr ⟨rfl, rfl, rfl⟩⟩
    · simp only [hj, false_and, if_false] at h
      exact ⟨b', h, rfl, rfl, .inl rfl⟩
  have hren : Ren some g g' := by
    refine ⟨fun _ h => h, fun _ _ => rfl, fun i j hi hij => ?_⟩
    cases hij
    refine ⟨by simpa [g'] using hi, fun b' hb' => ?_⟩
    obtain ⟨b0, h1, h2, _, _⟩ := hget' i b' hb'
    exact ⟨b0, h1, h2, rfl, rfl, rfl⟩
  have hgo : GOk g' := by
    refine ⟨fun j b' hb' => ?_, fun j j' b' c' hb' hc' hob hoc hs hs' hφ => ?_, hg.zlt⟩
    · obtain ⟨b0, h1, h2, h3, h4⟩ := hget' j b' hb'
      have hb0 := hg.blk j b0 h1
      rcases h4 with rfl | ⟨rfl, rfl, rfl⟩
      · refine ⟨hb0.own, hb0.frz, hb0.fit, hb0.pos, fun hs => ?_⟩
        obtain ⟨c, e, lo, hi, m1, m2, m3, xs, m4, m5⟩ := hb0.mem hs
        exact ⟨c, e, lo, hi, m1, m2, m3, xs, RelL.mono hren m4, m5⟩
      · refine ⟨hb0.own, hb0.frz, ?_, hb0.pos, fun hs => ?_⟩
        · refine Nat.le_trans (Nat.add_le_add_left (Nat.mul_le_mul_right _ ?_) _) hb0.fit
          simp; omega
        · obtain ⟨c, e, lo, hi, m1, m2, m3, xs, m4, m5⟩ := hb0.mem hs
          refine ⟨c, e, lo, hi, m1, m2, m3, xs.take m, RelL.mono hren (RelL.take m m4), fun i x hx => m5 i x ?_⟩
          rw [List.getElem?_take] at hx
          split at hx
          · exact hx
          · cases hx
    · obtain ⟨b0, h1, _, h3, _⟩ := hget' j b' hb'
      obtain ⟨c0, h1', _, h3', _⟩ := hget' j' c' hc'
      exact hg.inj j j' b0 c0 h1 h1' (h3 ▸ hob) (h3' ▸ hoc) hs hs' hφ
  have hext : Ext g g' := by
    refine ⟨.refl _, Nat.le_refl _, fun _ _ _ => rfl, fun _ h => h, fun x hx => .inl hx, fun x hx => ?_⟩
    obtain ⟨j, b', h1, h2, h3, h4⟩ := hx
    obtain ⟨b0, e1, _, e3, _⟩ := hget' j b' h1
    exact .inl ⟨j, b0, e1, e3 ▸ h2, h3, h4⟩
  exact ⟨g', rfl, rfl, hgo, fun t => Rel.mono hren (ht t), hext, Sub.pin ⟨hren, hext⟩ hk⟩
theorem ok_cap_nil {P : Program} {tm : TM} {H : Heap} {o : Oper} {p : Operand} {ts : Array TypeId} (ho : o.op = .call ⟨.builtin .cap, #[p], ts⟩) {t : TypeId} (ht0 : ts[0]? = some t) {i : TI} (hi : tyI P t = some i) {e : TypeId} (hd : i.desc = .slice e) (hp : ev tm p = .v (.slice none 0 0)) : OpOk P tm H o (.int 0) H := by
  refine OpOk.val fun g a hH hg ht => ?_
  have h := ht p (by simp [ho, Op.operands, Call.operands])
  obtain ⟨e1, _⟩ := tyI_run hi g.w
  refine ⟨.int .i64 0, ?_, by simp [Rel]⟩
  rw [hp] at h
  simp only [Rel] at h
  simp [execOp, ho, resolve, invoke, builtin, Builtin.cap_, ht0, h, e1, hd, goInt]
section
variable {P : Program} {tm : TM} {H : Heap} {o : Oper} {p q : Operand} {t t2 e : TypeId} {α : Type}
/-- Onto a row of a block, elements that are told by a function. -/
theorem ok_append_map (C : α → AV) (ho : o.op = .call ⟨.builtin .append, #[p, q], #[t, t2]⟩) {i j : TI} (hi : tyI P t = some i) (hd : i.desc = .slice e) (hj : tyI P e = some j) (hj0 : 0 < j.size) (hb0 : j.bytes ≠ 0) (hz : fits (cav j.zero) j.size = true)
    {i2 : TI} (hi2 : tyI P t2 = some i2) (hd2 : ∀ k, i2.desc ≠ .int k) {xs ys : List α} {es2 : Nat} {l2 : List AV} (hq : rowA H (ev tm q) = some (es2, l2)) (he2 : es2 = j.size) (hl2 : l2 = ys.map C) {id len : Nat} (hp : ev tm p = .sl id 0 len) {b : Blk} (hk : hget H id = some b) (hown : b.own = true) (hbe : b.es = j.size) (hbl : b.els = xs.map C) (hlen : len = xs.length)
    (hbound : (xs.length + ys.length) * j.bytes ≤ 140737488355328) : OpOk P tm H o (.sl H.length 0 (xs ++ ys).length) (H.set id none ++ [some ⟨j.size, true, (xs ++ ys).map C⟩]) := by
  subst hlen hl2 he2
  refine (ok_append_sl ho hi hd hj hj0 hb0 hz hi2 hd2 hq (.inl rfl) hp hk hown hbe (by rw [hbl, List.length_map, Nat.zero_add]) (by rw [List.length_map]; exact hbound)).eq ?_ ?_
  · rw [List.length_map, List.length_append]
  · rw [hbl, List.drop_zero, List.map_append]
theorem locA_map {F : α → List AV} {id k : Nat} {l : List α} {y : α} {b : Blk} (hb : hget H id = some b) (hbl : b.els = l.map fun a => .agg (F a)) (hy : l[k]? = some y) (hne : F y ≠ []) : locA H (.ref id k 0) = some (F y, 0) := by
  simp [locA, hb, hbl, hy, AV.cells, hne]
theorem ok_index_map {F : α → List AV} {x ix : Operand} (ho : o.op = .indexAddr t x ix) {i : TI} (hi : tyI P t = some i) (hd : i.desc = .slice e) {j : TI} (hj : tyI P e = some j) {l : List α} (hx : ev tm x = .fz j.size (l.map fun a => .agg (F a))) {kd : IntKind} {z : Int} (hz : ev tm ix = .v (.int kd z)) {k : Nat} (hk : z = k) {y : α} (hy : l[k]? = some y) (hne : F y ≠ []) : OpOk P tm H o (.fp (F y) 0) H := by
  subst hk
  obtain ⟨c, cs, hc⟩ : ∃ c cs, F y = c :: cs := by
    cases h : F y with
    | nil => exact absurd h hne
    | cons c cs => exact ⟨c, cs, rfl⟩
  rw [hc]
  exact ok_index_fz ho hi hd hj hx rfl hz (by omega) (y := .agg (F y)) (by simp [hy]) hc
end
theorem grow_new (n : Nat) (hn : n ≤ 100000000) : CSpec Try.prog 125 [] [.v (.slice none 0 0), .int n] [some ⟨1, true, []⟩] (.sl 0 0 0) := by
 refine CSpec.body Try.func125 rfl rfl rfl rfl rfl fun Q hQ => ?_
 refine T.seq fun K1 hK1 => ?_
 refine T.region ?_
 refine rs rfl rfl (ok_move (.inr rfl)) ?_
 refine ro_nil ?_
 refine keepK hK1 [0, 1] (by dsimp) (by dsimp) ?_
 refine T.seq fun K2 hK2 => ?_
 refine T.seq fun K3 hK3 => ?_
 refine T.region ?_
 refine rs rfl rfl (ok_move (.inl rfl)) ?_
 refine rs rfl rfl (ok_binOp rfl ti_int rfl) ?_
 refine ro_nil ?_
 refine keepK hK3 [0, 1, 6] (by dsimp) (by dsimp) ?_
 refine T.cond rfl (fun hc => ?_) (fun hc => ?_) -- cond 1
 ·(try simp only [dE] at hc)
  exfalso; omega
 ·(try simp only [dE] at hc)
  refine T.skip ?_
  refine keepK hK2 [0, 1] (by dsimp) (by dsimp) ?_
  refine T.seq fun K4 hK4 => ?_
  refine T.seq fun K5 hK5 => ?_
  refine T.region ?_
  refine rs rfl rfl (ok_move (.inl rfl)) ?_
  refine rs rfl rfl (ok_move (.inl rfl)) ?_
  refine rs rfl rfl (by exact ok_cap_nil rfl rfl ti_Luint8 rfl rfl) ?_
  refine rs rfl rfl (ok_move (.inl rfl)) ?_
  refine rs rfl rfl (ok_len' rfl rfl ti_Luint8 rfl (by first | exact ints_length _ _ | exact rowsA_length _ _ | exact Cms_len _ | exact mapLen _ | rfl)) ?_
  refine rs rfl rfl ((ok_sub64 rfl ti_int rfl rfl (by omega) (by omega)).eq (x' := .int 0) rfl rfl) ?_
  refine rs rfl rfl ((ok_sub64 rfl ti_int rfl rfl (by omega) (by omega)).eq (x' := .int n) (by simp) rfl) ?_
  refine rs rfl rfl (ok_move (.inr rfl)) ?_
  refine ro_nil ?_
  refine keepK hK5 [0, 1] (by dsimp) (by dsimp) ?_
  refine T.seq fun K6 hK6 => ?_
  refine T.region ?_
  refine rs rfl rfl (ok_move (.inl rfl)) ?_
  refine rs rfl rfl (ok_binOp rfl ti_int rfl) ?_
  refine ro_nil ?_
  refine keepK hK6 [0, 1, 16] (by dsimp) (by dsimp) ?_
  refine T.cond rfl (fun hc => ?_) (fun hc => ?_) -- cond 2
  ·(try simp only [dE] at hc)
   refine T.region ?_
   refine rs rfl rfl (ok_move (.inl rfl)) ?_
   refine rs rfl rfl (ok_move (.inl rfl)) ?_
   refine rs rfl rfl (by exact ok_cap_nil rfl rfl ti_Luint8 rfl rfl) ?_
   refine rs rfl rfl (((ok_slice (r := .v (.slice none 0 0)) rfl ti_Luint8 (.inl ⟨_, _, rfl, ti_uint8, rfl⟩) rfl rfl rfl rfl).empty 1 (by decide)).eq (x' := .sl 0 0 0) (H'' := [some ⟨1, true, []⟩]) rfl rfl) ?_
   refine rs rfl rfl (ok_move (.inl rfl)) ?_
   refine rs rfl rfl (by exact ok_append_zeros (n2 := n) rfl ti_Luint8 rfl ti_uint8 (by decide) (by decide) rfl ti_int rfl rfl rfl rfl rfl rfl rfl (by show (0 + n) * 1 ≤ _; omega)) ?_
   refine rs rfl rfl (ok_move (.inl rfl)) ?_
   refine rs rfl rfl (ok_len' rfl rfl ti_Luint8 rfl (by first | exact ints_length _ _ | exact rowsA_length _ _ | exact Cms_len _ | exact mapLen _ | rfl)) ?_
   refine rs rfl rfl (by exact ok_slice (r := .sl 1 0 0) rfl ti_Luint8 (.inl ⟨_, _, rfl, ti_uint8, rfl⟩) rfl rfl rfl (by simp [sliceA, hget])) ?_
   refine rs rfl rfl (ok_move (.inr rfl)) ?_
   refine ro_nil ?_
   refine keepK hK4 [0] (by dsimp) (by dsimp) ?_
   refine T.seq fun K7 hK7 => ?_
   refine T.region ?_
   refine rs rfl rfl (ok_move (.inl rfl)) ?_
   refine rs rfl rfl (ok_move (.inr rfl)) ?_
   refine ro_nil ?_
   refine keepK hK7 [4] (by dsimp) (by dsimp) ?_
   refine T.ret (hQ _ _ _ rfl ?_).1 -- ret 1
   exact ((TEnt.trunc 1 0 rfl (Nat.zero_le _)).trans (TEnt.fin [1] (by decide) (by simp) (by simp [normH, hget, Blk.ren, renL]) ⟨rfl, trivial⟩))
  ·(try simp only [dE] at hc)
   refine T.skip ?_
   refine keepK hK4 [0] (by dsimp) (by dsimp) ?_
   refine T.seq fun K8 hK8 => ?_
   refine T.region ?_
   refine rs rfl rfl (ok_move (.inl rfl)) ?_
   refine rs rfl rfl (ok_move (.inr rfl)) ?_
   refine ro_nil ?_
   refine keepK hK8 [4] (by dsimp) (by dsimp) ?_
   refine T.ret (hQ _ _ _ rfl ?_).1 -- ret 2
   exact (TEnt.empty 0 1 (by decide) (.inr rfl)).trans (TEnt.toH rfl ⟨rfl, trivial⟩)
theorem concat_new (a b : List Int) (ha : a.length ≤ 10000000) (hb : b.length ≤ 10000000) : CSpec Try.prog 96 [] [.fz 1 (rowsA .u8 [a, b])] [some ⟨1, true, ints .u8 (a ++ b)⟩] (.sl 0 0 (a ++ b).length) := by
 refine CSpec.body Try.func96 rfl rfl rfl rfl rfl fun Q hQ => ?_
 refine T.seq fun K1 hK1 => ?_
 refine T.region ?_
 refine rs rfl rfl (ok_move (.inr rfl)) ?_
 refine ro_nil ?_
 refine keepK hK1 [0] (by dsimp) (by dsimp) ?_
 refine T.seq fun K2 hK2 => ?_
 refine T.region ?_
 refine rs rfl rfl (ok_move (.inr rfl)) ?_
 refine ro_nil ?_
 refine keepK hK2 [0, 3] (by dsimp) (by dsimp) ?_
 refine T.seq fun K3 hK3 => ?_
 refine T.seq fun K4 hK4 => ?_
 refine T.region ?_
 refine rs rfl rfl (ok_move (.inl rfl)) ?_
 refine rs rfl rfl (ok_len' rfl rfl ti_LLuint8 rfl (by first | exact ints_length _ _ | exact rowsA_length _ _ | exact Cms_len _ | exact mapLen _ | rfl)) ?_
 refine rs rfl rfl (ok_move (.inl rfl)) ?_
 refine ro_nil ?_
 refine keepK hK4 [0, 3, 9, 10, 11] (by dsimp) (by dsimp) ?_
 refine T.block ?_
 refine T.loopI (ι := Nat) (fun i => i ≤ 2) (fun i => 2 - i) (fun i => ([(0, .fz 1 (rowsA .u8 [a, b])), (3, .int (([a, b].take i).flatten.length : Nat)), (9, .fz 1 (rowsA .u8 [a, b])), (10, .int 2), (11, .int i)], [])) 0 (Nat.zero_le _) (TEnt.toH rfl ⟨rfl, rfl, rfl, rfl, rfl, trivial⟩) (fun i hi => ?_) -- loop 1
 refine T.seq fun K5 hK5 => ?_
 refine T.region ?_
 refine rs rfl rfl (ok_binOp rfl ti_int rfl) ?_
 refine ro_nil ?_
 refine keepK hK5 [0, 3, 9, 10, 11, 12] (by dsimp) (by dsimp) ?_
 refine T.seq fun K6 hK6 => ?_
 refine T.cond rfl (fun hc => ?_) (fun hc => ?_) -- cond 1
 ·(try simp only [dE] at hc)
  obtain ⟨x, hx, hxl⟩ : ∃ x, [a, b][i]? = some x ∧ x.length ≤ 10000000 := by
    match i, (show i < 2 by omega) with
    | 0, _ => exact ⟨a, rfl, ha⟩
    | 1, _ => exact ⟨b, rfl, hb⟩
  have htk := take_succ_get hx
  have hfl : ([a, b].take i).flatten.length ≤ 20000000 := by
    match i, (show i < 2 by omega) with
    | 0, _ => simp
    | 1, _ => simp; omega
  have hfs : ([a, b].take (i + 1)).flatten.length = ([a, b].take i).flatten.length + x.length := by rw [htk]; simp
  refine T.skip ?_
  refine keepK hK6 [0, 3, 9, 10, 11] (by dsimp) (by dsimp) ?_
  refine T.seq fun K7 hK7 => ?_
  refine T.block ?_
  refine T.seq fun K8 hK8 => ?_
  refine T.region ?_
  refine rs rfl rfl (by exact ok_index_fz rfl ti_LLuint8 rfl ti_Luint8 rfl rfl rfl (by omega) (rowsA_get_of (by simpa using hx)) rfl) ?_
  refine rs rfl rfl (ok_load rfl ti_Luint8 rfl rfl) ?_
  refine rs rfl rfl (ok_move (.inr rfl)) ?_
  refine ro_nil ?_
  refine keepK hK8 [0, 3, 5, 9, 10, 11] (by dsimp) (by dsimp) ?_
  refine T.seq fun K9 hK9 => ?_
  refine T.region ?_
  refine rs rfl rfl (ok_move (.inl rfl)) ?_
  refine rs rfl rfl (ok_move (.inl rfl)) ?_
  refine rs rfl rfl (ok_len' rfl rfl ti_Luint8 rfl (by first | exact ints_length _ _ | exact rowsA_length _ _ | exact Cms_len _ | exact mapLen _ | rfl)) ?_
  refine rs rfl rfl (ok_add64 rfl ti_int rfl rfl (by omega) (by omega)) ?_
  refine rs rfl rfl (ok_move (.inr rfl)) ?_
  refine ro_nil ?_
  refine keepK hK9 [0, 3, 9, 10, 11] (by dsimp) (by dsimp) ?_
  refine T.seq fun K10 hK10 => ?_
  refine T.region ?_
  refine rs rfl rfl (ok_move (.inl rfl)) ?_
  refine rs rfl rfl (OpOk.bool (d := false) (ok_binOp rfl ti_int rfl) (by simp; omega)) ?_
  refine ro_nil ?_
  refine keepK hK10 [0, 3, 9, 10, 11, 20] (by dsimp) (by dsimp) ?_
  refine T.cond_false rfl ?_
  refine T.skip ?_
  refine keepK hK7 [0, 3, 9, 10, 11] (by dsimp) (by dsimp) ?_
  refine T.region ?_
  refine rs rfl rfl (ok_add64 rfl ti_int rfl rfl (by omega) (by omega)) ?_
  refine rs rfl rfl (ok_move (.inl rfl)) ?_
  refine ro_nil ?_
  exact ⟨i + 1, by omega, by omega, TEnt.toH rfl ⟨rfl, by rw [hfs]; rfl, rfl, rfl, rfl, trivial⟩⟩
 ·(try simp only [dE] at hc)
  have hin : i = 2 := by omega
  subst hin
  refine T.exit ?_
  refine keepK hK3 [0, 3] (by dsimp) (by dsimp) ?_
  refine T.seq fun K11 hK11 => ?_
  refine T.region ?_
  refine rs rfl rfl (ok_move (.inl rfl)) ?_
  refine ro rfl rfl (ok_call rfl rfl rfl (((grow_new (a ++ b).length (by simp; omega)).fresh (x' := .sl 0 0 0) (H' := [some ⟨1, true, []⟩]) (by simp [renL, AV.ren]) rfl (by simp [renH, Blk.ren, renL])))) ?_
  refine rs rfl rfl (ok_move (.inr rfl)) ?_
  refine ro_nil ?_
  refine keepK hK11 [0, 6] (by dsimp) (by dsimp) ?_
  refine T.seq fun K12 hK12 => ?_
  refine T.seq fun K13 hK13 => ?_
  refine T.region ?_
  refine rs rfl rfl (ok_move (.inl rfl)) ?_
  refine rs rfl rfl (ok_len' rfl rfl ti_LLuint8 rfl (by first | exact ints_length _ _ | exact rowsA_length _ _ | exact Cms_len _ | exact mapLen _ | rfl)) ?_
  refine rs rfl rfl (ok_move (.inl rfl)) ?_
  refine ro_nil ?_
  refine keepK hK13 [6, 25, 26, 27] (by dsimp) (by dsimp) ?_
  refine T.block ?_
  refine T.loopI (ι := Nat) (fun i => i ≤ 2) (fun i => 2 - i) (fun i => ([(6, .sl 0 0 ([a, b].take i).flatten.length), (25, .fz 1 (rowsA .u8 [a, b])), (26, .int 2), (27, .int i)], [some ⟨1, true, ints .u8 ([a, b].take i).flatten⟩])) 0 (Nat.zero_le _) (TEnt.toH rfl ⟨rfl, rfl, rfl, rfl, trivial⟩) (fun i hi => ?_) -- loop 2
  refine T.seq fun K14 hK14 => ?_
  refine T.region ?_
  refine rs rfl rfl (ok_binOp rfl ti_int rfl) ?_
  refine ro_nil ?_
  refine keepK hK14 [6, 25, 26, 27, 28] (by dsimp) (by dsimp) ?_
  refine T.seq fun K15 hK15 => ?_
  refine T.cond rfl (fun hc => ?_) (fun hc => ?_) -- cond 2
  ·(try simp only [dE] at hc)
   obtain ⟨x, hx, hxl⟩ : ∃ x, [a, b][i]? = some x ∧ x.length ≤ 10000000 := by
     match i, (show i < 2 by omega) with
     | 0, _ => exact ⟨a, rfl, ha⟩
     | 1, _ => exact ⟨b, rfl, hb⟩
   have htk := take_succ_get hx
   have hfl : ([a, b].take i).flatten.length ≤ 20000000 := by
     match i, (show i < 2 by omega) with
     | 0, _ => simp
     | 1, _ => simp; omega
   have hfs : ([a, b].take (i + 1)).flatten = ([a, b].take i).flatten ++ x := by rw [htk]; simp
   refine T.skip ?_
   refine keepK hK15 [6, 25, 26, 27] (by dsimp) (by dsimp) ?_
   refine T.seq fun K16 hK16 => ?_
   refine T.block ?_
   refine T.seq fun K17 hK17 => ?_
   refine T.region ?_
   refine rs rfl rfl (by exact ok_index_fz rfl ti_LLuint8 rfl ti_Luint8 rfl rfl rfl (by omega) (rowsA_get_of (by simpa using hx)) rfl) ?_
   refine rs rfl rfl (ok_load rfl ti_Luint8 rfl rfl) ?_
   refine rs rfl rfl (ok_move (.inr rfl)) ?_
   refine ro_nil ?_
   refine keepK hK17 [6, 8, 25, 26, 27] (by dsimp) (by dsimp) ?_
   refine T.region ?_
   refine rs rfl rfl (ok_move (.inl rfl)) ?_
   refine rs rfl rfl (ok_move (.inl rfl)) ?_
   refine rs rfl rfl (by exact ok_append_ints (k := .u8) (xs := ([a, b].take i).flatten) (ys := x) rfl ti_Luint8 rfl ti_uint8 rfl (by decide) rfl ti_Luint8 (by simp) rfl rfl rfl rfl rfl rfl rfl rfl (by simp) (by first | omega | (show (_ + _) * 1 ≤ _; omega))) ?_
   refine rs rfl rfl (ok_move (.inr rfl)) ?_
   refine ro_nil ?_
   refine keepK hK16 [6, 25, 26, 27] (by dsimp) (by dsimp) ?_
   refine T.region ?_
   refine rs rfl rfl (ok_add64 rfl ti_int rfl rfl (by omega) (by omega)) ?_
   refine rs rfl rfl (ok_move (.inl rfl)) ?_
   refine ro_nil ?_
   exact ⟨i + 1, by omega, by omega, TEnt.fin [1] (by decide) (by simp) (by rw [hfs]; simp [normH, hget, Blk.ren, renL_ints]) ⟨by rw [hfs]; rfl, by simp [AV.ren, renL_rowsA], rfl, rfl, trivial⟩⟩
  ·(try simp only [dE] at hc)
   have hin : i = 2 := by omega
   subst hin
   refine T.exit ?_
   refine keepK hK12 [6] (by dsimp) (by dsimp) ?_
   refine T.seq fun K18 hK18 => ?_
   refine T.region ?_
   refine rs rfl rfl (ok_move (.inl rfl)) ?_
   refine rs rfl rfl (ok_move (.inr rfl)) ?_
   refine ro_nil ?_
   refine keepK hK18 [2] (by dsimp) (by dsimp) ?_
   refine T.ret (hQ _ _ _ rfl ?_).1 -- ret 1
   exact TEnt.toH (by simp) ⟨by simp; rfl, trivial⟩
theorem concat_frz (a b : List Int) (ha : a.length ≤ 10000000) (hb : b.length ≤ 10000000) : CSpec Try.prog 96 [] [.fz 1 (rowsA .u8 [a, b])] [] (.fz 1 (ints .u8 (a ++ b))) := (concat_new a b ha hb).frz' rfl
end Go.Proofs.Ytlegolcbjjjofaa.AmF
