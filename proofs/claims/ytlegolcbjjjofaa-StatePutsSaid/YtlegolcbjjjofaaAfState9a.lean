/- Walks over the abstract machine: states of the log: with a record more. -/
import Derived.Test.YtlegolcbjjjofaaAfState8a
namespace Go.Proofs.Ytlegolcbjjjofaa.AmF
open Go Go.AM
set_option maxRecDepth 100000
set_option maxHeartbeats 4000000
set_option linter.unusedSimpArgs false
set_option linter.unusedVariables false
attribute [local simp] tkeep tget tput ev cav argsTM pickA normT putA splice AV.cells ints_length rowsA_length Prs_len Zns_len
def cfz : Cf := ⟨0, 0, 0, 0, 0, 0, 0, 0, 0, 0, 0⟩
/-- No state. -/
def St0 : St := ⟨cfz, 0, 0, [], []⟩
/-- What a record makes of a state. -/
def stepS (s : St) (x : Rc) : Option St :=
  if x.kind = 6 then (if StOk s.st x then some { s with st := s.st.set x.member.toNat x.status, zs := s.zs.map unw, sq := x.seq } else none)
  else if 0 ≤ x.zone ∧ x.zone < s.zs.length then
    match s.zs[x.zone.toNat]? with
    | some z => (stepZ s.c s.zs (decide (2 ∈ s.st)) z x).map fun z' => { s with zs := s.zs.set x.zone.toNat z', sq := x.seq }
    | none => none
  else none
def Goes (s : St) (x : Rc) : Prop := x.epoch = s.ep ∧ x.seq = s.sq + 1 ∧ x.seq ≤ 1099511627776
instance (s : St) (x : Rc) : Decidable (Goes s x) := by unfold Goes; infer_instance
/-- The new state, and the error. -/
def applyS (s : St) (x : Rc) : St × Int :=
  if RS s then (if Goes s x then (match stepS s x with | some t => (t, 0) | none => (St0, 13)) else (St0, 13)) else (St0, 1)
theorem applyS_no {s : St} {x : Rc} (h : ¬ RS s) : applyS s x = (St0, 1) := if_neg h
theorem applyS_form {s : St} {x : Rc} (h : RS s) (h' : ¬ Goes s x) : applyS s x = (St0, 13) := by unfold applyS; rw [if_pos h, if_neg h']
theorem applyS_bad {s : St} {x : Rc} (h : RS s) (h' : Goes s x) (h2 : stepS s x = none) : applyS s x = (St0, 13) := by unfold applyS; rw [if_pos h, if_pos h', h2]
theorem applyS_ok {s t : St} {x : Rc} (h : RS s) (h' : Goes s x) (h2 : stepS s x = some t) : applyS s x = (t, 0) := by unfold applyS; rw [if_pos h, if_pos h', h2]
theorem stepS_st {s : St} {x : Rc} (h : x.kind = 6) : stepS s x = if StOk s.st x then some { s with st := s.st.set x.member.toNat x.status, zs := s.zs.map unw, sq := x.seq } else none := if_pos h
theorem stepS_no {s : St} {x : Rc} (h : ¬ x.kind = 6) (h' : ¬ (0 ≤ x.zone ∧ x.zone < s.zs.length)) : stepS s x = none := by unfold stepS; rw [if_neg h, if_neg h']
theorem stepS_zn {s : St} {x : Rc} {z : Zn} (h : ¬ x.kind = 6) (h' : 0 ≤ x.zone ∧ x.zone < s.zs.length) (hz : s.zs[x.zone.toNat]? = some z) : stepS s x = (stepZ s.c s.zs (decide (2 ∈ s.st)) z x).map fun z' => { s with zs := s.zs.set x.zone.toNat z', sq := x.seq } := by
  unfold stepS; rw [if_neg h, if_pos h', hz]
/-- The clone, of which a zone is told apart. -/
theorem sclone_at (s : St) (j : Nat) (z : Zn) (hz : s.zs[j]? = some z) (hn : s.st.length ≤ 1000000000) (hm : s.zs.length ≤ 1000000000) (hl : ∀ z ∈ s.zs, z.pars.length ≤ 1000000000) (hb : ∀ z ∈ s.zs, ∀ p ∈ z.pars, p.b.length ≤ 140737488355328) : CSpec Try.prog 60 [] [.agg (StC s)] [some ⟨1, true, ints .i64 s.st⟩, some (ZR s.zs j (ZnS z (.sl 2 0 z.pars.length))), some ⟨2, true, Prs z.pars⟩] (.agg (StS s (.sl 0 0 s.st.length) (.sl 1 0 s.zs.length))) := by
  have h := sclone_ok s j hn hm hl hb
  have hj : j < s.zs.length := (List.getElem?_eq_some_iff.1 hz).1
  have e1 : zsJ s.zs j 2 s.zs.length = (Zns s.zs).set j (.agg (ZnS z (.sl 2 0 z.pars.length))) := by unfold zsJ; rw [hz]; exact if_pos hj
  have e2 : pbJ s.zs j s.zs.length = some ⟨2, true, Prs z.pars⟩ := by unfold pbJ; rw [hz]; exact if_pos hj
  rw [e1, e2] at h
  exact h
theorem RcC_take (x : Rc) : List.take 10 (RcC x) = RcC x := rfl
theorem StS_take (s : St) (A B : AV) : List.take 15 (StS s A B) = StS s A B := rfl
theorem pos345 : pos [3, 4, 5] 3 = some 0 ∧ pos [3, 4, 5] 4 = some 1 := by decide
theorem ZR_ren {ρ : Nat → Option Nat} {p q : Nat} (hρ : ρ p = some q) (zs : List Zn) (w : Nat) (z : Zn) (n : Nat) : some (Blk.ren ρ (ZR zs w (ZnS z (.sl p 0 n)))) = some (ZR zs w (ZnS z (.sl q 0 n))) := zset_ren hρ zs w z n
theorem Ent.st0 {H : Heap} : Ent H (.agg (List.map .v [.int .i64 0, .int .i64 0, .int .i64 0, .int .i64 0, .int .i64 0, .int .i64 0, .int .i64 0, .int .i64 0, .int .i64 0, .int .i64 0, .int .i64 0, .int .i64 0, .int .i64 0, .slice none 0 0, .slice none 0 0])) (.agg (StC St0)) :=
  Ent.agg (EntL.append (l := CC cfz) (EntL.refl _) (EntL.cons (Ent.refl _) (EntL.cons (Ent.refl _) (EntL.cons (Ent.nil 1) (EntL.cons (Ent.nil 6) EntL.nil)))))
theorem Ent.st' {H : Heap} {a b n m : Nat} (s : St) (hn : n = s.st.length) (hm : m = s.zs.length) (ha : hget H a = some ⟨1, false, ints .i64 s.st⟩) (hb : hget H b = some ⟨6, false, Zns s.zs⟩) : Ent H (.agg (StS s (.sl a 0 n) (.sl b 0 m))) (.agg (StC s)) := by subst hn hm; exact Ent.st s ha hb
theorem heap6 {a a' b b' c c' d d' e e' f f' : Option Blk} (h1 : a = a') (h2 : b = b') (h3 : c = c') (h4 : d = d') (h5 : e = e') (h6 : f = f') : [a, b, c, d, e, f] = [a', b', c', d', e', f'] := by subst h1 h2 h3 h4 h5 h6; rfl
theorem ap_no {k : Nat} {tm : TM} {H : Heap} {e : Int} (hk : k = 0) (h : tget tm 0 = .tup [.agg (List.map .v [.int .i64 0, .int .i64 0, .int .i64 0, .int .i64 0, .int .i64 0, .int .i64 0, .int .i64 0, .int .i64 0, .int .i64 0, .int .i64 0, .int .i64 0, .int .i64 0, .int .i64 0, .slice none 0 0, .slice none 0 0]), .int e]) : TEnt k tm H [(0, .tup [.agg (StC St0), .int e])] [] := by
  subst hk
  exact (TEnt.put1 0 (x' := .tup [.agg (StC St0), .int e]) (by rw [h]; exact Ent.tup (EntL.cons Ent.st0 (EntL.refl _)))).trans (TEnt.fin [] (by decide) (by simp) rfl ⟨by simp [AV.ren, renL, StC_ren], trivial⟩)
theorem ap_ok {k : Nat} {tm : TM} {H : Heap} {n m : Nat} (s : St) (hk : k = 0) (h : tget tm 0 = .tup [.agg (StS s (.sl 3 0 n) (.sl 4 0 m)), .int 0]) (hn : n = s.st.length) (hm : m = s.zs.length) (ha : hget H 3 = some ⟨1, true, ints .i64 s.st⟩) (hb : hget H 4 = some ⟨6, true, Zns s.zs⟩) : TEnt k tm H [(0, .tup [.agg (StC s), .int 0])] [] := by
  subst hk
  have h3 := hget_lt ha
  have h4 := hget_lt hb
  refine (TEnt.freeze 3 ha).trans ((TEnt.freeze 4 (b := ⟨6, true, Zns s.zs⟩) (by rw [hget_set, if_neg (by omega)]; exact hb)).trans ((TEnt.put1 0 (x' := .tup [.agg (StC s), .int 0]) (by
    rw [h]
    refine Ent.tup (EntL.cons (Ent.st' s hn hm ?_ ?_) (EntL.refl _))
    · rw [hget_set, if_neg (by omega), hget_set, if_pos ⟨rfl, h3⟩]
    · rw [hget_set, if_pos ⟨rfl, by simpa using h4⟩])).trans (TEnt.fin [] (by decide) (by simp) rfl ⟨by simp [AV.ren, renL, StC_ren], trivial⟩)))
theorem Ent.sts {H : Heap} {A B A' B' : AV} (s : St) (hA : Ent H A A') (hB : Ent H B B') : Ent H (.agg (StS s A B)) (.agg (StS s A' B')) :=
  Ent.agg (EntL.append (EntL.refl _) (EntL.cons (Ent.refl _) (EntL.cons (Ent.refl _) (EntL.cons hA (EntL.cons hB EntL.nil)))))
end Go.Proofs.Ytlegolcbjjjofaa.AmF
