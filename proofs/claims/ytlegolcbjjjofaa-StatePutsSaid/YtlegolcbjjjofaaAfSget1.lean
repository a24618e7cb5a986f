/- Walks over the abstract machine: states of the log: a zone got of bytes. -/
import Derived.Test.YtlegolcbjjjofaaAfState17
import Derived.Test.YtlegolcbjjjofaaAfBase
namespace Go.Proofs.Ytlegolcbjjjofaa.AmF
open Go Go.AM
set_option maxRecDepth 100000
set_option maxHeartbeats 4000000
set_option linter.unusedSimpArgs false
set_option linter.unusedVariables false
attribute [local simp] tkeep tget tput ev cav argsTM pickA normT putA splice AV.cells ints_length rowsA_length Prs_len Zns_len
/-- Errors that a reader has. -/
def okE (e : Int) : Prop := e = 0 ∨ e = 13 ∨ e = 14
theorem ri_okE {l : List Int} {p : Nat} {e a b : Int} (h : okE e) : okE (ri l p e a b).2.1 := by
  unfold ri
  split
  · exact h
  · split
    · exact .inr (.inr rfl)
    · split
      · exact .inr (.inl rfl)
      · exact .inl rfl
theorem rf_okE {l : List Int} {p : Nat} {e : Int} (h : okE e) : okE (rf l p e).2.1 := by
  unfold rf
  split
  · exact h
  · split
    · exact .inr (.inr rfl)
    · dsimp only
      split
      · exact .inr (.inl rfl)
      · exact .inl rfl
theorem rb_okE {l : List Int} {p : Nat} {e m : Int} (h : okE e) : okE (rb l p e m).2.1 := by
  unfold rb
  split
  · exact ri_okE h
  · split
    · exact .inr (.inr rfl)
    · exact .inl rfl
theorem ri_in {l : List Int} {p : Nat} {e a b : Int} (h : a ≤ 0 ∧ 0 ≤ b) : a ≤ (ri l p e a b).2.2 ∧ (ri l p e a b).2.2 ≤ b := by
  unfold ri
  split
  · exact h
  · split
    · exact h
    · split
      · exact h
      · dsimp only; omega
/-- So many parities read. -/
def pgK (l : List Int) (p : Nat) (e : Int) : Nat → List Pr × Nat × Int
  | 0 => ([], p, e)
  | i + 1 => ((pgK l p e i).1 ++ [⟨(ri l (pgK l p e i).2.1 (pgK l p e i).2.2 0 1099511627776).2.2, (rb l (ri l (pgK l p e i).2.1 (pgK l p e i).2.2 0 1099511627776).1 (ri l (pgK l p e i).2.1 (pgK l p e i).2.2 0 1099511627776).2.1 1048576).2.2⟩],
      (rb l (ri l (pgK l p e i).2.1 (pgK l p e i).2.2 0 1099511627776).1 (ri l (pgK l p e i).2.1 (pgK l p e i).2.2 0 1099511627776).2.1 1048576).1,
      (rb l (ri l (pgK l p e i).2.1 (pgK l p e i).2.2 0 1099511627776).1 (ri l (pgK l p e i).2.1 (pgK l p e i).2.2 0 1099511627776).2.1 1048576).2.1)
theorem pgK_succ {l : List Int} {p p1 p2 p3 : Nat} {e e1 e2 e3 w : Int} {i : Nat} {ps : List Pr} {x : List Int} (h : pgK l p e i = (ps, p1, e1)) (h1 : ri l p1 e1 0 1099511627776 = (p2, e2, w)) (h2 : rb l p2 e2 1048576 = (p3, e3, x)) : pgK l p e (i + 1) = (ps ++ [⟨w, x⟩], p3, e3) := by
  rw [pgK, h]
  dsimp only
  rw [h1]
  dsimp only
  rw [h2]
theorem pgK_le {l : List Int} {p : Nat} {e : Int} (hp : p ≤ l.length) : ∀ i, (pgK l p e i).2.1 ≤ l.length
  | 0 => hp
  | i + 1 => rb_le (ri_le (pgK_le hp i))
theorem pgK_len (l : List Int) (p : Nat) (e : Int) : ∀ i, (pgK l p e i).1.length = i
  | 0 => rfl
  | i + 1 => by rw [pgK, List.length_append, pgK_len l p e i]; rfl
theorem pgK_okE {l : List Int} {p : Nat} {e : Int} (h : okE e) : ∀ i, okE (pgK l p e i).2.2
  | 0 => h
  | i + 1 => rb_okE (ri_okE (pgK_okE h i))
/-- A zone read. -/
def zget (l : List Int) (p : Nat) (e : Int) : Zn × Nat × Int :=
  let a1 := ri l p e 0 1099511627776
  let a2 := ri l a1.1 a1.2.1 (-1) 64
  let a3 := rf l a2.1 a2.2.1
  let a4 := ri l a3.1 a3.2.1 0 1099511627776
  let a5 := rf l a4.1 a4.2.1
  let a6 := ri l a5.1 a5.2.1 0 2
  let q := pgK l a6.1 a6.2.1 a6.2.2.toNat
  (⟨a1.2.2, a2.2.2, a3.2.2, a4.2.2, a5.2.2, q.1⟩, q.2.1, q.2.2)
theorem zget_le {l : List Int} {p : Nat} {e : Int} (hp : p ≤ l.length) : (zget l p e).2.1 ≤ l.length := pgK_le (ri_le (rf_le (ri_le (rf_le (ri_le (ri_le hp)))))) _
theorem zget_okE {l : List Int} {p : Nat} {e : Int} (h : okE e) : okE (zget l p e).2.2 := pgK_okE (ri_okE (rf_okE (ri_okE (rf_okE (ri_okE (ri_okE h)))))) _
def PsB (l : List Pr) : Blk := ⟨2, true, Prs l⟩
theorem PsB_ren (ρ : Nat → Option Nat) (l : List Pr) : Blk.ren ρ (PsB l) = PsB l := by simp [PsB, Blk.ren, Prs_ren]
def ZcB (g s : Int) (f : Bool) (w : Int) (wh : Bool) (p n : Nat) : Blk := ⟨6, true, [.agg [.int g, .int s, .b f, .int w, .b wh, .sl p 0 n]]⟩
theorem ZcB_ren {ρ : Nat → Option Nat} {p q : Nat} (hρ : ρ p = some q) (g s : Int) (f : Bool) (w : Int) (wh : Bool) (n : Nat) : Blk.ren ρ (ZcB g s f w wh p n) = ZcB g s f w wh q n := by simp [ZcB, Blk.ren, renL, AV.ren, hρ]
def ZZ : Blk := ⟨6, true, [cav (.agg #[.int .i64 0, .int .i64 0, .bool false, .int .i64 0, .bool false, .slice none 0 0])]⟩
theorem heap4' {a a' b b' c c' d d' : Option Blk} (h1 : a = a') (h2 : b = b') (h3 : c = c') (h4 : d = d') : [a, b, c, d] = [a', b', c', d'] := by subst h1 h2 h3 h4; rfl
theorem zg_end {k : Nat} {tm : TM} {H : Heap} {z : Zn} {R0 : Blk} (hk : k = 1) (h : tget tm 0 = .agg (ZnS z (.sl 2 0 z.pars.length))) (h0 : hget H 0 = some R0) (hr : ∀ ρ, Blk.ren ρ R0 = R0) (h2 : hget H 2 = some (PsB z.pars)) : TEnt k tm H [(0, .agg (ZnC z))] [some R0] := by
  subst hk
  have h2l := hget_lt h2
  refine (TEnt.freeze 2 h2).trans ((TEnt.put1 0 (x' := .agg (ZnC z)) (by
    rw [h]
    exact Ent.zone z (by rw [hget_set, if_pos ⟨rfl, h2l⟩]; rfl))).trans (TEnt.fin [0] (by decide) (by
      have := hget_lt h0
      simp <;> omega) (by simp [normH, hget_set, h0, hr]) ⟨by simp [AV.ren, renL, ZnC_ren], trivial⟩))
theorem zget_ok (l : List Int) (p : Nat) (e : Int) (hB : Bytes l) (hp : p ≤ l.length) (hl : l.length ≤ 140737488355328) : CSpec Try.prog 77 [R l p e] [.ref 0 0 0] [some (R l (zget l p e).2.1 (zget l p e).2.2)] (.agg (ZnC (zget l p e).1)) := by
 obtain ⟨⟨p1, e1, g⟩, h1⟩ : ∃ q, ri l p e 0 1099511627776 = q := ⟨_, rfl⟩
 obtain ⟨⟨p2, e2, s⟩, h2⟩ : ∃ q, ri l p1 e1 (-1) 64 = q := ⟨_, rfl⟩
 obtain ⟨⟨p3, e3, f⟩, h3⟩ : ∃ q, rf l p2 e2 = q := ⟨_, rfl⟩
 obtain ⟨⟨p4, e4, w⟩, h4⟩ : ∃ q, ri l p3 e3 0 1099511627776 = q := ⟨_, rfl⟩
 obtain ⟨⟨p5, e5, wh⟩, h5⟩ : ∃ q, rf l p4 e4 = q := ⟨_, rfl⟩
 obtain ⟨⟨p6, e6, n0⟩, h6⟩ : ∃ q, ri l p5 e5 0 2 = q := ⟨_, rfl⟩
 have k1 : p1 ≤ l.length := by have := ri_le (e := e) (a := 0) (b := 1099511627776) hp; rw [h1] at this; exact this
 have k2 : p2 ≤ l.length := by have := ri_le (e := e1) (a := -1) (b := 64) k1; rw [h2] at this; exact this
 have k3 : p3 ≤ l.length := by have := rf_le (e := e2) k2; rw [h3] at this; exact this
 have k4 : p4 ≤ l.length := by have := ri_le (e := e3) (a := 0) (b := 1099511627776) k3; rw [h4] at this; exact this
 have k5 : p5 ≤ l.length := by have := rf_le (e := e4) k4; rw [h5] at this; exact this
 have k6 : p6 ≤ l.length := by have := ri_le (e := e5) (a := 0) (b := 2) k5; rw [h6] at this; exact this
 have hn0 : 0 ≤ n0 ∧ n0 ≤ 2 := by have := ri_in (l := l) (p := p5) (e := e5) (a := 0) (b := 2) (by omega); rw [h6] at this; exact this
 obtain ⟨n, rfl⟩ := Int.eq_ofNat_of_zero_le hn0.1
 have hz : zget l p e = (⟨g, s, f, w, wh, (pgK l p6 e6 n).1⟩, (pgK l p6 e6 n).2.1, (pgK l p6 e6 n).2.2) := by
   unfold zget
   simp only [h1, h2, h3, h4, h5, h6]
   rfl
 rw [hz]
 refine CSpec.body Try.func77 rfl rfl rfl rfl rfl fun Q hQ => ?_
 refine T.seq fun K1 hK1 => ?_
 refine T.region ?_ -- region 0
 refine ro rfl rfl (OpOk.step (ok_alloc rfl ti_api_Zone rfl (by decide))) ?_
 refine ro_nil ?_
 refine keepK hK1 [0, 2] (by dsimp) (by dsimp) ?_
 refine T.seq fun K2 hK2 => ?_
 refine T.region ?_ -- region 1
 refine ro rfl rfl (OpOk.step (ok_move (.inl rfl))) ?_
 refine ro rfl rfl (ok_call rfl rfl rfl ((by have h := (int_ok l p e 0 1099511627776 hB hp hl).passR (H := [some (R l p e), some ZZ]) (args := [.ref 0 0 0, .int 0, .int 1099511627776]) 0 rfl rfl (fun _ => rfl); rw [h1] at h; exact h))) ?_
 refine ro rfl rfl (OpOk.step (ok_move (.inl rfl))) ?_
 refine ro rfl rfl (ok_call rfl rfl rfl ((by have h := (int_ok l p1 e1 (-1) 64 hB k1 hl).passR (H := [some (R l p1 e1), some ZZ]) (args := [.ref 0 0 0, .int (-1), .int 64]) 0 rfl rfl (fun _ => rfl); rw [h2] at h; exact h))) ?_
 refine ro rfl rfl (OpOk.step (((ok_build rfl ti_api_Zone rfl).eq (x' := .agg [.int g, .int s, .b false, .int 0, .b false, .v (.slice none 0 0)]) rfl rfl).tent ((emptyAt11 0 5 2 (by decide) rfl rfl).trans (TEnt.to ⟨rfl, trivial⟩)))) ?_
 refine ro rfl rfl (OpOk.step (ok_alloc rfl ti_api_Zone rfl (by decide))) ?_
 refine ro rfl rfl (OpOk.step (ok_store rfl ti_api_Zone (by decide) rfl rfl rfl rfl rfl (by first | exact Nat.le_of_ble_eq_true rfl | simp) (by first | exact .inl ⟨rfl, rfl⟩ | exact .inr rfl))) ?_
 refine ro_nil ?_
 refine keepK hK2 [0, 2, 3] (by dsimp) (by dsimp) ?_
 refine T.seq fun K3 hK3 => ?_
 refine T.ent (TEnt.toH (tm' := [(0, .ref 0 0 0), (2, .ref 1 0 0), (3, .ref 3 0 0)]) (H' := [some (R l p2 e2), some ZZ, some (PsB []), some (ZcB g s false 0 false 2 0)]) rfl ⟨rfl, rfl, rfl, trivial⟩) ?_
 refine T.region ?_ -- region 2
 refine ro rfl rfl (OpOk.step (ok_move (.inl rfl))) ?_
 refine ro rfl rfl (ok_call rfl rfl rfl ((by have h := (flag_ok l p2 e2 k2 hl).passR (H := [some (R l p2 e2), some ZZ, some (PsB []), some (ZcB g s false 0 false 2 0)]) (args := [.ref 0 0 0]) 0 rfl rfl (fun _ => rfl); rw [h3] at h; exact h))) ?_
 refine ro rfl rfl (OpOk.step (ok_fieldAddr rfl ti_api_Zone rfl rfl ti_bool (by decide) rfl)) ?_
 refine ro rfl rfl (OpOk.step (ok_store rfl ti_bool (by decide) rfl rfl rfl rfl rfl (by first | exact Nat.le_of_ble_eq_true rfl | simp) (by first | exact .inl ⟨rfl, rfl⟩ | exact .inr rfl))) ?_
 refine ro_nil ?_
 refine keepK hK3 [0, 2, 3] (by dsimp) (by dsimp) ?_
 refine T.seq fun K4 hK4 => ?_
 refine T.ent (TEnt.toH (tm' := [(0, .ref 0 0 0), (2, .ref 1 0 0), (3, .ref 3 0 0)]) (H' := [some (R l p3 e3), some ZZ, some (PsB []), some (ZcB g s f 0 false 2 0)]) rfl ⟨rfl, rfl, rfl, trivial⟩) ?_
 refine T.region ?_ -- region 3
 refine ro rfl rfl (OpOk.step (ok_move (.inl rfl))) ?_
 refine ro rfl rfl (ok_call rfl rfl rfl ((by have h := (int_ok l p3 e3 0 1099511627776 hB k3 hl).passR (H := [some (R l p3 e3), some ZZ, some (PsB []), some (ZcB g s f 0 false 2 0)]) (args := [.ref 0 0 0, .int 0, .int 1099511627776]) 0 rfl rfl (fun _ => rfl); rw [h4] at h; exact h))) ?_
 refine ro rfl rfl (OpOk.step (ok_fieldAddr rfl ti_api_Zone rfl rfl ti_int (by decide) rfl)) ?_
 refine ro rfl rfl (OpOk.step (ok_store rfl ti_int (by decide) rfl rfl rfl rfl rfl (by first | exact Nat.le_of_ble_eq_true rfl | simp) (by first | exact .inl ⟨rfl, rfl⟩ | exact .inr rfl))) ?_
 refine ro_nil ?_
 refine keepK hK4 [0, 2, 3] (by dsimp) (by dsimp) ?_
 refine T.seq fun K5 hK5 => ?_
 refine T.ent (TEnt.toH (tm' := [(0, .ref 0 0 0), (2, .ref 1 0 0), (3, .ref 3 0 0)]) (H' := [some (R l p4 e4), some ZZ, some (PsB []), some (ZcB g s f w false 2 0)]) rfl ⟨rfl, rfl, rfl, trivial⟩) ?_
 refine T.region ?_ -- region 4
 refine ro rfl rfl (OpOk.step (ok_move (.inl rfl))) ?_
 refine ro rfl rfl (ok_call rfl rfl rfl ((by have h := (flag_ok l p4 e4 k4 hl).passR (H := [some (R l p4 e4), some ZZ, some (PsB []), some (ZcB g s f w false 2 0)]) (args := [.ref 0 0 0]) 0 rfl rfl (fun _ => rfl); rw [h5] at h; exact h))) ?_
 refine ro rfl rfl (OpOk.step (ok_fieldAddr rfl ti_api_Zone rfl rfl ti_bool (by decide) rfl)) ?_
 refine ro rfl rfl (OpOk.step (ok_store rfl ti_bool (by decide) rfl rfl rfl rfl rfl (by first | exact Nat.le_of_ble_eq_true rfl | simp) (by first | exact .inl ⟨rfl, rfl⟩ | exact .inr rfl))) ?_
 refine ro_nil ?_
 refine keepK hK5 [0, 2, 3] (by dsimp) (by dsimp) ?_
 refine T.seq fun K6 hK6 => ?_
 refine T.seq fun K7 hK7 => ?_
 refine T.ent (TEnt.toH (tm' := [(0, .ref 0 0 0), (2, .ref 1 0 0), (3, .ref 3 0 0)]) (H' := [some (R l p5 e5), some ZZ, some (PsB []), some (ZcB g s f w wh 2 0)]) rfl ⟨rfl, rfl, rfl, trivial⟩) ?_
 refine T.region ?_ -- region 5
 refine ro rfl rfl (OpOk.step (ok_move (.inl rfl))) ?_
 refine ro rfl rfl (ok_call rfl rfl rfl ((by have h := (int_ok l p5 e5 0 2 hB k5 hl).passR (H := [some (R l p5 e5), some ZZ, some (PsB []), some (ZcB g s f w wh 2 0)]) (args := [.ref 0 0 0, .int 0, .int 2]) 0 rfl rfl (fun _ => rfl); rw [h6] at h; exact h))) ?_
 refine ro rfl rfl (OpOk.step (ok_move (.inl rfl))) ?_
 refine ro_nil ?_
 refine keepK hK7 [0, 2, 3, 19, 20] (by dsimp) (by dsimp) ?_
 refine T.block ?_
 refine T.loopI (ι := Nat) (fun i => i ≤ n) (fun i => n - i) (fun i => ([(0, .ref 0 0 0), (2, .ref 1 0 0), (3, .ref 3 0 0), (19, .int n), (20, .int i)], [some (R l (pgK l p6 e6 i).2.1 (pgK l p6 e6 i).2.2), some ZZ, some (PsB (pgK l p6 e6 i).1), some (ZcB g s f w wh 2 i)])) 0 (Nat.zero_le _) (TEnt.toH rfl ⟨rfl, rfl, rfl, rfl, rfl, trivial⟩) (fun i hi => ?_) -- loop 1
 have q0 := pgK_le (e := e6) k6 i
 have ql := pgK_len l p6 e6 i
 obtain ⟨⟨ps, a, u⟩, q1⟩ : ∃ q, pgK l p6 e6 i = q := ⟨_, rfl⟩
 obtain ⟨⟨a2, u2, v⟩, q2⟩ : ∃ q, ri l a u 0 1099511627776 = q := ⟨_, rfl⟩
 obtain ⟨⟨a3, u3, x⟩, q3⟩ : ∃ q, rb l a2 u2 1048576 = q := ⟨_, rfl⟩
 have q4 := pgK_succ q1 q2 q3
 rw [q1] at q0 ql
 dsimp only at q0 ql
 have q5 : a2 ≤ l.length := by have := ri_le (e := u) (a := 0) (b := 1099511627776) q0; rw [q2] at this; exact this
 refine T.ent (TEnt.toH (tm' := [(0, .ref 0 0 0), (2, .ref 1 0 0), (3, .ref 3 0 0), (19, .int n), (20, .int i)]) (H' := [some (R l a u), some ZZ, some (PsB ps), some (ZcB g s f w wh 2 i)]) (by rw [q1]) ⟨rfl, rfl, rfl, rfl, rfl, trivial⟩) ?_
 refine T.seq fun K8 hK8 => ?_
 refine T.region ?_ -- region 6
 refine ro rfl rfl (OpOk.step (ok_binOp rfl ti_int rfl)) ?_
 refine ro_nil ?_
 refine keepK hK8 [0, 2, 3, 19, 20, 21] (by dsimp) (by dsimp) ?_
 refine T.seq fun K9 hK9 => ?_
 refine T.cond rfl (fun hc => ?_) (fun hc => ?_) -- cond 1
 ·(try simp only [dE] at hc)
  refine T.skip ?_
  refine keepK hK9 [0, 2, 3, 19, 20] (by dsimp) (by dsimp) ?_
  refine T.seq fun K10 hK10 => ?_
  refine T.block ?_
  refine T.draw mixed (SH [10] (HeldL ([none, some ZZ, none, some (ZcB g s f w wh 2 i)]))) ?_ -- region 7
  refine any_take 0 rfl (by first | rfl | decide +kernel) rfl (by first | (simp [HeldL]; done) | (simp only [HeldL, List.map_cons, List.map_nil, List.cons_append, List.nil_append, List.set_cons_zero, List.set_cons_succ]; (repeat' first | trivial | rfl | constructor))) (fun H' hH => OpOk.step (ok_fieldAddr rfl ti_api_Zone rfl rfl ti_Lapi_Par (by decide) rfl)) ?_
  refine any_take 1 rfl (by first | rfl | decide +kernel) rfl (by first | (simp [HeldL]; done) | (simp only [HeldL, List.map_cons, List.map_nil, List.cons_append, List.nil_append, List.set_cons_zero, List.set_cons_succ]; (repeat' first | trivial | rfl | constructor))) (fun H' hH => OpOk.step (ok_load rfl ti_Lapi_Par (locA_held hH rfl) rfl)) ?_
  refine any_take 2 rfl (by first | rfl | decide +kernel) rfl (by first | (simp [HeldL]; done) | (simp only [HeldL, List.map_cons, List.map_nil, List.cons_append, List.nil_append, List.set_cons_zero, List.set_cons_succ]; (repeat' first | trivial | rfl | constructor))) (fun H' hH => OpOk.step (ok_move (.inl rfl))) ?_
  refine any_take 4 rfl (by first | rfl | decide +kernel) rfl (by first | (simp [HeldL]; done) | (simp only [HeldL, List.map_cons, List.map_nil, List.cons_append, List.nil_append, List.set_cons_zero, List.set_cons_succ]; (repeat' first | trivial | rfl | constructor))) (fun H' hH => OpOk.step (ok_move (.inl rfl))) ?_
  refine any_one 3 rfl (by first | rfl | decide +kernel) rfl rfl (ok_call rfl rfl rfl ((by have h := (int_ok l a u 0 1099511627776 hB q0 hl).passR (H := [some (R l a u), some ZZ, some (PsB ps), some (ZcB g s f w wh 2 i)]) (args := [.ref 0 0 0, .int 0, .int 1099511627776]) 0 rfl rfl (fun _ => rfl); rw [q2] at h; exact h))) (.inr (by first | (simp [HeldL]; done) | (simp only [HeldL, List.map_cons, List.map_nil, List.cons_append, List.nil_append, List.set_cons_zero, List.set_cons_succ]; (repeat' first | trivial | rfl | constructor)))) ?_
  refine any_one 5 rfl (by first | rfl | decide +kernel) rfl rfl (ok_call rfl rfl rfl ((by have h := (bytes_ok l a2 u2 1048576 hB q5 hl).passR (H := [some (R l a2 u2), some ZZ, some (PsB ps), some (ZcB g s f w wh 2 i)]) (args := [.ref 0 0 0, .int 1048576]) 0 rfl rfl (fun _ => by simp [AV.ren, renL_ints]); rw [q3] at h; exact h))) (.inr (by first | (simp [HeldL]; done) | (simp only [HeldL, List.map_cons, List.map_nil, List.cons_append, List.nil_append, List.set_cons_zero, List.set_cons_succ]; (repeat' first | trivial | rfl | constructor)))) ?_
  refine any_take 6 rfl (by first | rfl | decide +kernel) rfl (by first | (simp [HeldL]; done) | (simp only [HeldL, List.map_cons, List.map_nil, List.cons_append, List.nil_append, List.set_cons_zero, List.set_cons_succ]; (repeat' first | trivial | rfl | constructor))) (fun H' hH => OpOk.step (ok_build rfl ti_api_Par rfl)) ?_
  refine any_one 7 rfl (by first | rfl | decide +kernel) rfl rfl (OpOk.step (ok_buildSlice (n := 1) (ps := #[(0, .tmp 28)]) rfl ti_Lapi_Par rfl ti_api_Par (by decide) rfl rfl (by decide) rfl rfl rfl)) (.inr (by first | (simp [HeldL]; done) | (simp only [HeldL, List.map_cons, List.map_nil, List.cons_append, List.nil_append, List.set_cons_zero, List.set_cons_succ]; (repeat' first | trivial | rfl | constructor)))) ?_
  refine any_one 8 rfl (by first | rfl | decide +kernel) rfl rfl (OpOk.step (by exact ok_append_map (fun p => .agg (PrC p)) (xs := ps) (ys := [(⟨v, x⟩ : Pr)]) rfl ti_Lapi_Par rfl ti_api_Par (by decide) (by decide) rfl ti_Lapi_Par (by simp) rfl rfl rfl rfl rfl rfl rfl rfl (by omega) (by simp; omega))) (.inr (by first | (simp [HeldL]; done) | (simp only [HeldL, List.map_cons, List.map_nil, List.cons_append, List.nil_append, List.set_cons_zero, List.set_cons_succ]; (repeat' first | trivial | rfl | constructor)))) ?_
  refine any_take 9 rfl (by first | rfl | decide +kernel) rfl (by first | (simp [HeldL]; done) | (simp only [HeldL, List.map_cons, List.map_nil, List.cons_append, List.nil_append, List.set_cons_zero, List.set_cons_succ]; (repeat' first | trivial | rfl | constructor))) (fun H' hH => OpOk.step (ok_fieldAddr rfl ti_api_Zone rfl rfl ti_Lapi_Par (by decide) rfl)) ?_
  refine any_one 10 rfl (by first | rfl | decide +kernel) rfl rfl (OpOk.step (ok_store rfl ti_Lapi_Par (by decide) rfl rfl rfl rfl rfl (by first | exact Nat.le_of_ble_eq_true rfl | simp) (by first | exact .inl ⟨rfl, rfl⟩ | exact .inr rfl))) (.inl (by simp)) ?_
  refine any_done rfl ?_
  refine keepK hK10 [0, 2, 3, 19, 20] (by dsimp) (by dsimp) ?_
  refine T.region ?_ -- region 8
  refine ro rfl rfl (OpOk.step (ok_add64 rfl ti_int rfl rfl (by omega) (by omega))) ?_
  refine ro rfl rfl (OpOk.step (ok_move (.inl rfl))) ?_
  refine ro_nil ?_
  exact ⟨i + 1, by omega, by omega, TEnt.fin [0, 1, 5, 3] (by decide) (by simp) (by show [some (Blk.ren _ (R l a3 u3)), some (Blk.ren _ ZZ), some (Blk.ren _ (PsB (ps ++ [⟨v, x⟩]))), some (Blk.ren _ (ZcB g s f w wh 5 (ps ++ [(⟨v, x⟩ : Pr)]).length))] = _; rw [R_ren, PsB_ren, ZcB_ren (q := 2) (by decide), q4, List.length_append, ql]; rfl) ⟨rfl, rfl, rfl, rfl, rfl, trivial⟩⟩
 ·(try simp only [dE] at hc)
  have hin : i = n := by omega
  subst hin
  rw [q1] at hQ
  refine T.exit ?_
  refine keepK hK6 [2, 3] (by dsimp) (by dsimp) ?_
  refine T.seq fun K11 hK11 => ?_
  refine T.region ?_ -- region 9
  refine ro rfl rfl (OpOk.step (ok_load rfl ti_api_Zone rfl rfl)) ?_
  refine ro rfl rfl (OpOk.step (ok_store rfl ti_api_Zone (by decide) rfl rfl rfl rfl rfl (by first | exact Nat.le_of_ble_eq_true rfl | simp) (by first | exact .inl ⟨rfl, rfl⟩ | exact .inr rfl))) ?_
  refine ro_nil ?_
  refine keepK hK11 [2] (by dsimp) (by dsimp) ?_
  refine T.ret (hQ _ _ _ rfl ?_).1 -- ret 1
  exact zg_end (z := ⟨g, s, f, w, wh, ps⟩) rfl (by show AV.agg [.int g, .int s, .b f, .int w, .b wh, .sl 2 0 i] = .agg [.int g, .int s, .b f, .int w, .b wh, .sl 2 0 ps.length]; rw [ql]) rfl (fun ρ => R_ren ρ _ _ _) rfl
end Go.Proofs.Ytlegolcbjjjofaa.AmF
