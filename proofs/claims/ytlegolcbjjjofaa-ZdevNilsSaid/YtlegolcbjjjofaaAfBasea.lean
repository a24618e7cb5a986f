/- Walks over the abstract machine: calls and rows in other words; texts. -/
import Derived.Test.YtlegolcbjjjofaaAmFacts
import Derived.Test.YtlegolcbjjjofaaAmNum
namespace Go.Proofs.Ytlegolcbjjjofaa.AmF
open Go Go.AM
set_option maxRecDepth 100000
set_option linter.unusedSimpArgs false
set_option linter.unusedVariables false
attribute [local simp] tkeep tget tput ev cav argsTM pickA normT putA splice AV.cells ints_length rowsA_length
theorem _root_.Go.AM.CSpec.res {P : Program} {f : FuncId} {hin : List Blk} {args : List AV} {hout : Heap} {x x' : AV} (h : CSpec P f hin args hout x) (he : Ent hout x x') : CSpec P f hin args hout x' :=
  ⟨h.1, fun g vals hH hg hr => (h.2 g vals hH hg hr).mono fun e w' ⟨v, g', h1, h2, h3, h4, h5, h6⟩ => ⟨v, g', h1, h2, h3, h4, he g' v h3 h4 h5, h6⟩⟩
theorem _root_.Go.AM.CSpec.frz' {P : Program} {f : FuncId} {args : List AV} {l r : List Int} {k : IntKind} (h : CSpec P f [] args [some ⟨1, true, ints k l⟩] (.sl 0 0 l.length)) (hr : l = r) : CSpec P f [] args [] (.fz 1 (ints k r)) := hr ▸ h.frz (by simp) (renL_ints _ _ _)
/-- A call to which rows are lent, and that makes a row of whole numbers. -/
theorem _root_.Go.AM.CSpec.lendI {P : Program} {H : Heap} {f : FuncId} {args args' args'' : List AV} {k : IntKind} {r : List Int} (h : CSpec P f [] args' [some ⟨1, true, ints k r⟩] (.sl 0 0 r.length)) (hv : EntL (frzH H) args args'') (ha : renL (pos []) args'' = args') : CallOk P f H args (.sl H.length 0 r.length) (H ++ [some ⟨1, true, ints k r⟩]) :=
  h.lendR (R := [⟨1, true, ints k r⟩]) (R' := [⟨1, true, ints k r⟩]) hv ha (by simp [Blk.ren, renL_ints]) rfl rfl (by simp [nofzL_ints])
theorem IB_ren (ρ : Nat → Option Nat) (k : IntKind) (l : List Int) : Blk.ren ρ ⟨1, true, ints k l⟩ = ⟨1, true, ints k l⟩ := by simp [Blk.ren, renL_ints]
/-- Two rows of bytes as texts. -/
def strEq (a b : List Int) : Bool := (strOf (a.map fun n => UInt8.ofNat n.toNat)).toList == (strOf (b.map fun n => UInt8.ofNat n.toNat)).toList
theorem strEq_refl (a : List Int) : strEq a a = true := by simp [strEq]
theorem equal_ok (a b : List Int) : CSpec Try.prog 122 [] [.fz 1 (ints .u8 a), .fz 1 (ints .u8 b)] [] (.b (strEq a b)) := by
 refine CSpec.body Try.func122 rfl rfl rfl rfl rfl fun Q hQ => ?_
 refine T.seq fun K1 hK1 => ?_
 refine T.region ?_
 refine rs rfl rfl (ok_moveb (c := false) (.inr rfl) rfl) ?_
 refine ro_nil ?_
 refine keepK hK1 [0, 1] (by dsimp) (by dsimp) ?_
 refine T.seq fun K2 hK2 => ?_
 refine T.region ?_
 refine rs rfl rfl (ok_move (.inl rfl)) ?_
 refine rs rfl rfl (ok_conv_str rfl ti_Luint8 ti_string rfl ti_uint8 rfl rfl rfl rfl (bytesOf_ints _)) ?_
 refine rs rfl rfl (ok_move (.inl rfl)) ?_
 refine rs rfl rfl (ok_conv_str rfl ti_Luint8 ti_string rfl ti_uint8 rfl rfl rfl rfl (bytesOf_ints _)) ?_
 refine rs rfl rfl (ok_binOp rfl ti_string rfl) ?_
 refine rs rfl rfl (ok_move (.inr rfl)) ?_
 refine ro_nil ?_
 refine keepK hK2 [4] (by dsimp) (by dsimp) ?_
 refine T.ret (hQ _ _ _ rfl ?_).1 -- ret 1
 exact TEnt.fin [] (by decide) (by simp) rfl ⟨rfl, trivial⟩

theorem take_eq_step {a b : List Int} {i : Nat} {u v : Int} (h : a.take i = b.take i) (hu : a[i]? = some u) (hv : b[i]? = some v) : a.take (i + 1) = b.take (i + 1) ↔ u = v := by
  rw [take_succ_get hu, take_succ_get hv, h]
  simp
theorem ne_of_take {a b : List Int} {i : Nat} {u v : Int} (hu : a[i]? = some u) (hv : b[i]? = some v) (h : u ≠ v) : a ≠ b := fun e => h (by rw [e, hv] at hu; exact (Option.some.inj hu).symm)
/-- A row that an operation makes, frozen as it comes. -/
theorem _root_.Go.AM.OpOk.frz {P : Program} {tm : TM} {H H' : Heap} {o : Oper} {id n es : Nat} {own : Bool} {l : List AV} (h : OpOk P tm H o (.sl id 0 n) H') (hg : hget H' id = some ⟨es, own, l⟩) (hl : l.length = n) : OpOk P tm H o (.fz es l) (H'.set id (some ⟨es, false, l⟩)) := by
  intro g a hH hgo ht
  obtain ⟨v, g1, h1, h2, h3, h4, h5⟩ := h g a hH hgo ht
  subst h2
  have he : TEnt g1.H.length [(0, AV.sl id 0 n)] g1.H [(0, .fz es l)] (g1.H.set id (some ⟨es, false, l⟩)) :=
    (TEnt.freeze id hg).trans ((TEnt.put1 0 (Ent.sl0 (b := ⟨es, false, l⟩) (by rw [hget_set, if_pos ⟨rfl, hget_lt hg⟩]) rfl hl)).trans (TEnt.to ⟨rfl, trivial⟩))
  obtain ⟨g2, k1, k2, k3, k4, k5, k6⟩ := he g1 (fun _ => v) rfl (Nat.le_refl _) h3 (fun t => by
    simp only [tget]
    split
    · exact h4
    · simp [Rel])
  have k4' := k4 0
  simp only [tget, if_true] at k4'
  have hsub : Sub g1 g2 := ⟨⟨k5.z, fun b _ => by rw [k1], fun i j hi hj => by cases hj; exact ⟨Nat.lt_of_lt_of_le hi k6.len, fun k' hk' => k6.id i k' hi hk'⟩⟩, k5⟩
  refine ⟨v, g2, ?_, k2, k3, k4', h5.trans hsub⟩
  rw [k1]; exact h1
theorem _root_.Go.AM.Ent.tup {H : Heap} {l l' : List AV} (h : EntL H l l') : Ent H (.tup l) (.tup l') := by
  intro g y hH hg hx
  simp only [Rel] at hx ⊢
  obtain ⟨cs, rfl, h2⟩ := hx
  exact ⟨cs, rfl, h g _ hH hg h2⟩
end Go.Proofs.Ytlegolcbjjjofaa.AmF
