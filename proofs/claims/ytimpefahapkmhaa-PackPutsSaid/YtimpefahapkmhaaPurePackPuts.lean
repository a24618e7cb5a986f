/- Any number, truth and text as bytes, behind any others, and any bytes filled up: as the reference says. No condition. -/
import Derived.Test.YtimpefahapkmhaaAskPackPuts
import Derived.Test.YtimpefahapkmhaaPackLib
namespace Go.Proofs.Ytimpefahapkmhaa.Pure
open Go.RowKit Go.Proofs.Ytimpefahapkmhaa.M Go.Proofs.Ytimpefahapkmhaa.PackLib Go.Proofs.Ytimpefahapkmhaa.AskPackPuts Go.Proofs.YtimpefahapkmhaaW.PrintWords Go.Proofs.YtimpefahapkmhaaW.PrintLast Go.Proofs.YtimpefahapkmhaaW.PrintMore Go.Proofs.YtimpefahapkmhaaW.MyPure
theorem PackPuts_all (l : List Int) (n : Int) (x : List Int) (b : Bool) (u : Int) (k : Nat) (hk : k = 80000) : revetmentlaw01_PackPuts.f k l n x b u = some true := by
  unfold revetmentlaw01_PackPuts.f
  have lv := live01 k (by omega)
  rw [lv]
  simp only [Option.bind_some]
  by_cases c1 : (l.length : Int) > 500
  · rw [if_pos c1]
  rw [if_neg c1]
  by_cases c2 : (x.length : Int) > 500
  · rw [if_pos c2]
  rw [if_neg c2, int_tells l n k (by omega) (by omega), ref_int_tells n k (by omega), bytes_tells l x k (by omega) (by omega) (by omega), ref_bytes_tells x k (by omega) (by omega), flag_tells l b (by omega), ref_flag_tells b]
  obtain ⟨p, p1, p2⟩ := pad_tells l u k (by omega) (by omega)
  rw [p1, p2]
  have fl1 : (fl b).length = 1 := by cases b <;> rfl
  simp only [Option.bind_some]
  have s1 : (strOfNums l).size + (strOfNums (wd n)).size ≤ 9223372036854775807 := by rw [strOfNums_size, strOfNums_size, wd_len]; omega
  have s2 : (strOfNums l).size + (strOfNums (wd x.length ++ x)).size ≤ 9223372036854775807 := by rw [strOfNums_size, strOfNums_size, List.length_append, wd_len]; omega
  have s3 : (strOfNums l).size + (strOfNums (fl b)).size ≤ 9223372036854775807 := by rw [strOfNums_size, strOfNums_size, fl1]; omega
  have e1 : (strOfNums (l ++ wd n)).toList = (strOfNums l ++ strOfNums (wd n)).toList := by rw [str_app]
  have e2 : (strOfNums (l ++ wd x.length ++ x)).toList = (strOfNums l ++ strOfNums (wd x.length ++ x)).toList := by rw [List.append_assoc, str_app]
  have e3 : (strOfNums (l ++ fl b)).toList = (strOfNums l ++ strOfNums (fl b)).toList := by rw [str_app]
  rw [if_pos s1, if_pos e1, if_pos s2, if_pos e2, if_pos s3, if_pos e3, if_pos trivial]
theorem PackPuts : AskPackPuts.Pure := by
  intro l n x b u hl hn hx hu
  exact ⟨80000, PackPuts_all l n x b u 80000 rfl⟩
end Go.Proofs.Ytimpefahapkmhaa.Pure
