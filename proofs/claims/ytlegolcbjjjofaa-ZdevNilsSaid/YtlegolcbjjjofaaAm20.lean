/- A piece of code to whose labels nobody jumps. -/
import Derived.Test.YtlegolcbjjjofaaAm19
import Derived.Scope
namespace Go.AM
open Go
variable {D : List Deferred} {P : Program} {n k : Nat} {tm : TM} {H : Heap} {Q : Post}
def noG (Q : Post) : Post
  | .goto _ => fun _ _ => False
  | e => Q e
theorem T.scope {c : Code} (h : T D P n k c tm H (noG Q)) : T D P n k (.scope c) tm H Q := by
  intro g a hH hk hg ht
  refine wp_scope_straight (wp_mono (h g a hH hk hg ht) fun e a' w' he => ?_)
  obtain ⟨tm', g', h1, h2, h3, h4, h5, h6⟩ := he
  cases e with
  | goto l => exact h2.elim
  | _ => exact ⟨tm', g', h1, h2, h3, h4, h5, h6⟩
end Go.AM
