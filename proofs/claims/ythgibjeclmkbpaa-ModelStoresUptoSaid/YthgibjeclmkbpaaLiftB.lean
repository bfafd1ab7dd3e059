import Derived.Test.YthgibjeclmkbpaaLift
import Derived.Test.YthgibjeclmkbpaaRowLib
set_option linter.unusedSimpArgs false
set_option linter.unusedVariables false
namespace Go.Abs
open Go.ChangeShapes Go.WideShapes Go.ChangeAt Go.RowKit Go.ChangeMaps
def iB (n : Int) : Nat := if -9223372036854775808 ≤ n ∧ n < 9223372036854775808 then 1 else 4194304
theorem iB_pos (n : Int) : 1 ≤ iB n := by unfold iB; split <;> omega
section
variable {H : Type} {enc : TypeId × Value → H} {P : Program} {W : World} {bulk : DataW H → Nat}
theorem RA.intB (hb : Bulk bulk) {n t : Nat} (hu : P.underlying t = some (.int .i64)) : RA enc P W bulk n t (cI .i64) iB := by
 intro fuel _ cs d ps h
 obtain ⟨m, rfl, hx, hw⟩ := DataW.trod_int hu h
 injection hx with h1 _
 subst h1
 refine ⟨m, ⟨_, [], rfl, rfl, rfl⟩, rfl, ?_⟩
 have h2 := int_wf hw
 have : iB m = 1 := by unfold iB; rw [if_pos h2]
 rw [this]
 exact hb.lit _
end
end Go.Abs
