import Derived.Test.YtjealnlacmfbiaaXD
import Derived.WalkKit
import Derived.Lib.Strings
import Derived.Lib.Slices
import Derived.Lib.Walk
import Derived.Lib.Bytealg
set_option linter.unusedSimpArgs false
set_option linter.unusedVariables false
namespace Go.Proofs
set_option maxRecDepth 100000
set_option maxHeartbeats 1000000 in
theorem Try.cmpString (a b : ByteArray) (w : World) :
    Calls Try.prog 53 #[.string a, .string b] w fun e w' => e = .returned (.int .i64 (Lib.compareBytes a.data.toList b.data.toList)) ∧ w' = w := by
  go_enter Try.func53, Try.ntmps53
  go_wp2
  rw [run_callFunc_extern Try.func62 (by kernel_rfl) (by kernel_rfl) (by kernel_rfl) (e := Extern.BytealgCompare.compare) (by kernel_rfl), Lib.run_compareString]
  simp only [Result.andThen]
  rw [Oper.upon_value]
  go_wp2
  go_ret
  exact ⟨rfl, rfl⟩
set_option maxHeartbeats 1000000 in
theorem Try.stringsCompare (a b : ByteArray) (w : World) :
    Calls Try.prog 33 #[.string a, .string b] w fun e w' => e = .returned (.int .i64 (Lib.compareBytes a.data.toList b.data.toList)) ∧ w' = w := by
  go_enter Try.func33, Try.ntmps33
  go_wp2_with (go_at_call 53; refine (Try.cmpString _ _ _).mono ?_; rintro e w' ⟨rfl, rfl⟩)
  go_ret
  exact ⟨rfl, rfl⟩
end Go.Proofs
namespace Go.Abs.Try
open Go.RowKit
theorem k33 : TOk Proofs.Try.prog 33 t33 := TL_ok ar33.wk fun x v h => by
 obtain ⟨r, hr, h1⟩ := bindO_eq h
 injection hr with hr
 injection h1 with h1
 subst hr; subst h1
 intro σ g w vs hI hr
 obtain ⟨_, _, rfl, rfl, h2⟩ := reps_cons hr
 obtain ⟨_, _, rfl, rfl, h3⟩ := reps_cons h2
 have h3 : _ = [] := h3
 subst h3
 refine Yields.of_calls (callFunc_enter Proofs.Try.func33 (c := Proofs.Try.f33.body.get rfl) rfl (by decide) _ _) ((Proofs.Try.stringsCompare x.1 x.2 w).mono ?_)
 rintro e w' ⟨rfl, rfl⟩
 exact ⟨_, rfl, g, Moved.stay hI, rfl⟩
end Go.Abs.Try
