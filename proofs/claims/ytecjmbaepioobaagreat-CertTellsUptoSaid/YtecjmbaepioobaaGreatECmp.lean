import Derived.Test.YtecjmbaepioobaaGreatED
import Derived.WalkKit
import Derived.Lib.Strings
import Derived.Lib.Slices
import Derived.Lib.Walk
import Derived.Lib.Bytealg
set_option linter.unusedSimpArgs false
set_option linter.unusedVariables false
namespace Go.Proofs
set_option maxRecDepth 100000
set_option maxHeartbeats 1000000 in
theorem Tryz.cmpString (a b : ByteArray) (w : World) :
    Calls Tryz.prog 100 #[.string a, .string b] w fun e w' => e = .returned (.int .i64 (Lib.compareBytes a.data.toList b.data.toList)) ∧ w' = w := by
  go_enter Tryz.func100, Tryz.ntmps100
  go_wp2
  rw [run_callFunc_extern Tryz.func133 (by kernel_rfl) (by kernel_rfl) (by kernel_rfl) (e := Extern.BytealgCompare.compare) (by kernel_rfl), Lib.run_compareString]
  simp only [Result.andThen]
  rw [Oper.upon_value]
  go_wp2
  go_ret
  exact ⟨rfl, rfl⟩
set_option maxHeartbeats 1000000 in
theorem Tryz.stringsCompare (a b : ByteArray) (w : World) :
    Calls Tryz.prog 69 #[.string a, .string b] w fun e w' => e = .returned (.int .i64 (Lib.compareBytes a.data.toList b.data.toList)) ∧ w' = w := by
  go_enter Tryz.func69, Tryz.ntmps69
  go_wp2_with (go_at_call 100; refine (Tryz.cmpString _ _ _).mono ?_; rintro e w' ⟨rfl, rfl⟩)
  go_ret
  exact ⟨rfl, rfl⟩
end Go.Proofs
namespace Go.Abs.Try
open Go.RowKit
theorem k69 : TOk Proofs.Tryz.prog 69 t69 := TL_ok ar69.wk fun x v h => by
 obtain ⟨r, hr, h1⟩ := bindO_eq h
 injection hr with hr
 injection h1 with h1
 subst hr; subst h1
 intro σ g w vs hI hr
 obtain ⟨_, _, rfl, rfl, h2⟩ := reps_cons hr
 obtain ⟨_, _, rfl, rfl, h3⟩ := reps_cons h2
 have h3 : _ = [] := h3
 subst h3
 refine Yields.of_calls (callFunc_enter Proofs.Tryz.func69 (c := Proofs.Tryz.f69.body.get rfl) rfl (by decide) _ _) ((Proofs.Tryz.stringsCompare x.1 x.2 w).mono ?_)
 rintro e w' ⟨rfl, rfl⟩
 exact ⟨_, rfl, g, Moved.stay hI, rfl⟩
end Go.Abs.Try
