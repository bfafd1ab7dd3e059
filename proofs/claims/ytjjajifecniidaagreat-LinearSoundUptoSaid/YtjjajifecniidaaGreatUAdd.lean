import Derived.Test.YtjjajifecniidaaGreatUD
import Derived.Laws.Externs
set_option linter.unusedSimpArgs false
set_option linter.unusedVariables false
namespace Go.Proofs
theorem Tryz.bitsAdd64 (x y c : Int) (hx : 0 ≤ x) (hy : 0 ≤ y) (hc0 : 0 ≤ c) (hc : c ≤ 1) (w : World) :
   (callFunc 102 #[.int .u64 x, .int .u64 y, .int .u64 c]).run Tryz.prog w = .ok (.value (.tuple #[.int .u64 ((x + y + c) % 18446744073709551616), .int .u64 ((x + y + c) / 18446744073709551616)])) w := by
 rw [run_callFunc_extern Tryz.func102 (by kernel_rfl) (by kernel_rfl) (by kernel_rfl) (e := add64Entry) (by kernel_rfl), run_add64 x y c hx hy hc0 hc]
 simp only [Result.andThen]
end Go.Proofs
namespace Go.Abs.Try
open Go.RowKit
theorem k102 : TOk Proofs.Tryz.prog 102 t102 := TL_ok ar102.wk fun x v h => by
 obtain ⟨r, hr, h1⟩ := bindO_eq h
 obtain ⟨hc, hr⟩ := iteO_none hr
 injection hr with hr
 injection h1 with h1
 subst hr; subst h1
 obtain ⟨hx, hy, hc0, hc1⟩ := of_decide_eq_true hc
 intro σ g w vs hI hr
 obtain ⟨_, _, rfl, rfl, h2⟩ := reps_cons hr
 obtain ⟨_, _, rfl, rfl, h3⟩ := reps_cons h2
 obtain ⟨_, _, rfl, rfl, h4⟩ := reps_cons h3
 have h4 : _ = [] := h4
 subst h4
 exact .inl ⟨_, w, Proofs.Tryz.bitsAdd64 _ _ _ hx hy hc0 hc1 w, g, Moved.stay hI, _, rfl, _, _, rfl, rfl, _, _, rfl, rfl, rfl⟩
end Go.Abs.Try
