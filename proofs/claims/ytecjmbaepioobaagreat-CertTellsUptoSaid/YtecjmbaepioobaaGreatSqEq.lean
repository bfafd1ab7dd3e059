import Derived.Test.YtecjmbaepioobaaGreatGen1
import Derived.Test.YtecjmbaepioobaaGreatSqTys
import Derived.Tactics
import Derived.Laws.StructEq
set_option linter.unusedSimpArgs false
set_option linter.unusedVariables false
namespace Go.Abs.Try
open Go.RowKit
open Go.Proofs
theorem eq85v (a c : ByteArray) (b d : Int) (w : World) : (Op.equalIn 10000 85 (.agg #[.string a, .int .i64 b]) (.agg #[.string c, .int .i64 d])).run Tryz.prog w = .ok (a.toList == c.toList && b == d) w := by
 have u3 := Tryz.underlying3
 have u9 := Tryz.underlying9
 have a3 := Tryz.isAgg3
 have a9 := Tryz.isAgg9
 have z3 := Tryz.sizeOf3
 have z9 := Tryz.sizeOf9
 have hS : Tryz.prog.underlying 85 = some (.struct (Tryz.prog.fieldsOf 85)) := by kernel_rfl
 have hp : Tryz.prog.stoodInHeld 85 = false := by kernel_rfl
 rw [show (10000 : Nat) = 9999 + 1 from rfl, run_equalIn_agg w 9999 85 _ _ hS hp]
 simp only [Program.fieldsOf, Tryz.underlying85]
 go_simp
 by_cases h1 : a.toList = c.toList <;> by_cases h2 : b = d <;> simp [h1, h2]
theorem eq85 : EqOk Tryz.prog 85 [.string, .int .i64] := by
 intro g n xs ys vs us r w h hx hy
 refine ⟨?_, by kernel_rfl⟩
 obtain ⟨a, c, xs, ys, r1, rfl, rfl, h1, rfl⟩ := eqCells_str h
 obtain ⟨b, d, xs2, ys2, r2, rfl, rfl, h2, rfl⟩ := eqCells_int h1
 obtain ⟨rfl, rfl, rfl⟩ := eqCells_nil h2
 obtain ⟨_, _, rfl, rfl, hx1⟩ := reps_cons hx
 obtain ⟨_, _, rfl, rfl, hx2⟩ := reps_cons hx1
 obtain ⟨_, _, rfl, rfl, hy1⟩ := reps_cons hy
 obtain ⟨_, _, rfl, rfl, hy2⟩ := reps_cons hy1
 have hx2 : _ = [] := hx2
 have hy2 : _ = [] := hy2
 subst hx2; subst hy2
 rw [Bool.and_true]
 exact eq85v a c b d w
def eqts : Nat → Option (List TK)
 | 85 => some [.string, .int .i64]
 | _ => none
theorem eqts_ok (t : Nat) (ss : List TK) (h : eqts t = some ss) : EqOk Tryz.prog t ss := by
 unfold eqts at h
 split at h
 · injection h with h; subst h; exact eq85
 · cases h
@[push_cast] theorem eqts85 : eqts 85 = some [.string, .int .i64] := rfl
end Go.Abs.Try
