import Derived.Test.YtecjmbaepioobaaGreatCl
import Derived.Test.YtecjmbaepioobaaGreatSqCl0
set_option linter.unusedSimpArgs false
set_option linter.unusedVariables false
namespace Go.Abs
variable {α : Type}
@[push_cast] theorem cloneT_map (c : α → List AV) (l : List α) (fl : Bool) (sz bytes : Nat) (σ : Store) : cloneT sz bytes [.sl fl sz (List.map c l)] σ = iteO (fits l.length bytes) (some (.rs σ.length 0, σ ++ [.row sz 0 (List.map c l)])) none := by
 simp [cloneT]
@[push_cast] theorem cloneT_nil (fl : Bool) (s sz bytes : Nat) (σ : Store) : cloneT sz bytes [.sl fl s []] σ = some (.rs σ.length 0, σ ++ [.row sz 0 []]) := by
 simp [cloneT, fits, roomMax, iteO]
@[push_cast] theorem grown_map (σ : Store) (size : Nat) (es : List (List AV)) (c : α → List AV) (l : List α) : grown σ size es (List.map c l) = iteO l.isEmpty (some (.sl true size es, σ)) (some (.rs σ.length 0, σ ++ [.row size 0 (es ++ List.map c l)])) := by
 cases l <;> rfl
end Go.Abs
namespace Go.Abs.Try
def te41 : TE Proofs.Tryz.prog := ⟨41, cloneT 5 64, false, fun args σ v σ' hr => clone_ok Proofs.Tryz.func41 (c := Proofs.Tryz.f41.body.get rfl) rfl (by decide) (by decide) Proofs.Tryz.cloneNode_nil Proofs.Tryz.cloneNode args σ v σ' hr, fun h => by cases h⟩
end Go.Abs.Try
