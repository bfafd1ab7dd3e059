/-
  NARROWER THAN 'FOR EVERY INPUT', by the rows' own cells (each row's printed sentence says how): LemmaMakes: loops · LemmaKinds: loops · LemmaWitnessed: loops.
  DERIVED. THE GIVEN ROWS OF THIS SEAT. 3 by the template 'for every input the law returns true; each argument reads behind the call as it read before'; 0 by the template 'total and deterministic' (their statements: YtdigpkmbcojpoaaGreatTotals.lean).
  GIVEN WITH THE SEED: the statements are not yours to turn. If you find one false, say at which input.
  Laid BY PROGRAM, IN A SANDBOX (cutbox-rows.mjs): the forced cells as the released guide's own fill.sh prints them over the translation 43d417d9ddb4f7d8… (all of the seat's roots in one cut). By AI agents, Wed Nov 11 2026. No macro, syntax, notation, axiom, sorry.
-/
import Derived.Test.YtdigpkmbcojpoaaGreatChecked
import GoSem.Claim
import GoSem.ClaimJoined
import GoSem.ClaimMapViews
import Derived.JoinedTies
import Derived.KernelRfl
namespace Go.Proofs.YtdigpkmbcojpoaaGreat
/- THE CELL 'sum', in the pinned program and in every row, IS THE sha256 OF THE DUMP (.gsa) THAT YtdigpkmbcojpoaaGreatProg.lean LOADS. Nothing in Lean hashes anything: it is a label: what it is worth is what the hold of that sum in a sandbox is worth. -/
noncomputable def Tryz.pinned : Pinned := { name := "ytdigpkmbcojpoaagreat", sum := "43d417d9ddb4f7d832c5214a80aab0a77ec158dee7d3c6d0846caefb462d0acb", checked := Tryz.checked }
namespace Rows
def none {H : Type} : Left H := { results := [], args := [] }

/-- 'quantalelaw06.LemmaMakes': WHATEVER THE INPUT: true; the input reads as it did. -/
def lemmaMakesSpec : ChangeSpec := { name := "lemmaMakes", fn := fun _ => fun
  | [d1, d2] => { results := [.lit (.bool true)], args := [d1, d2] }
  | _ => none }
def lemmaMakesRow : OpenClaim := { program := "ytdigpkmbcojpoaagreat", sum := "43d417d9ddb4f7d832c5214a80aab0a77ec158dee7d3c6d0846caefb462d0acb", func := "quantale/quantalelaw06.LemmaMakes", spec := "lemmaMakes", inPlace := ["internal/bytealg.abigen_runtime_cmpstring"], unfollowed := true, recurses := true, loops := true, apart := false }
def LemmaMakesSaid : Prop := lemmaMakesRow.holds Tryz.pinned (OpenSpec.ofChange lemmaMakesSpec)

/-- ITS FALSE NEIGHBOUR: 'it returns false'. Refute it at one input. -/
def lemmaMakesWrong : ChangeSpec := { name := "lemmaMakes", fn := fun _ => fun
  | [d1, d2] => { results := [.lit (.bool false)], args := [d1, d2] }
  | _ => none }
def LemmaMakesWrongFalsely : Prop := lemmaMakesRow.holds Tryz.pinned (OpenSpec.ofChange lemmaMakesWrong)

/-- 'quantalelaw06.LemmaKinds': WHATEVER THE INPUT: true; the input reads as it did. -/
def lemmaKindsSpec : ChangeSpec := { name := "lemmaKinds", fn := fun _ => fun
  | [d] => { results := [.lit (.bool true)], args := [d] }
  | _ => none }
def lemmaKindsRow : OpenClaim := { program := "ytdigpkmbcojpoaagreat", sum := "43d417d9ddb4f7d832c5214a80aab0a77ec158dee7d3c6d0846caefb462d0acb", func := "quantale/quantalelaw06.LemmaKinds", spec := "lemmaKinds", inPlace := ["internal/bytealg.abigen_runtime_cmpstring"], unfollowed := true, recurses := true, loops := true, apart := false }
def LemmaKindsSaid : Prop := lemmaKindsRow.holds Tryz.pinned (OpenSpec.ofChange lemmaKindsSpec)

/-- ITS FALSE NEIGHBOUR: 'it returns false'. Refute it at one input. -/
def lemmaKindsWrong : ChangeSpec := { name := "lemmaKinds", fn := fun _ => fun
  | [d] => { results := [.lit (.bool false)], args := [d] }
  | _ => none }
def LemmaKindsWrongFalsely : Prop := lemmaKindsRow.holds Tryz.pinned (OpenSpec.ofChange lemmaKindsWrong)

/-- 'quantalelaw06.LemmaWitnessed': WHATEVER THE INPUT: true; the input reads as it did. -/
def lemmaWitnessedSpec : ChangeSpec := { name := "lemmaWitnessed", fn := fun _ => fun
  | [d1, d2] => { results := [.lit (.bool true)], args := [d1, d2] }
  | _ => none }
def lemmaWitnessedRow : OpenClaim := { program := "ytdigpkmbcojpoaagreat", sum := "43d417d9ddb4f7d832c5214a80aab0a77ec158dee7d3c6d0846caefb462d0acb", func := "quantale/quantalelaw06.LemmaWitnessed", spec := "lemmaWitnessed", inPlace := ["internal/bytealg.abigen_runtime_cmpstring"], unfollowed := true, recurses := true, loops := true, apart := false }
def LemmaWitnessedSaid : Prop := lemmaWitnessedRow.holds Tryz.pinned (OpenSpec.ofChange lemmaWitnessedSpec)

/-- ITS FALSE NEIGHBOUR: 'it returns false'. Refute it at one input. -/
def lemmaWitnessedWrong : ChangeSpec := { name := "lemmaWitnessed", fn := fun _ => fun
  | [d1, d2] => { results := [.lit (.bool false)], args := [d1, d2] }
  | _ => none }
def LemmaWitnessedWrongFalsely : Prop := lemmaWitnessedRow.holds Tryz.pinned (OpenSpec.ofChange lemmaWitnessedWrong)

/- THE SECOND FORM. 'bulk': how many values and letters a reading holds, each counted each time it is reached (what is shared counts as often as it is met; a slice's spare places count too). A statement '..UptoSaid' is the law's where the arguments, and the package variables that the reading takes, are together of bulk at most 1048576: NARROWER than '..Said'. Prove '..Said' where nothing that the law and all that it calls make is longer than what came in: it says more and counts as full. Else prove '..UptoSaid'. A law counts once. -/
mutual
def uptoBulk {H : Type} : DataW H → Nat
  | .lit (.string bytes) => bytes.length + 1
  | .lit _ => 1
  | .nil => 1
  | .ptr d => uptoBulk d + 1
  | .slice elems spare => uptoBulkAll elems + uptoBulkAll spare + 1
  | .agg parts => uptoBulkAll parts + 1
  | .iface _ d => uptoBulk d + 1
  | .map entries => uptoBulkEntries entries + 1
  | .held _ => 1
def uptoBulkAll {H : Type} : List (DataW H) → Nat
  | [] => 0
  | d :: r => uptoBulk d + uptoBulkAll r
def uptoBulkEntries {H : Type} : List (Lit × DataW H) → Nat
  | [] => 0
  | x :: r => uptoBulkEntry x + uptoBulkEntries r
def uptoBulkEntry {H : Type} : Lit × DataW H → Nat
  | (.string bytes, d) => bytes.length + uptoBulk d + 1
  | (_, d) => uptoBulk d + 1
 end
def uptoSmall : (H : Type) → List (DataW H) → Bool := fun _ ds => decide (uptoBulkAll ds ≤ 1048576)
def OpenSpec.upto (s : _root_.Go.ChangeSpec) : _root_.Go.OpenSpec := { _root_.Go.OpenSpec.ofChange s with cond := some uptoSmall }

/-- 'quantalelaw06.LemmaMakes', WHERE WHAT IT READS IS OF BULK AT MOST 1048576: true; the input reads as it did. -/
def lemmaMakesUptoRow : OpenClaim := { program := "ytdigpkmbcojpoaagreat", sum := "43d417d9ddb4f7d832c5214a80aab0a77ec158dee7d3c6d0846caefb462d0acb", func := "quantale/quantalelaw06.LemmaMakes", spec := "lemmaMakes", inPlace := ["internal/bytealg.abigen_runtime_cmpstring"], unfollowed := true, recurses := true, loops := true, apart := false, narrowed := true }
def LemmaMakesUptoSaid : Prop := lemmaMakesUptoRow.holds Tryz.pinned (OpenSpec.upto lemmaMakesSpec)

/-- 'quantalelaw06.LemmaKinds', WHERE WHAT IT READS IS OF BULK AT MOST 1048576: true; the input reads as it did. -/
def lemmaKindsUptoRow : OpenClaim := { program := "ytdigpkmbcojpoaagreat", sum := "43d417d9ddb4f7d832c5214a80aab0a77ec158dee7d3c6d0846caefb462d0acb", func := "quantale/quantalelaw06.LemmaKinds", spec := "lemmaKinds", inPlace := ["internal/bytealg.abigen_runtime_cmpstring"], unfollowed := true, recurses := true, loops := true, apart := false, narrowed := true }
def LemmaKindsUptoSaid : Prop := lemmaKindsUptoRow.holds Tryz.pinned (OpenSpec.upto lemmaKindsSpec)

/-- 'quantalelaw06.LemmaWitnessed', WHERE WHAT IT READS IS OF BULK AT MOST 1048576: true; the input reads as it did. -/
def lemmaWitnessedUptoRow : OpenClaim := { program := "ytdigpkmbcojpoaagreat", sum := "43d417d9ddb4f7d832c5214a80aab0a77ec158dee7d3c6d0846caefb462d0acb", func := "quantale/quantalelaw06.LemmaWitnessed", spec := "lemmaWitnessed", inPlace := ["internal/bytealg.abigen_runtime_cmpstring"], unfollowed := true, recurses := true, loops := true, apart := false, narrowed := true }
def LemmaWitnessedUptoSaid : Prop := lemmaWitnessedUptoRow.holds Tryz.pinned (OpenSpec.upto lemmaWitnessedSpec)

end Rows
end Go.Proofs.YtdigpkmbcojpoaaGreat
