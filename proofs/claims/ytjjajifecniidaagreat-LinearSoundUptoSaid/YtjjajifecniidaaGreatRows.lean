/-
  NARROWER THAN 'FOR EVERY INPUT', by the rows' own cells (each row's printed sentence says how): LinearSteps: loops · LinearRefutes: loops · LinearSound: loops.
  DERIVED. THE GIVEN ROWS OF THIS SEAT. 3 by the template 'for every input the law returns true; each argument reads behind the call as it read before'; 0 by the template 'total and deterministic' (their statements: YtjjajifecniidaaGreatTotals.lean).
  GIVEN WITH THE SEED: the statements are not yours to turn. If you find one false, say at which input.
  Laid BY PROGRAM, IN A SANDBOX (cutbox-rows.mjs): the forced cells as the released guide's own fill.sh prints them over the translation 939b2efcc37d0a69… (all of the seat's roots in one cut). By AI agents, Wed Nov 11 2026. No macro, syntax, notation, axiom, sorry.
-/
import Derived.Test.YtjjajifecniidaaGreatChecked
import GoSem.Claim
import GoSem.ClaimJoined
import GoSem.ClaimMapViews
import Derived.JoinedTies
import Derived.KernelRfl
namespace Go.Proofs.YtjjajifecniidaaGreat
/- THE CELL 'sum', in the pinned program and in every row, IS THE sha256 OF THE DUMP (.gsa) THAT YtjjajifecniidaaGreatProg.lean LOADS. Nothing in Lean hashes anything: it is a label: what it is worth is what the hold of that sum in a sandbox is worth. -/
noncomputable def Tryz.pinned : Pinned := { name := "ytjjajifecniidaagreat", sum := "939b2efcc37d0a69ac026eda7fb9ca28827a1afa413b06fa0b5b6045b0378ddb", checked := Tryz.checked }
namespace Rows
def none {H : Type} : Left H := { results := [], args := [] }

/-- 'quantalelaw04.LinearSteps': WHATEVER THE INPUT: true; the input reads as it did. -/
def linearStepsSpec : ChangeSpec := { name := "linearSteps", fn := fun _ => fun
  | [d1, d2] => { results := [.lit (.bool true)], args := [d1, d2] }
  | _ => none }
def linearStepsRow : OpenClaim := { program := "ytjjajifecniidaagreat", sum := "939b2efcc37d0a69ac026eda7fb9ca28827a1afa413b06fa0b5b6045b0378ddb", func := "quantale/quantalelaw04.LinearSteps", spec := "linearSteps", inPlace := ["internal/bytealg.abigen_runtime_cmpstring", "math/bits.Add64", "slices.overlaps[quantale/api.Node]", "slices.overlaps[quantale/linear.sum]"], unfollowed := true, recurses := true, loops := true, apart := false }
def LinearStepsSaid : Prop := linearStepsRow.holds Tryz.pinned (OpenSpec.ofChange linearStepsSpec)

/-- ITS FALSE NEIGHBOUR: 'it returns false'. Refute it at one input. -/
def linearStepsWrong : ChangeSpec := { name := "linearSteps", fn := fun _ => fun
  | [d1, d2] => { results := [.lit (.bool false)], args := [d1, d2] }
  | _ => none }
def LinearStepsWrongFalsely : Prop := linearStepsRow.holds Tryz.pinned (OpenSpec.ofChange linearStepsWrong)

/-- 'quantalelaw04.LinearRefutes': WHATEVER THE INPUT: true; the input reads as it did. -/
def linearRefutesSpec : ChangeSpec := { name := "linearRefutes", fn := fun _ => fun
  | [d1, d2] => { results := [.lit (.bool true)], args := [d1, d2] }
  | _ => none }
def linearRefutesRow : OpenClaim := { program := "ytjjajifecniidaagreat", sum := "939b2efcc37d0a69ac026eda7fb9ca28827a1afa413b06fa0b5b6045b0378ddb", func := "quantale/quantalelaw04.LinearRefutes", spec := "linearRefutes", inPlace := ["internal/bytealg.abigen_runtime_cmpstring", "math/bits.Add64", "slices.overlaps[quantale/api.Node]", "slices.overlaps[quantale/linear.sum]"], unfollowed := true, recurses := true, loops := true, apart := false }
def LinearRefutesSaid : Prop := linearRefutesRow.holds Tryz.pinned (OpenSpec.ofChange linearRefutesSpec)

/-- ITS FALSE NEIGHBOUR: 'it returns false'. Refute it at one input. -/
def linearRefutesWrong : ChangeSpec := { name := "linearRefutes", fn := fun _ => fun
  | [d1, d2] => { results := [.lit (.bool false)], args := [d1, d2] }
  | _ => none }
def LinearRefutesWrongFalsely : Prop := linearRefutesRow.holds Tryz.pinned (OpenSpec.ofChange linearRefutesWrong)

/-- 'quantalelaw04.LinearSound': WHATEVER THE INPUT: true; the input reads as it did. -/
def linearSoundSpec : ChangeSpec := { name := "linearSound", fn := fun _ => fun
  | [d1, d2, d3] => { results := [.lit (.bool true)], args := [d1, d2, d3] }
  | _ => none }
def linearSoundRow : OpenClaim := { program := "ytjjajifecniidaagreat", sum := "939b2efcc37d0a69ac026eda7fb9ca28827a1afa413b06fa0b5b6045b0378ddb", func := "quantale/quantalelaw04.LinearSound", spec := "linearSound", inPlace := ["internal/bytealg.abigen_runtime_cmpstring", "math/bits.Add64", "slices.overlaps[quantale/api.Node]", "slices.overlaps[quantale/linear.sum]"], unfollowed := true, recurses := true, loops := true, apart := false }
def LinearSoundSaid : Prop := linearSoundRow.holds Tryz.pinned (OpenSpec.ofChange linearSoundSpec)

/-- ITS FALSE NEIGHBOUR: 'it returns false'. Refute it at one input. -/
def linearSoundWrong : ChangeSpec := { name := "linearSound", fn := fun _ => fun
  | [d1, d2, d3] => { results := [.lit (.bool false)], args := [d1, d2, d3] }
  | _ => none }
def LinearSoundWrongFalsely : Prop := linearSoundRow.holds Tryz.pinned (OpenSpec.ofChange linearSoundWrong)

/- THE SECOND FORM. 'bulk': how many values and letters a reading holds, each counted each time it is reached (what is shared counts as often as it is met; a slice's spare places count too). A statement '..UptoSaid' is the law's where the arguments, and the package variables that the reading takes, are together of bulk at most 1048576: NARROWER than '..Said'. Prove '..Said' where nothing that the law and all that it calls make is longer than what came in: it says more and counts as full. Else prove '..UptoSaid'. A law counts once. -/
mutual
def uptoBulk {H : Type} : DataW H → Nat
  | .lit (.string bytes) => bytes.length + 1
  | .lit _ => 1
  | .nil => 1
  | .ptr d => uptoBulk d + 1
  | .slice elems spare => uptoBulkAll elems + uptoBulkAll spare + 1
  | .agg parts => uptoBulkAll parts + 1
  | .iface _ d => uptoBulk d + 1
  | .map entries => uptoBulkEntries entries + 1
  | .held _ => 1
def uptoBulkAll {H : Type} : List (DataW H) → Nat
  | [] => 0
  | d :: r => uptoBulk d + uptoBulkAll r
def uptoBulkEntries {H : Type} : List (Lit × DataW H) → Nat
  | [] => 0
  | x :: r => uptoBulkEntry x + uptoBulkEntries r
def uptoBulkEntry {H : Type} : Lit × DataW H → Nat
  | (.string bytes, d) => bytes.length + uptoBulk d + 1
  | (_, d) => uptoBulk d + 1
 end
def uptoSmall : (H : Type) → List (DataW H) → Bool := fun _ ds => decide (uptoBulkAll ds ≤ 1048576)
def OpenSpec.upto (s : _root_.Go.ChangeSpec) : _root_.Go.OpenSpec := { _root_.Go.OpenSpec.ofChange s with cond := some uptoSmall }

/-- 'quantalelaw04.LinearSteps', WHERE WHAT IT READS IS OF BULK AT MOST 1048576: true; the input reads as it did. -/
def linearStepsUptoRow : OpenClaim := { program := "ytjjajifecniidaagreat", sum := "939b2efcc37d0a69ac026eda7fb9ca28827a1afa413b06fa0b5b6045b0378ddb", func := "quantale/quantalelaw04.LinearSteps", spec := "linearSteps", inPlace := ["internal/bytealg.abigen_runtime_cmpstring", "math/bits.Add64", "slices.overlaps[quantale/api.Node]", "slices.overlaps[quantale/linear.sum]"], unfollowed := true, recurses := true, loops := true, apart := false, narrowed := true }
def LinearStepsUptoSaid : Prop := linearStepsUptoRow.holds Tryz.pinned (OpenSpec.upto linearStepsSpec)

/-- 'quantalelaw04.LinearRefutes', WHERE WHAT IT READS IS OF BULK AT MOST 1048576: true; the input reads as it did. -/
def linearRefutesUptoRow : OpenClaim := { program := "ytjjajifecniidaagreat", sum := "939b2efcc37d0a69ac026eda7fb9ca28827a1afa413b06fa0b5b6045b0378ddb", func := "quantale/quantalelaw04.LinearRefutes", spec := "linearRefutes", inPlace := ["internal/bytealg.abigen_runtime_cmpstring", "math/bits.Add64", "slices.overlaps[quantale/api.Node]", "slices.overlaps[quantale/linear.sum]"], unfollowed := true, recurses := true, loops := true, apart := false, narrowed := true }
def LinearRefutesUptoSaid : Prop := linearRefutesUptoRow.holds Tryz.pinned (OpenSpec.upto linearRefutesSpec)

/-- 'quantalelaw04.LinearSound', WHERE WHAT IT READS IS OF BULK AT MOST 1048576: true; the input reads as it did. -/
def linearSoundUptoRow : OpenClaim := { program := "ytjjajifecniidaagreat", sum := "939b2efcc37d0a69ac026eda7fb9ca28827a1afa413b06fa0b5b6045b0378ddb", func := "quantale/quantalelaw04.LinearSound", spec := "linearSound", inPlace := ["internal/bytealg.abigen_runtime_cmpstring", "math/bits.Add64", "slices.overlaps[quantale/api.Node]", "slices.overlaps[quantale/linear.sum]"], unfollowed := true, recurses := true, loops := true, apart := false, narrowed := true }
def LinearSoundUptoSaid : Prop := linearSoundUptoRow.holds Tryz.pinned (OpenSpec.upto linearSoundSpec)

end Rows
end Go.Proofs.YtjjajifecniidaaGreat
