/-
  NARROWER THAN 'FOR EVERY INPUT', by the rows' own cells (each row's printed sentence says how): LogicChecks: loops · LogicOrders: loops · LogicSubsts: loops · LinearValues: loops · LinearAdds: loops · LogicTells: loops · LogicResolves: loops · LinearRounds: loops · LinearOf: loops.
  DERIVED. THE GIVEN ROWS OF THIS SEAT. 9 by the template 'for every input the law returns true; each argument reads behind the call as it read before'; 0 by the template 'total and deterministic' (their statements: YtjjajifecniidaaTotals.lean).
  GIVEN WITH THE SEED: the statements are not yours to turn. If you find one false, say at which input.
  Laid BY PROGRAM, IN A SANDBOX (cutbox-rows.mjs): the forced cells as the released guide's own fill.sh prints them over the translation fb6cde766c2b9181… (all of the seat's roots in one cut). By AI agents, Wed Nov 11 2026. No macro, syntax, notation, axiom, sorry.
-/
import Derived.Test.YtjjajifecniidaaChecked
import GoSem.Claim
import GoSem.ClaimJoined
import GoSem.ClaimMapViews
import Derived.JoinedTies
import Derived.KernelRfl
namespace Go.Proofs.Ytjjajifecniidaa
/- THE CELL 'sum', in the pinned program and in every row, IS THE sha256 OF THE DUMP (.gsa) THAT YtjjajifecniidaaProg.lean LOADS. Nothing in Lean hashes anything: it is a label: what it is worth is what the hold of that sum in a sandbox is worth. -/
noncomputable def Try.pinned : Pinned := { name := "ytjjajifecniidaa", sum := "fb6cde766c2b91814f2a799e2035080c88aaf96ef8d8b07c295bf92f794ca5dc", checked := Try.checked }
namespace Rows
def none {H : Type} : Left H := { results := [], args := [] }

/-- 'quantalelaw01.LogicChecks': WHATEVER THE INPUT: true; the input reads as it did. -/
def logicChecksSpec : ChangeSpec := { name := "logicChecks", fn := fun _ => fun
  | [d1, d2, d3] => { results := [.lit (.bool true)], args := [d1, d2, d3] }
  | _ => none }
def logicChecksRow : OpenClaim := { program := "ytjjajifecniidaa", sum := "fb6cde766c2b91814f2a799e2035080c88aaf96ef8d8b07c295bf92f794ca5dc", func := "quantale/quantalelaw01.LogicChecks", spec := "logicChecks", inPlace := ["slices.overlaps[quantale/api.Decl]", "internal/bytealg.abigen_runtime_cmpstring"], unfollowed := true, recurses := true, loops := true, apart := false }
def LogicChecksSaid : Prop := logicChecksRow.holds Try.pinned (OpenSpec.ofChange logicChecksSpec)

/-- ITS FALSE NEIGHBOUR: 'it returns false'. Refute it at one input. -/
def logicChecksWrong : ChangeSpec := { name := "logicChecks", fn := fun _ => fun
  | [d1, d2, d3] => { results := [.lit (.bool false)], args := [d1, d2, d3] }
  | _ => none }
def LogicChecksWrongFalsely : Prop := logicChecksRow.holds Try.pinned (OpenSpec.ofChange logicChecksWrong)

/-- 'quantalelaw01.LogicOrders': WHATEVER THE INPUT: true; the input reads as it did. -/
def logicOrdersSpec : ChangeSpec := { name := "logicOrders", fn := fun _ => fun
  | [d1, d2, d3] => { results := [.lit (.bool true)], args := [d1, d2, d3] }
  | _ => none }
def logicOrdersRow : OpenClaim := { program := "ytjjajifecniidaa", sum := "fb6cde766c2b91814f2a799e2035080c88aaf96ef8d8b07c295bf92f794ca5dc", func := "quantale/quantalelaw01.LogicOrders", spec := "logicOrders", inPlace := ["slices.overlaps[quantale/api.Decl]", "internal/bytealg.abigen_runtime_cmpstring"], unfollowed := true, recurses := true, loops := true, apart := false }
def LogicOrdersSaid : Prop := logicOrdersRow.holds Try.pinned (OpenSpec.ofChange logicOrdersSpec)

/-- ITS FALSE NEIGHBOUR: 'it returns false'. Refute it at one input. -/
def logicOrdersWrong : ChangeSpec := { name := "logicOrders", fn := fun _ => fun
  | [d1, d2, d3] => { results := [.lit (.bool false)], args := [d1, d2, d3] }
  | _ => none }
def LogicOrdersWrongFalsely : Prop := logicOrdersRow.holds Try.pinned (OpenSpec.ofChange logicOrdersWrong)

/-- 'quantalelaw01.LogicSubsts': WHATEVER THE INPUT: true; the input reads as it did. -/
def logicSubstsSpec : ChangeSpec := { name := "logicSubsts", fn := fun _ => fun
  | [d1, d2, d3] => { results := [.lit (.bool true)], args := [d1, d2, d3] }
  | _ => none }
def logicSubstsRow : OpenClaim := { program := "ytjjajifecniidaa", sum := "fb6cde766c2b91814f2a799e2035080c88aaf96ef8d8b07c295bf92f794ca5dc", func := "quantale/quantalelaw01.LogicSubsts", spec := "logicSubsts", inPlace := ["slices.overlaps[quantale/api.Decl]", "internal/bytealg.abigen_runtime_cmpstring"], unfollowed := true, recurses := true, loops := true, apart := false }
def LogicSubstsSaid : Prop := logicSubstsRow.holds Try.pinned (OpenSpec.ofChange logicSubstsSpec)

/-- ITS FALSE NEIGHBOUR: 'it returns false'. Refute it at one input. -/
def logicSubstsWrong : ChangeSpec := { name := "logicSubsts", fn := fun _ => fun
  | [d1, d2, d3] => { results := [.lit (.bool false)], args := [d1, d2, d3] }
  | _ => none }
def LogicSubstsWrongFalsely : Prop := logicSubstsRow.holds Try.pinned (OpenSpec.ofChange logicSubstsWrong)

/-- 'quantalelaw04.LinearValues': WHATEVER THE INPUT: true; the input reads as it did. -/
def linearValuesSpec : ChangeSpec := { name := "linearValues", fn := fun _ => fun
  | [d1, d2] => { results := [.lit (.bool true)], args := [d1, d2] }
  | _ => none }
def linearValuesRow : OpenClaim := { program := "ytjjajifecniidaa", sum := "fb6cde766c2b91814f2a799e2035080c88aaf96ef8d8b07c295bf92f794ca5dc", func := "quantale/quantalelaw04.LinearValues", spec := "linearValues", inPlace := ["internal/bytealg.abigen_runtime_cmpstring", "math/bits.Add64"], unfollowed := true, recurses := true, loops := true, apart := false }
def LinearValuesSaid : Prop := linearValuesRow.holds Try.pinned (OpenSpec.ofChange linearValuesSpec)

/-- ITS FALSE NEIGHBOUR: 'it returns false'. Refute it at one input. -/
def linearValuesWrong : ChangeSpec := { name := "linearValues", fn := fun _ => fun
  | [d1, d2] => { results := [.lit (.bool false)], args := [d1, d2] }
  | _ => none }
def LinearValuesWrongFalsely : Prop := linearValuesRow.holds Try.pinned (OpenSpec.ofChange linearValuesWrong)

/-- 'quantalelaw04.LinearAdds': WHATEVER THE INPUT: true; the input reads as it did. -/
def linearAddsSpec : ChangeSpec := { name := "linearAdds", fn := fun _ => fun
  | [d1, d2, d3, d4] => { results := [.lit (.bool true)], args := [d1, d2, d3, d4] }
  | _ => none }
def linearAddsRow : OpenClaim := { program := "ytjjajifecniidaa", sum := "fb6cde766c2b91814f2a799e2035080c88aaf96ef8d8b07c295bf92f794ca5dc", func := "quantale/quantalelaw04.LinearAdds", spec := "linearAdds", inPlace := ["internal/bytealg.abigen_runtime_cmpstring", "math/bits.Add64"], unfollowed := true, recurses := true, loops := true, apart := false }
def LinearAddsSaid : Prop := linearAddsRow.holds Try.pinned (OpenSpec.ofChange linearAddsSpec)

/-- ITS FALSE NEIGHBOUR: 'it returns false'. Refute it at one input. -/
def linearAddsWrong : ChangeSpec := { name := "linearAdds", fn := fun _ => fun
  | [d1, d2, d3, d4] => { results := [.lit (.bool false)], args := [d1, d2, d3, d4] }
  | _ => none }
def LinearAddsWrongFalsely : Prop := linearAddsRow.holds Try.pinned (OpenSpec.ofChange linearAddsWrong)

/-- 'quantalelaw01.LogicTells': WHATEVER THE INPUT: true; the input reads as it did. -/
def logicTellsSpec : ChangeSpec := { name := "logicTells", fn := fun _ => fun
  | [d] => { results := [.lit (.bool true)], args := [d] }
  | _ => none }
def logicTellsRow : OpenClaim := { program := "ytjjajifecniidaa", sum := "fb6cde766c2b91814f2a799e2035080c88aaf96ef8d8b07c295bf92f794ca5dc", func := "quantale/quantalelaw01.LogicTells", spec := "logicTells", inPlace := ["slices.overlaps[quantale/api.Decl]", "internal/bytealg.abigen_runtime_cmpstring", "slices.overlaps[quantale/api.Node]"], unfollowed := true, recurses := true, loops := true, apart := false }
def LogicTellsSaid : Prop := logicTellsRow.holds Try.pinned (OpenSpec.ofChange logicTellsSpec)

/-- ITS FALSE NEIGHBOUR: 'it returns false'. Refute it at one input. -/
def logicTellsWrong : ChangeSpec := { name := "logicTells", fn := fun _ => fun
  | [d] => { results := [.lit (.bool false)], args := [d] }
  | _ => none }
def LogicTellsWrongFalsely : Prop := logicTellsRow.holds Try.pinned (OpenSpec.ofChange logicTellsWrong)

/-- 'quantalelaw01.LogicResolves': WHATEVER THE INPUT: true; the input reads as it did. -/
def logicResolvesSpec : ChangeSpec := { name := "logicResolves", fn := fun _ => fun
  | [d1, d2, d3] => { results := [.lit (.bool true)], args := [d1, d2, d3] }
  | _ => none }
def logicResolvesRow : OpenClaim := { program := "ytjjajifecniidaa", sum := "fb6cde766c2b91814f2a799e2035080c88aaf96ef8d8b07c295bf92f794ca5dc", func := "quantale/quantalelaw01.LogicResolves", spec := "logicResolves", inPlace := ["slices.overlaps[quantale/api.Decl]", "internal/bytealg.abigen_runtime_cmpstring"], unfollowed := true, recurses := true, loops := true, apart := false }
def LogicResolvesSaid : Prop := logicResolvesRow.holds Try.pinned (OpenSpec.ofChange logicResolvesSpec)

/-- ITS FALSE NEIGHBOUR: 'it returns false'. Refute it at one input. -/
def logicResolvesWrong : ChangeSpec := { name := "logicResolves", fn := fun _ => fun
  | [d1, d2, d3] => { results := [.lit (.bool false)], args := [d1, d2, d3] }
  | _ => none }
def LogicResolvesWrongFalsely : Prop := logicResolvesRow.holds Try.pinned (OpenSpec.ofChange logicResolvesWrong)

/-- 'quantalelaw04.LinearRounds': WHATEVER THE INPUT: true; the input reads as it did. -/
def linearRoundsSpec : ChangeSpec := { name := "linearRounds", fn := fun _ => fun
  | [d] => { results := [.lit (.bool true)], args := [d] }
  | _ => none }
def linearRoundsRow : OpenClaim := { program := "ytjjajifecniidaa", sum := "fb6cde766c2b91814f2a799e2035080c88aaf96ef8d8b07c295bf92f794ca5dc", func := "quantale/quantalelaw04.LinearRounds", spec := "linearRounds", inPlace := ["internal/bytealg.abigen_runtime_cmpstring", "math/bits.Add64"], unfollowed := true, recurses := true, loops := true, apart := false }
def LinearRoundsSaid : Prop := linearRoundsRow.holds Try.pinned (OpenSpec.ofChange linearRoundsSpec)

/-- ITS FALSE NEIGHBOUR: 'it returns false'. Refute it at one input. -/
def linearRoundsWrong : ChangeSpec := { name := "linearRounds", fn := fun _ => fun
  | [d] => { results := [.lit (.bool false)], args := [d] }
  | _ => none }
def LinearRoundsWrongFalsely : Prop := linearRoundsRow.holds Try.pinned (OpenSpec.ofChange linearRoundsWrong)

/-- 'quantalelaw04.LinearOf': WHATEVER THE INPUT: true; the input reads as it did. -/
def linearOfSpec : ChangeSpec := { name := "linearOf", fn := fun _ => fun
  | [d] => { results := [.lit (.bool true)], args := [d] }
  | _ => none }
def linearOfRow : OpenClaim := { program := "ytjjajifecniidaa", sum := "fb6cde766c2b91814f2a799e2035080c88aaf96ef8d8b07c295bf92f794ca5dc", func := "quantale/quantalelaw04.LinearOf", spec := "linearOf", inPlace := ["internal/bytealg.abigen_runtime_cmpstring", "math/bits.Add64"], unfollowed := true, recurses := true, loops := true, apart := false }
def LinearOfSaid : Prop := linearOfRow.holds Try.pinned (OpenSpec.ofChange linearOfSpec)

/-- ITS FALSE NEIGHBOUR: 'it returns false'. Refute it at one input. -/
def linearOfWrong : ChangeSpec := { name := "linearOf", fn := fun _ => fun
  | [d] => { results := [.lit (.bool false)], args := [d] }
  | _ => none }
def LinearOfWrongFalsely : Prop := linearOfRow.holds Try.pinned (OpenSpec.ofChange linearOfWrong)

/- THE SECOND FORM. 'bulk': how many values and letters a reading holds, each counted each time it is reached (what is shared counts as often as it is met; a slice's spare places count too). A statement '..UptoSaid' is the law's where the arguments, and the package variables that the reading takes, are together of bulk at most 1048576: NARROWER than '..Said'. Prove '..Said' where nothing that the law and all that it calls make is longer than what came in: it says more and counts as full. Else prove '..UptoSaid'. A law counts once. -/
mutual
def uptoBulk {H : Type} : DataW H → Nat
  | .lit (.string bytes) => bytes.length + 1
  | .lit _ => 1
  | .nil => 1
  | .ptr d => uptoBulk d + 1
  | .slice elems spare => uptoBulkAll elems + uptoBulkAll spare + 1
  | .agg parts => uptoBulkAll parts + 1
  | .iface _ d => uptoBulk d + 1
  | .map entries => uptoBulkEntries entries + 1
  | .held _ => 1
def uptoBulkAll {H : Type} : List (DataW H) → Nat
  | [] => 0
  | d :: r => uptoBulk d + uptoBulkAll r
def uptoBulkEntries {H : Type} : List (Lit × DataW H) → Nat
  | [] => 0
  | x :: r => uptoBulkEntry x + uptoBulkEntries r
def uptoBulkEntry {H : Type} : Lit × DataW H → Nat
  | (.string bytes, d) => bytes.length + uptoBulk d + 1
  | (_, d) => uptoBulk d + 1
 end
def uptoSmall : (H : Type) → List (DataW H) → Bool := fun _ ds => decide (uptoBulkAll ds ≤ 1048576)
def OpenSpec.upto (s : _root_.Go.ChangeSpec) : _root_.Go.OpenSpec := { _root_.Go.OpenSpec.ofChange s with cond := some uptoSmall }

/-- 'quantalelaw01.LogicChecks', WHERE WHAT IT READS IS OF BULK AT MOST 1048576: true; the input reads as it did. -/
def logicChecksUptoRow : OpenClaim := { program := "ytjjajifecniidaa", sum := "fb6cde766c2b91814f2a799e2035080c88aaf96ef8d8b07c295bf92f794ca5dc", func := "quantale/quantalelaw01.LogicChecks", spec := "logicChecks", inPlace := ["slices.overlaps[quantale/api.Decl]", "internal/bytealg.abigen_runtime_cmpstring"], unfollowed := true, recurses := true, loops := true, apart := false, narrowed := true }
def LogicChecksUptoSaid : Prop := logicChecksUptoRow.holds Try.pinned (OpenSpec.upto logicChecksSpec)

/-- 'quantalelaw01.LogicOrders', WHERE WHAT IT READS IS OF BULK AT MOST 1048576: true; the input reads as it did. -/
def logicOrdersUptoRow : OpenClaim := { program := "ytjjajifecniidaa", sum := "fb6cde766c2b91814f2a799e2035080c88aaf96ef8d8b07c295bf92f794ca5dc", func := "quantale/quantalelaw01.LogicOrders", spec := "logicOrders", inPlace := ["slices.overlaps[quantale/api.Decl]", "internal/bytealg.abigen_runtime_cmpstring"], unfollowed := true, recurses := true, loops := true, apart := false, narrowed := true }
def LogicOrdersUptoSaid : Prop := logicOrdersUptoRow.holds Try.pinned (OpenSpec.upto logicOrdersSpec)

/-- 'quantalelaw01.LogicSubsts', WHERE WHAT IT READS IS OF BULK AT MOST 1048576: true; the input reads as it did. -/
def logicSubstsUptoRow : OpenClaim := { program := "ytjjajifecniidaa", sum := "fb6cde766c2b91814f2a799e2035080c88aaf96ef8d8b07c295bf92f794ca5dc", func := "quantale/quantalelaw01.LogicSubsts", spec := "logicSubsts", inPlace := ["slices.overlaps[quantale/api.Decl]", "internal/bytealg.abigen_runtime_cmpstring"], unfollowed := true, recurses := true, loops := true, apart := false, narrowed := true }
def LogicSubstsUptoSaid : Prop := logicSubstsUptoRow.holds Try.pinned (OpenSpec.upto logicSubstsSpec)

/-- 'quantalelaw04.LinearValues', WHERE WHAT IT READS IS OF BULK AT MOST 1048576: true; the input reads as it did. -/
def linearValuesUptoRow : OpenClaim := { program := "ytjjajifecniidaa", sum := "fb6cde766c2b91814f2a799e2035080c88aaf96ef8d8b07c295bf92f794ca5dc", func := "quantale/quantalelaw04.LinearValues", spec := "linearValues", inPlace := ["internal/bytealg.abigen_runtime_cmpstring", "math/bits.Add64"], unfollowed := true, recurses := true, loops := true, apart := false, narrowed := true }
def LinearValuesUptoSaid : Prop := linearValuesUptoRow.holds Try.pinned (OpenSpec.upto linearValuesSpec)

/-- 'quantalelaw04.LinearAdds', WHERE WHAT IT READS IS OF BULK AT MOST 1048576: true; the input reads as it did. -/
def linearAddsUptoRow : OpenClaim := { program := "ytjjajifecniidaa", sum := "fb6cde766c2b91814f2a799e2035080c88aaf96ef8d8b07c295bf92f794ca5dc", func := "quantale/quantalelaw04.LinearAdds", spec := "linearAdds", inPlace := ["internal/bytealg.abigen_runtime_cmpstring", "math/bits.Add64"], unfollowed := true, recurses := true, loops := true, apart := false, narrowed := true }
def LinearAddsUptoSaid : Prop := linearAddsUptoRow.holds Try.pinned (OpenSpec.upto linearAddsSpec)

/-- 'quantalelaw01.LogicTells', WHERE WHAT IT READS IS OF BULK AT MOST 1048576: true; the input reads as it did. -/
def logicTellsUptoRow : OpenClaim := { program := "ytjjajifecniidaa", sum := "fb6cde766c2b91814f2a799e2035080c88aaf96ef8d8b07c295bf92f794ca5dc", func := "quantale/quantalelaw01.LogicTells", spec := "logicTells", inPlace := ["slices.overlaps[quantale/api.Decl]", "internal/bytealg.abigen_runtime_cmpstring", "slices.overlaps[quantale/api.Node]"], unfollowed := true, recurses := true, loops := true, apart := false, narrowed := true }
def LogicTellsUptoSaid : Prop := logicTellsUptoRow.holds Try.pinned (OpenSpec.upto logicTellsSpec)

/-- 'quantalelaw01.LogicResolves', WHERE WHAT IT READS IS OF BULK AT MOST 1048576: true; the input reads as it did. -/
def logicResolvesUptoRow : OpenClaim := { program := "ytjjajifecniidaa", sum := "fb6cde766c2b91814f2a799e2035080c88aaf96ef8d8b07c295bf92f794ca5dc", func := "quantale/quantalelaw01.LogicResolves", spec := "logicResolves", inPlace := ["slices.overlaps[quantale/api.Decl]", "internal/bytealg.abigen_runtime_cmpstring"], unfollowed := true, recurses := true, loops := true, apart := false, narrowed := true }
def LogicResolvesUptoSaid : Prop := logicResolvesUptoRow.holds Try.pinned (OpenSpec.upto logicResolvesSpec)

/-- 'quantalelaw04.LinearRounds', WHERE WHAT IT READS IS OF BULK AT MOST 1048576: true; the input reads as it did. -/
def linearRoundsUptoRow : OpenClaim := { program := "ytjjajifecniidaa", sum := "fb6cde766c2b91814f2a799e2035080c88aaf96ef8d8b07c295bf92f794ca5dc", func := "quantale/quantalelaw04.LinearRounds", spec := "linearRounds", inPlace := ["internal/bytealg.abigen_runtime_cmpstring", "math/bits.Add64"], unfollowed := true, recurses := true, loops := true, apart := false, narrowed := true }
def LinearRoundsUptoSaid : Prop := linearRoundsUptoRow.holds Try.pinned (OpenSpec.upto linearRoundsSpec)

/-- 'quantalelaw04.LinearOf', WHERE WHAT IT READS IS OF BULK AT MOST 1048576: true; the input reads as it did. -/
def linearOfUptoRow : OpenClaim := { program := "ytjjajifecniidaa", sum := "fb6cde766c2b91814f2a799e2035080c88aaf96ef8d8b07c295bf92f794ca5dc", func := "quantale/quantalelaw04.LinearOf", spec := "linearOf", inPlace := ["internal/bytealg.abigen_runtime_cmpstring", "math/bits.Add64"], unfollowed := true, recurses := true, loops := true, apart := false, narrowed := true }
def LinearOfUptoSaid : Prop := linearOfUptoRow.holds Try.pinned (OpenSpec.upto linearOfSpec)

end Rows
end Go.Proofs.Ytjjajifecniidaa
