import Derived.Test.YthgibjeclmkbpaaSqPre2
import Derived.Lib.Bytealg
set_option linter.unusedSimpArgs false
set_option linter.unusedVariables false
namespace Go.Abs.Try
open Go.RowKit
set_option maxRecDepth 100000
def walkO (n : Node) : Option (List Node) := iteO (decide (n.size < 4611686018427387904)) (some (nodes n)) none
def a23 (x : Node) : List AV := [.agg (Node.cells x)]
theorem i23 (x y : Node) (h : nzs (a23 x) = nzs (a23 y)) : x = y := by
 simp only [nzs, a23, List.map_cons, List.map_nil, nzV_agg, List.cons.injEq, AV.agg.injEq, true_and, and_true, Node.nz_iff] at h
 exact h
theorem w23 (x : Node) : wks (a23 x) = true := by
 simp only [wks, a23, wkV, wkL, Node.wk, List.all_cons, List.all_nil, Bool.and_self, Bool.and_true]
noncomputable def t23 : List AV → Option AV := TL a23 fun n => some (.fn 39 [.cref (Node.cells n)])
theorem k23 : TOk Proofs.Try.prog 23 t23 := TL_ok w23 fun n v h => by injection h with h; subst h; exact c23 n
@[push_cast] theorem t23_1 (z1 : Int) (z2 : Int) (z3 : ByteArray) (z4 : Int) (z5 : List Node) : t23 [.agg [.int .i64 z1, .int .i64 z2, .str z3, .int .i64 z4, .sl false 5 (List.map Node.cells z5)]] = some (.fn 39 [.cref [.int .i64 z1, .int .i64 z2, .str z3, .int .i64 z4, .sl false 5 (List.map Node.cells z5)]]) :=
 (TL_hit i23 (⟨z1, z2, z3, z4, z5⟩ : Node) (by simp only [a23, push_cast])).trans (by simp only [push_cast])
def e39 (k : Node) : List AV := [.agg (Node.cells k)]
@[push_cast] theorem e136_eq (k : Node) : e39 k = [.agg (Node.cells k)] := rfl
def c39 (x : Node) : List AV := [.cref (Node.cells x)]
theorem i39 (x y : Node) (h : nzs (c39 x) = nzs (c39 y)) : x = y := by
 simp only [nzs, c39, List.map_cons, List.map_nil, nzV_cref, List.cons.injEq, AV.cref.injEq, true_and, and_true, Node.nz_iff] at h
 exact h
theorem w39 (x : Node) : wks (c39 x) = true := by
 simp only [wks, c39, wkV, wkL, Node.wk, List.all_cons, List.all_nil, Bool.and_self, Bool.and_true]
noncomputable def sq39 : List AV → Option (List (List AV)) := SQ c39 fun n => bindO (walkO n) fun l => some (List.map e39 l)
@[push_cast] theorem sq39_1 (z1 : Int) (z2 : Int) (z3 : ByteArray) (z4 : Int) (z5 : List Node) : sq39 [.cref [.int .i64 z1, .int .i64 z2, .str z3, .int .i64 z4, .sl false 5 (List.map Node.cells z5)]] = bindO (walkO ⟨z1, z2, z3, z4, z5⟩) fun l => some (List.map e39 l) :=
 SQ_hit i39 (⟨z1, z2, z3, z4, z5⟩ : Node) (by simp only [c39, push_cast])
noncomputable def se39 : SE Proofs.Try.prog := ⟨39, sq39, SQ_ok w39 fun n xs h => by
 obtain ⟨l, hl, h1⟩ := bindO_eq h
 obtain ⟨hn, hl⟩ := iteO_none hl
 injection hl with hl
 subst hl
 injection h1 with h1
 subst h1
 have hp : List.map e39 (nodes n) = pre n := (pre_nodes n).symm
 rw [hp]
 exact seq39 n (of_decide_eq_true hn)⟩
end Go.Abs.Try
