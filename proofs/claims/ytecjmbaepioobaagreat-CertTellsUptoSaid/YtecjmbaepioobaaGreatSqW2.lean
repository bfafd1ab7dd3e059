import Derived.Test.YtecjmbaepioobaaGreatSqPre2
import Derived.Lib.Bytealg
set_option linter.unusedSimpArgs false
set_option linter.unusedVariables false
namespace Go.Abs.Try
open Go.RowKit
set_option maxRecDepth 100000
def walkO (n : Node) : Option (List Node) := iteO (decide (n.size < 4611686018427387904)) (some (nodes n)) none
def a46 (x : Node) : List AV := [.agg (Node.cells x)]
theorem i46 (x y : Node) (h : nzs (a46 x) = nzs (a46 y)) : x = y := by
 simp only [nzs, a46, List.map_cons, List.map_nil, nzV_agg, List.cons.injEq, AV.agg.injEq, true_and, and_true, Node.nz_iff] at h
 exact h
theorem w46 (x : Node) : wks (a46 x) = true := by
 simp only [wks, a46, wkV, wkL, Node.wk, List.all_cons, List.all_nil, Bool.and_self, Bool.and_true]
noncomputable def t46 : List AV → Option AV := TL a46 fun n => some (.fn 73 [.cref (Node.cells n)])
theorem k46 : TOk Proofs.Tryz.prog 46 t46 := TL_ok w46 fun n v h => by injection h with h; subst h; exact c46 n
@[push_cast] theorem t46_1 (z1 : Int) (z2 : Int) (z3 : ByteArray) (z4 : Int) (z5 : List Node) : t46 [.agg [.int .i64 z1, .int .i64 z2, .str z3, .int .i64 z4, .sl false 5 (List.map Node.cells z5)]] = some (.fn 73 [.cref [.int .i64 z1, .int .i64 z2, .str z3, .int .i64 z4, .sl false 5 (List.map Node.cells z5)]]) :=
 (TL_hit i46 (⟨z1, z2, z3, z4, z5⟩ : Node) (by simp only [a46, push_cast])).trans (by simp only [push_cast])
def e73 (k : Node) : List AV := [.agg (Node.cells k)]
@[push_cast] theorem e136_eq (k : Node) : e73 k = [.agg (Node.cells k)] := rfl
def c73 (x : Node) : List AV := [.cref (Node.cells x)]
theorem i73 (x y : Node) (h : nzs (c73 x) = nzs (c73 y)) : x = y := by
 simp only [nzs, c73, List.map_cons, List.map_nil, nzV_cref, List.cons.injEq, AV.cref.injEq, true_and, and_true, Node.nz_iff] at h
 exact h
theorem w73 (x : Node) : wks (c73 x) = true := by
 simp only [wks, c73, wkV, wkL, Node.wk, List.all_cons, List.all_nil, Bool.and_self, Bool.and_true]
noncomputable def sq73 : List AV → Option (List (List AV)) := SQ c73 fun n => bindO (walkO n) fun l => some (List.map e73 l)
@[push_cast] theorem sq73_1 (z1 : Int) (z2 : Int) (z3 : ByteArray) (z4 : Int) (z5 : List Node) : sq73 [.cref [.int .i64 z1, .int .i64 z2, .str z3, .int .i64 z4, .sl false 5 (List.map Node.cells z5)]] = bindO (walkO ⟨z1, z2, z3, z4, z5⟩) fun l => some (List.map e73 l) :=
 SQ_hit i73 (⟨z1, z2, z3, z4, z5⟩ : Node) (by simp only [c73, push_cast])
noncomputable def se73 : SE Proofs.Tryz.prog := ⟨73, sq73, SQ_ok w73 fun n xs h => by
 obtain ⟨l, hl, h1⟩ := bindO_eq h
 obtain ⟨hn, hl⟩ := iteO_none hl
 injection hl with hl
 subst hl
 injection h1 with h1
 subst h1
 have hp : List.map e73 (nodes n) = pre n := (pre_nodes n).symm
 rw [hp]
 exact seq73 n (of_decide_eq_true hn)⟩
end Go.Abs.Try
