import Derived.Test.YtjealnlacmfbiaaSqPre2
import Derived.Lib.Bytealg
set_option linter.unusedSimpArgs false
set_option linter.unusedVariables false
namespace Go.Abs.Try
open Go.RowKit
set_option maxRecDepth 100000
def walkO (n : Node) : Option (List Node) := iteO (decide (n.size < 4611686018427387904)) (some (nodes n)) none
def a16 (x : Node) : List AV := [.agg (Node.cells x)]
theorem i16 (x y : Node) (h : nzs (a16 x) = nzs (a16 y)) : x = y := by
 simp only [nzs, a16, List.map_cons, List.map_nil, nzV_agg, List.cons.injEq, AV.agg.injEq, true_and, and_true, Node.nz_iff] at h
 exact h
theorem w16 (x : Node) : wks (a16 x) = true := by
 simp only [wks, a16, wkV, wkL, Node.wk, List.all_cons, List.all_nil, Bool.and_self, Bool.and_true]
noncomputable def t16 : List AV → Option AV := TL a16 fun n => some (.fn 38 [.cref (Node.cells n)])
theorem k16 : TOk Proofs.Try.prog 16 t16 := TL_ok w16 fun n v h => by injection h with h; subst h; exact c16 n
@[push_cast] theorem t16_1 (z1 : Int) (z2 : Int) (z3 : ByteArray) (z4 : Int) (z5 : List Node) : t16 [.agg [.int .i64 z1, .int .i64 z2, .str z3, .int .i64 z4, .sl false 5 (List.map Node.cells z5)]] = some (.fn 38 [.cref [.int .i64 z1, .int .i64 z2, .str z3, .int .i64 z4, .sl false 5 (List.map Node.cells z5)]]) :=
 (TL_hit i16 (⟨z1, z2, z3, z4, z5⟩ : Node) (by simp only [a16, push_cast])).trans (by simp only [push_cast])
def e38 (k : Node) : List AV := [.agg (Node.cells k)]
@[push_cast] theorem e136_eq (k : Node) : e38 k = [.agg (Node.cells k)] := rfl
def c38 (x : Node) : List AV := [.cref (Node.cells x)]
theorem i38 (x y : Node) (h : nzs (c38 x) = nzs (c38 y)) : x = y := by
 simp only [nzs, c38, List.map_cons, List.map_nil, nzV_cref, List.cons.injEq, AV.cref.injEq, true_and, and_true, Node.nz_iff] at h
 exact h
theorem w38 (x : Node) : wks (c38 x) = true := by
 simp only [wks, c38, wkV, wkL, Node.wk, List.all_cons, List.all_nil, Bool.and_self, Bool.and_true]
noncomputable def sq38 : List AV → Option (List (List AV)) := SQ c38 fun n => bindO (walkO n) fun l => some (List.map e38 l)
@[push_cast] theorem sq38_1 (z1 : Int) (z2 : Int) (z3 : ByteArray) (z4 : Int) (z5 : List Node) : sq38 [.cref [.int .i64 z1, .int .i64 z2, .str z3, .int .i64 z4, .sl false 5 (List.map Node.cells z5)]] = bindO (walkO ⟨z1, z2, z3, z4, z5⟩) fun l => some (List.map e38 l) :=
 SQ_hit i38 (⟨z1, z2, z3, z4, z5⟩ : Node) (by simp only [c38, push_cast])
noncomputable def se38 : SE Proofs.Try.prog := ⟨38, sq38, SQ_ok w38 fun n xs h => by
 obtain ⟨l, hl, h1⟩ := bindO_eq h
 obtain ⟨hn, hl⟩ := iteO_none hl
 injection hl with hl
 subst hl
 injection h1 with h1
 subst h1
 have hp : List.map e38 (nodes n) = pre n := (pre_nodes n).symm
 rw [hp]
 exact seq38 n (of_decide_eq_true hn)⟩
end Go.Abs.Try
