import Derived.Test.YtjjajifecniidaaGreatSqPre2
import Derived.Lib.Bytealg
set_option linter.unusedSimpArgs false
set_option linter.unusedVariables false
namespace Go.Abs.Try
open Go.RowKit
set_option maxRecDepth 100000
def walkO (n : Node) : Option (List Node) := iteO (decide (n.size < 4611686018427387904)) (some (nodes n)) none
def a91 (x : Node) : List AV := [.agg (Node.cells x)]
theorem i91 (x y : Node) (h : nzs (a91 x) = nzs (a91 y)) : x = y := by
 simp only [nzs, a91, List.map_cons, List.map_nil, nzV_agg, List.cons.injEq, AV.agg.injEq, true_and, and_true, Node.nz_iff] at h
 exact h
theorem w91 (x : Node) : wks (a91 x) = true := by
 simp only [wks, a91, wkV, wkL, Node.wk, List.all_cons, List.all_nil, Bool.and_self, Bool.and_true]
noncomputable def t91 : List AV → Option AV := TL a91 fun n => some (.fn 123 [.cref (Node.cells n)])
theorem k91 : TOk Proofs.Tryz.prog 91 t91 := TL_ok w91 fun n v h => by injection h with h; subst h; exact c91 n
@[push_cast] theorem t91_1 (z1 : Int) (z2 : Int) (z3 : ByteArray) (z4 : Int) (z5 : List Node) : t91 [.agg [.int .i64 z1, .int .i64 z2, .str z3, .int .i64 z4, .sl false 5 (List.map Node.cells z5)]] = some (.fn 123 [.cref [.int .i64 z1, .int .i64 z2, .str z3, .int .i64 z4, .sl false 5 (List.map Node.cells z5)]]) :=
 (TL_hit i91 (⟨z1, z2, z3, z4, z5⟩ : Node) (by simp only [a91, push_cast])).trans (by simp only [push_cast])
def e123 (k : Node) : List AV := [.agg (Node.cells k)]
@[push_cast] theorem e136_eq (k : Node) : e123 k = [.agg (Node.cells k)] := rfl
def c123 (x : Node) : List AV := [.cref (Node.cells x)]
theorem i123 (x y : Node) (h : nzs (c123 x) = nzs (c123 y)) : x = y := by
 simp only [nzs, c123, List.map_cons, List.map_nil, nzV_cref, List.cons.injEq, AV.cref.injEq, true_and, and_true, Node.nz_iff] at h
 exact h
theorem w123 (x : Node) : wks (c123 x) = true := by
 simp only [wks, c123, wkV, wkL, Node.wk, List.all_cons, List.all_nil, Bool.and_self, Bool.and_true]
noncomputable def sq123 : List AV → Option (List (List AV)) := SQ c123 fun n => bindO (walkO n) fun l => some (List.map e123 l)
@[push_cast] theorem sq123_1 (z1 : Int) (z2 : Int) (z3 : ByteArray) (z4 : Int) (z5 : List Node) : sq123 [.cref [.int .i64 z1, .int .i64 z2, .str z3, .int .i64 z4, .sl false 5 (List.map Node.cells z5)]] = bindO (walkO ⟨z1, z2, z3, z4, z5⟩) fun l => some (List.map e123 l) :=
 SQ_hit i123 (⟨z1, z2, z3, z4, z5⟩ : Node) (by simp only [c123, push_cast])
noncomputable def se123 : SE Proofs.Tryz.prog := ⟨123, sq123, SQ_ok w123 fun n xs h => by
 obtain ⟨l, hl, h1⟩ := bindO_eq h
 obtain ⟨hn, hl⟩ := iteO_none hl
 injection hl with hl
 subst hl
 injection h1 with h1
 subst h1
 have hp : List.map e123 (nodes n) = pre n := (pre_nodes n).symm
 rw [hp]
 exact seq123 n (of_decide_eq_true hn)⟩
end Go.Abs.Try
