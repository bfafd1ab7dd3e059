import Derived.Test.YthgibjeclmkbpaaGreatSqPre2
import Derived.Lib.Bytealg
set_option linter.unusedSimpArgs false
set_option linter.unusedVariables false
namespace Go.Abs.Try
open Go.RowKit
set_option maxRecDepth 100000
def walkO (n : Node) : Option (List Node) := iteO (decide (n.size < 4611686018427387904)) (some (nodes n)) none
def a70 (x : Node) : List AV := [.agg (Node.cells x)]
theorem i70 (x y : Node) (h : nzs (a70 x) = nzs (a70 y)) : x = y := by
 simp only [nzs,a70,List.map_cons,List.map_nil,nzV_agg,List.cons.injEq,AV.agg.injEq,true_and,and_true,Node.nz_iff] at h
 exact h
theorem w70 (x : Node) : wks (a70 x) = true := by
 simp only [wks,a70,wkV,wkL,Node.wk,List.all_cons,List.all_nil,Bool.and_self,Bool.and_true]
noncomputable def t70 : List AV → Option AV := TL a70 fun n => some (.fn 93 [.cref (Node.cells n)])
theorem k70 : TOk Proofs.Tryz.prog 70 t70 := TL_ok w70 fun n v h => by injection h with h; subst h; exact c70 n
@[push_cast] theorem t70_1 (z1 : Int) (z2 : Int) (z3 : ByteArray) (z4 : Int) (z5 : List Node) : t70 [.agg [.int .i64 z1,.int .i64 z2,.str z3,.int .i64 z4,.sl false 5 (List.map Node.cells z5)]] = some (.fn 93 [.cref [.int .i64 z1,.int .i64 z2,.str z3,.int .i64 z4,.sl false 5 (List.map Node.cells z5)]]) :=
 (TL_hit i70 (⟨z1,z2,z3,z4,z5⟩ : Node) (by simp only [a70,push_cast])).trans (by simp only [push_cast])
def e93 (k : Node) : List AV := [.agg (Node.cells k)]
@[push_cast] theorem e136_eq (k : Node) : e93 k = [.agg (Node.cells k)] := rfl
def c93 (x : Node) : List AV := [.cref (Node.cells x)]
theorem i93 (x y : Node) (h : nzs (c93 x) = nzs (c93 y)) : x = y := by
 simp only [nzs,c93,List.map_cons,List.map_nil,nzV_cref,List.cons.injEq,AV.cref.injEq,true_and,and_true,Node.nz_iff] at h
 exact h
theorem w93 (x : Node) : wks (c93 x) = true := by
 simp only [wks,c93,wkV,wkL,Node.wk,List.all_cons,List.all_nil,Bool.and_self,Bool.and_true]
noncomputable def sq93 : List AV → Option (List (List AV)) := SQ c93 fun n => bindO (walkO n) fun l => some (List.map e93 l)
@[push_cast] theorem sq93_1 (z1 : Int) (z2 : Int) (z3 : ByteArray) (z4 : Int) (z5 : List Node) : sq93 [.cref [.int .i64 z1,.int .i64 z2,.str z3,.int .i64 z4,.sl false 5 (List.map Node.cells z5)]] = bindO (walkO ⟨z1,z2,z3,z4,z5⟩) fun l => some (List.map e93 l) :=
 SQ_hit i93 (⟨z1,z2,z3,z4,z5⟩ : Node) (by simp only [c93,push_cast])
noncomputable def se93 : SE Proofs.Tryz.prog := ⟨93,sq93,SQ_ok w93 fun n xs h => by
 obtain ⟨l,hl,h1⟩ := bindO_eq h
 obtain ⟨hn,hl⟩ := iteO_none hl
 injection hl with hl
 subst hl
 injection h1 with h1
 subst h1
 have hp : List.map e93 (nodes n) = pre n := (pre_nodes n).symm
 rw [hp]
 exact seq93 n (of_decide_eq_true hn)⟩
end Go.Abs.Try
