import Derived.Test.YtdigpkmbcojpoaaGreatSqPre2
import Derived.Lib.Bytealg
set_option linter.unusedSimpArgs false
set_option linter.unusedVariables false
namespace Go.Abs.Try
open Go.RowKit
set_option maxRecDepth 100000
def walkO (n : Node) : Option (List Node) := iteO (decide (n.size < 4611686018427387904)) (some (nodes n)) none
def a54 (x : Node) : List AV := [.agg (Node.cells x)]
theorem i54 (x y : Node) (h : nzs (a54 x) = nzs (a54 y)) : x = y := by
 simp only [nzs,a54,List.map_cons,List.map_nil,nzV_agg,List.cons.injEq,AV.agg.injEq,true_and,and_true,Node.nz_iff] at h
 exact h
theorem w54 (x : Node) : wks (a54 x) = true := by
 simp only [wks,a54,wkV,wkL,Node.wk,List.all_cons,List.all_nil,Bool.and_self,Bool.and_true]
noncomputable def t54 : List AV → Option AV := TL a54 fun n => some (.fn 111 [.cref (Node.cells n)])
theorem k54 : TOk Proofs.Tryz.prog 54 t54 := TL_ok w54 fun n v h => by injection h with h; subst h; exact c54 n
@[push_cast] theorem t54_1 (z1 : Int) (z2 : Int) (z3 : ByteArray) (z4 : Int) (z5 : List Node) : t54 [.agg [.int .i64 z1,.int .i64 z2,.str z3,.int .i64 z4,.sl false 5 (List.map Node.cells z5)]] = some (.fn 111 [.cref [.int .i64 z1,.int .i64 z2,.str z3,.int .i64 z4,.sl false 5 (List.map Node.cells z5)]]) :=
 (TL_hit i54 (⟨z1,z2,z3,z4,z5⟩ : Node) (by simp only [a54,push_cast])).trans (by simp only [push_cast])
def e111 (k : Node) : List AV := [.agg (Node.cells k)]
@[push_cast] theorem e136_eq (k : Node) : e111 k = [.agg (Node.cells k)] := rfl
def c111 (x : Node) : List AV := [.cref (Node.cells x)]
theorem i111 (x y : Node) (h : nzs (c111 x) = nzs (c111 y)) : x = y := by
 simp only [nzs,c111,List.map_cons,List.map_nil,nzV_cref,List.cons.injEq,AV.cref.injEq,true_and,and_true,Node.nz_iff] at h
 exact h
theorem w111 (x : Node) : wks (c111 x) = true := by
 simp only [wks,c111,wkV,wkL,Node.wk,List.all_cons,List.all_nil,Bool.and_self,Bool.and_true]
noncomputable def sq111 : List AV → Option (List (List AV)) := SQ c111 fun n => bindO (walkO n) fun l => some (List.map e111 l)
@[push_cast] theorem sq111_1 (z1 : Int) (z2 : Int) (z3 : ByteArray) (z4 : Int) (z5 : List Node) : sq111 [.cref [.int .i64 z1,.int .i64 z2,.str z3,.int .i64 z4,.sl false 5 (List.map Node.cells z5)]] = bindO (walkO ⟨z1,z2,z3,z4,z5⟩) fun l => some (List.map e111 l) :=
 SQ_hit i111 (⟨z1,z2,z3,z4,z5⟩ : Node) (by simp only [c111,push_cast])
noncomputable def se111 : SE Proofs.Tryz.prog := ⟨111,sq111,SQ_ok w111 fun n xs h => by
 obtain ⟨l,hl,h1⟩ := bindO_eq h
 obtain ⟨hn,hl⟩ := iteO_none hl
 injection hl with hl
 subst hl
 injection h1 with h1
 subst h1
 have hp : List.map e111 (nodes n) = pre n := (pre_nodes n).symm
 rw [hp]
 exact seq111 n (of_decide_eq_true hn)⟩
end Go.Abs.Try
