import Derived.Test.YtdigpkmbcojpoaaGreatGen2
import Derived.Test.YtdigpkmbcojpoaaGreatSqWalk
import Derived.Test.YtdigpkmbcojpoaaGreatSqEq
import Derived.KernelRfl
set_option linter.unusedSimpArgs false
set_option linter.unusedVariables false
namespace Go.Abs.Try
open Go.RowKit
attribute [push_cast] ne_eq not_false_eq_true not_true_eq_false true_and and_true false_and and_false List.contains_cons List.contains_nil Int.toNat_zero if_true if_false
attribute [push_cast] Node.cells_eq Node.eta
theorem Node.nz_iff (a b : Node) : (Node.cells a).map nzL = (Node.cells b).map nzL ↔ a = b := by
 refine ⟨fun h => ?_, fun h => by rw [h]⟩
 simp only [Node.cells_eq, List.map_cons, List.map_nil, nz_int, nz_bool, nz_str, nzL_sl, List.cons.injEq, AV.int.injEq, AV.bool.injEq, AV.str.injEq, AV.sl.injEq, true_and, and_true, or_true, map_inj_iff Node.cells_inj] at h
 obtain ⟨e0, e1, e2, e3, e4⟩ := h
 exact Node.ext' e0 e1 e2 e3 e4
theorem Node.wk (a : Node) : (Node.cells a).all wkL = true := by
 simp only [Node.cells_eq, List.all_cons, List.all_nil, wkL, Bool.not_false, Bool.and_self]
def rNode : Rp Node := rA Node.cells Node.nz_iff Node.wk fun x => by simp only [Node.cells_eq, allDataL, AV.dataL, Bool.and_self]
@[push_cast] theorem rNode_e (x : Node) : rNode.e x = .agg (Node.cells x) := rfl
structure Decl where
 declName : ByteArray
 declSort : Int
 deriving Inhabited
def Decl.cells (x : Decl) : List AV := [.str x.declName, .int .i64 x.declSort]
@[push_cast] theorem Decl.cells_eq (x : Decl) : Decl.cells x = [.str x.declName, .int .i64 x.declSort] := rfl
@[push_cast] theorem Decl.eta (n : Decl) : (⟨n.declName, n.declSort⟩ : Decl) = n := rfl
theorem Decl.ext' {a b : Decl} (h0 : a.declName = b.declName) (h1 : a.declSort = b.declSort) : a = b := by
 cases a; cases b; simp_all
theorem Decl.cells_inj (a b : Decl) (h : Decl.cells a = Decl.cells b) : a = b := by
 simp only [Decl.cells_eq, List.cons.injEq, AV.int.injEq, AV.bool.injEq, AV.str.injEq, AV.sl.injEq, true_and, and_true, or_true] at h
 obtain ⟨e0, e1⟩ := h
 exact (Decl.ext' e0 e1)
theorem Decl.nz_iff (a b : Decl) : (Decl.cells a).map nzL = (Decl.cells b).map nzL ↔ a = b := by
 refine ⟨fun h => ?_, fun h => by rw [h]⟩
 simp only [Decl.cells_eq, List.map_cons, List.map_nil, nz_int, nz_bool, nz_str, nzL_sl, List.cons.injEq, AV.int.injEq, AV.bool.injEq, AV.str.injEq, AV.sl.injEq, true_and, and_true, or_true] at h
 obtain ⟨e0, e1⟩ := h
 exact (Decl.ext' e0 e1)
theorem Decl.wk (a : Decl) : (Decl.cells a).all wkL = true := by
 simp only [Decl.cells_eq, List.all_cons, List.all_nil, wkL, Bool.not_false, Bool.and_self]
def rDecl : Rp Decl := rA Decl.cells Decl.nz_iff Decl.wk fun x => by simp only [Decl.cells_eq, allDataL, AV.dataL, Bool.and_self]
@[push_cast] theorem rDecl_e (x : Decl) : rDecl.e x = .agg (Decl.cells x) := rfl
end Go.Abs.Try
