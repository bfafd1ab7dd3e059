import Derived.Test.YthgibjeclmkbpaaGen2
import Derived.Test.YthgibjeclmkbpaaSqWalk
import Derived.Test.YthgibjeclmkbpaaSqEq
import Derived.KernelRfl
set_option linter.unusedSimpArgs false
set_option linter.unusedVariables false
namespace Go.Abs.Try
open Go.RowKit
attribute [push_cast] ne_eq not_false_eq_true not_true_eq_false true_and and_true false_and and_false List.contains_cons List.contains_nil Int.toNat_zero if_true if_false
attribute [push_cast] Node.cells_eq Node.eta
theorem Node.nz_iff (a b : Node) : (Node.cells a).map nzL = (Node.cells b).map nzL ↔ a = b := by
 refine ⟨fun h => ?_, fun h => by rw [h]⟩
 simp only [Node.cells_eq, List.map_cons, List.map_nil, nz_int, nz_bool, nz_str, nzL_sl, List.cons.injEq, AV.int.injEq, AV.bool.injEq, AV.str.injEq, AV.sl.injEq, true_and, and_true, or_true, map_inj_iff Node.cells_inj] at h
 obtain ⟨e0, e1, e2, e3, e4⟩ := h
 exact Node.ext' e0 e1 e2 e3 e4
theorem Node.wk (a : Node) : (Node.cells a).all wkL = true := by
 simp only [Node.cells_eq, List.all_cons, List.all_nil, wkL, Bool.not_false, Bool.and_self]
def rNode : Rp Node := rA Node.cells Node.nz_iff Node.wk fun x => by simp only [Node.cells_eq, allDataL, AV.dataL, Bool.and_self]
@[push_cast] theorem rNode_e (x : Node) : rNode.e x = .agg (Node.cells x) := rfl
structure Val where
 valSort : Int
 valNum : Int
 valSet : List Int
 valAt : List Int
 valTo : List Int
 deriving Inhabited
def Val.cells (x : Val) : List AV := [.int .i64 x.valSort, .int .i64 x.valNum, .sl false 1 (List.map (cI .i64) x.valSet), .sl false 1 (List.map (cI .i64) x.valAt), .sl false 1 (List.map (cI .i64) x.valTo)]
@[push_cast] theorem Val.cells_eq (x : Val) : Val.cells x = [.int .i64 x.valSort, .int .i64 x.valNum, .sl false 1 (List.map (cI .i64) x.valSet), .sl false 1 (List.map (cI .i64) x.valAt), .sl false 1 (List.map (cI .i64) x.valTo)] := rfl
@[push_cast] theorem Val.eta (n : Val) : (⟨n.valSort, n.valNum, n.valSet, n.valAt, n.valTo⟩ : Val) = n := rfl
theorem Val.ext' {a b : Val} (h0 : a.valSort = b.valSort) (h1 : a.valNum = b.valNum) (h2 : a.valSet = b.valSet) (h3 : a.valAt = b.valAt) (h4 : a.valTo = b.valTo) : a = b := by
 cases a; cases b; simp_all
theorem Val.cells_inj (a b : Val) (h : Val.cells a = Val.cells b) : a = b := by
 simp only [Val.cells_eq, List.cons.injEq, AV.int.injEq, AV.bool.injEq, AV.str.injEq, AV.sl.injEq, true_and, and_true, or_true, map_inj_iff (cI_inj .i64)] at h
 obtain ⟨e0, e1, e2, e3, e4⟩ := h
 exact (Val.ext' e0 e1 e2 e3 e4)
theorem Val.nz_iff (a b : Val) : (Val.cells a).map nzL = (Val.cells b).map nzL ↔ a = b := by
 refine ⟨fun h => ?_, fun h => by rw [h]⟩
 simp only [Val.cells_eq, List.map_cons, List.map_nil, nz_int, nz_bool, nz_str, nzL_sl, List.cons.injEq, AV.int.injEq, AV.bool.injEq, AV.str.injEq, AV.sl.injEq, true_and, and_true, or_true, map_inj_iff (cI_inj .i64)] at h
 obtain ⟨e0, e1, e2, e3, e4⟩ := h
 exact (Val.ext' e0 e1 e2 e3 e4)
theorem Val.wk (a : Val) : (Val.cells a).all wkL = true := by
 simp only [Val.cells_eq, List.all_cons, List.all_nil, wkL, Bool.not_false, Bool.and_self]
def rVal : Rp Val := rA Val.cells Val.nz_iff Val.wk fun x => by simp only [Val.cells_eq, allDataL, AV.dataL, Bool.and_self]
@[push_cast] theorem rVal_e (x : Val) : rVal.e x = .agg (Val.cells x) := rfl
structure Entry where
 entryName : ByteArray
 entryArgs : List Val
 entryVal : Val
 deriving Inhabited
def Entry.cells (x : Entry) : List AV := [.str x.entryName, .sl false 5 (List.map Val.cells x.entryArgs), .int .i64 x.entryVal.valSort, .int .i64 x.entryVal.valNum, .sl false 1 (List.map (cI .i64) x.entryVal.valSet), .sl false 1 (List.map (cI .i64) x.entryVal.valAt), .sl false 1 (List.map (cI .i64) x.entryVal.valTo)]
@[push_cast] theorem Entry.cells_eq (x : Entry) : Entry.cells x = [.str x.entryName, .sl false 5 (List.map Val.cells x.entryArgs), .int .i64 x.entryVal.valSort, .int .i64 x.entryVal.valNum, .sl false 1 (List.map (cI .i64) x.entryVal.valSet), .sl false 1 (List.map (cI .i64) x.entryVal.valAt), .sl false 1 (List.map (cI .i64) x.entryVal.valTo)] := rfl
@[push_cast] theorem Entry.eta (n : Entry) : (⟨n.entryName, n.entryArgs, n.entryVal⟩ : Entry) = n := rfl
theorem Entry.ext' {a b : Entry} (h0 : a.entryName = b.entryName) (h1 : a.entryArgs = b.entryArgs) (h2 : a.entryVal = b.entryVal) : a = b := by
 cases a; cases b; simp_all
theorem Entry.cells_inj (a b : Entry) (h : Entry.cells a = Entry.cells b) : a = b := by
 simp only [Entry.cells_eq, List.cons.injEq, AV.int.injEq, AV.bool.injEq, AV.str.injEq, AV.sl.injEq, true_and, and_true, or_true, map_inj_iff (cI_inj .i64), map_inj_iff Val.cells_inj] at h
 obtain ⟨e0, e1, e2, e3, e4, e5, e6⟩ := h
 exact (Entry.ext' e0 e1 (Val.ext' e2 e3 e4 e5 e6))
theorem Entry.nz_iff (a b : Entry) : (Entry.cells a).map nzL = (Entry.cells b).map nzL ↔ a = b := by
 refine ⟨fun h => ?_, fun h => by rw [h]⟩
 simp only [Entry.cells_eq, List.map_cons, List.map_nil, nz_int, nz_bool, nz_str, nzL_sl, List.cons.injEq, AV.int.injEq, AV.bool.injEq, AV.str.injEq, AV.sl.injEq, true_and, and_true, or_true, map_inj_iff (cI_inj .i64), map_inj_iff Val.cells_inj] at h
 obtain ⟨e0, e1, e2, e3, e4, e5, e6⟩ := h
 exact (Entry.ext' e0 e1 (Val.ext' e2 e3 e4 e5 e6))
theorem Entry.wk (a : Entry) : (Entry.cells a).all wkL = true := by
 simp only [Entry.cells_eq, List.all_cons, List.all_nil, wkL, Bool.not_false, Bool.and_self]
def rEntry : Rp Entry := rA Entry.cells Entry.nz_iff Entry.wk fun x => by simp only [Entry.cells_eq, allDataL, AV.dataL, Bool.and_self]
@[push_cast] theorem rEntry_e (x : Entry) : rEntry.e x = .agg (Entry.cells x) := rfl
end Go.Abs.Try
