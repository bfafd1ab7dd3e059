import Derived.Test.YtjjajifecniidaaGreatGen2
import Derived.Test.YtjjajifecniidaaGreatSqWalk
import Derived.Test.YtjjajifecniidaaGreatSqEq
import Derived.KernelRfl
set_option linter.unusedSimpArgs false
set_option linter.unusedVariables false
namespace Go.Abs.Try
open Go.RowKit
attribute [push_cast] ne_eq not_false_eq_true not_true_eq_false true_and and_true false_and and_false List.contains_cons List.contains_nil Int.toNat_zero if_true if_false
attribute [push_cast] Node.cells_eq Node.eta
theorem Node.nz_iff (a b : Node) : (Node.cells a).map nzL = (Node.cells b).map nzL ↔ a = b := by
 refine ⟨fun h => ?_, fun h => by rw [h]⟩
 simp only [Node.cells_eq, List.map_cons, List.map_nil, nz_int, nz_bool, nz_str, nzL_sl, List.cons.injEq, AV.int.injEq, AV.bool.injEq, AV.str.injEq, AV.sl.injEq, true_and, and_true, or_true, map_inj_iff Node.cells_inj] at h
 obtain ⟨e0, e1, e2, e3, e4⟩ := h
 exact Node.ext' e0 e1 e2 e3 e4
theorem Node.wk (a : Node) : (Node.cells a).all wkL = true := by
 simp only [Node.cells_eq, List.all_cons, List.all_nil, wkL, Bool.not_false, Bool.and_self]
def rNode : Rp Node := rA Node.cells Node.nz_iff Node.wk fun x => by simp only [Node.cells_eq, allDataL, AV.dataL, Bool.and_self]
@[push_cast] theorem rNode_e (x : Node) : rNode.e x = .agg (Node.cells x) := rfl
structure Mono where
 monoCoef : Int
 monoAtom : Node
 deriving Inhabited
def Mono.cells (x : Mono) : List AV := [.int .i64 x.monoCoef, .int .i64 x.monoAtom.op, .int .i64 x.monoAtom.sortf, .str x.monoAtom.name, .int .i64 x.monoAtom.num, .sl false 5 (List.map Node.cells x.monoAtom.kids)]
@[push_cast] theorem Mono.cells_eq (x : Mono) : Mono.cells x = [.int .i64 x.monoCoef, .int .i64 x.monoAtom.op, .int .i64 x.monoAtom.sortf, .str x.monoAtom.name, .int .i64 x.monoAtom.num, .sl false 5 (List.map Node.cells x.monoAtom.kids)] := rfl
@[push_cast] theorem Mono.eta (n : Mono) : (⟨n.monoCoef, n.monoAtom⟩ : Mono) = n := rfl
theorem Mono.ext' {a b : Mono} (h0 : a.monoCoef = b.monoCoef) (h1 : a.monoAtom = b.monoAtom) : a = b := by
 cases a; cases b; simp_all
theorem Mono.cells_inj (a b : Mono) (h : Mono.cells a = Mono.cells b) : a = b := by
 simp only [Mono.cells_eq, List.cons.injEq, AV.int.injEq, AV.bool.injEq, AV.str.injEq, AV.sl.injEq, true_and, and_true, or_true, map_inj_iff Node.cells_inj] at h
 obtain ⟨e0, e1, e2, e3, e4, e5⟩ := h
 exact (Mono.ext' e0 (Node.ext' e1 e2 e3 e4 e5))
theorem Mono.nz_iff (a b : Mono) : (Mono.cells a).map nzL = (Mono.cells b).map nzL ↔ a = b := by
 refine ⟨fun h => ?_, fun h => by rw [h]⟩
 simp only [Mono.cells_eq, List.map_cons, List.map_nil, nz_int, nz_bool, nz_str, nzL_sl, List.cons.injEq, AV.int.injEq, AV.bool.injEq, AV.str.injEq, AV.sl.injEq, true_and, and_true, or_true, map_inj_iff Node.cells_inj] at h
 obtain ⟨e0, e1, e2, e3, e4, e5⟩ := h
 exact (Mono.ext' e0 (Node.ext' e1 e2 e3 e4 e5))
theorem Mono.wk (a : Mono) : (Mono.cells a).all wkL = true := by
 simp only [Mono.cells_eq, List.all_cons, List.all_nil, wkL, Bool.not_false, Bool.and_self]
def rMono : Rp Mono := rA Mono.cells Mono.nz_iff Mono.wk fun x => by simp only [Mono.cells_eq, allDataL, AV.dataL, Bool.and_self]
@[push_cast] theorem rMono_e (x : Mono) : rMono.e x = .agg (Mono.cells x) := rfl
structure Lin where
 linMonos : List Mono
 linConst : Int
 deriving Inhabited
def Lin.cells (x : Lin) : List AV := [.sl false 6 (List.map Mono.cells x.linMonos), .int .i64 x.linConst]
@[push_cast] theorem Lin.cells_eq (x : Lin) : Lin.cells x = [.sl false 6 (List.map Mono.cells x.linMonos), .int .i64 x.linConst] := rfl
@[push_cast] theorem Lin.eta (n : Lin) : (⟨n.linMonos, n.linConst⟩ : Lin) = n := rfl
theorem Lin.ext' {a b : Lin} (h0 : a.linMonos = b.linMonos) (h1 : a.linConst = b.linConst) : a = b := by
 cases a; cases b; simp_all
theorem Lin.cells_inj (a b : Lin) (h : Lin.cells a = Lin.cells b) : a = b := by
 simp only [Lin.cells_eq, List.cons.injEq, AV.int.injEq, AV.bool.injEq, AV.str.injEq, AV.sl.injEq, true_and, and_true, or_true, map_inj_iff Mono.cells_inj] at h
 obtain ⟨e0, e1⟩ := h
 exact (Lin.ext' e0 e1)
theorem Lin.nz_iff (a b : Lin) : (Lin.cells a).map nzL = (Lin.cells b).map nzL ↔ a = b := by
 refine ⟨fun h => ?_, fun h => by rw [h]⟩
 simp only [Lin.cells_eq, List.map_cons, List.map_nil, nz_int, nz_bool, nz_str, nzL_sl, List.cons.injEq, AV.int.injEq, AV.bool.injEq, AV.str.injEq, AV.sl.injEq, true_and, and_true, or_true, map_inj_iff Mono.cells_inj] at h
 obtain ⟨e0, e1⟩ := h
 exact (Lin.ext' e0 e1)
theorem Lin.wk (a : Lin) : (Lin.cells a).all wkL = true := by
 simp only [Lin.cells_eq, List.all_cons, List.all_nil, wkL, Bool.not_false, Bool.and_self]
def rLin : Rp Lin := rA Lin.cells Lin.nz_iff Lin.wk fun x => by simp only [Lin.cells_eq, allDataL, AV.dataL, Bool.and_self]
@[push_cast] theorem rLin_e (x : Lin) : rLin.e x = .agg (Lin.cells x) := rfl
structure Con where
 conForm : Lin
 conRel : Int
 deriving Inhabited
def Con.cells (x : Con) : List AV := [.sl false 6 (List.map Mono.cells x.conForm.linMonos), .int .i64 x.conForm.linConst, .int .i64 x.conRel]
@[push_cast] theorem Con.cells_eq (x : Con) : Con.cells x = [.sl false 6 (List.map Mono.cells x.conForm.linMonos), .int .i64 x.conForm.linConst, .int .i64 x.conRel] := rfl
@[push_cast] theorem Con.eta (n : Con) : (⟨n.conForm, n.conRel⟩ : Con) = n := rfl
theorem Con.ext' {a b : Con} (h0 : a.conForm = b.conForm) (h1 : a.conRel = b.conRel) : a = b := by
 cases a; cases b; simp_all
theorem Con.cells_inj (a b : Con) (h : Con.cells a = Con.cells b) : a = b := by
 simp only [Con.cells_eq, List.cons.injEq, AV.int.injEq, AV.bool.injEq, AV.str.injEq, AV.sl.injEq, true_and, and_true, or_true, map_inj_iff Mono.cells_inj] at h
 obtain ⟨e0, e1, e2⟩ := h
 exact (Con.ext' (Lin.ext' e0 e1) e2)
theorem Con.nz_iff (a b : Con) : (Con.cells a).map nzL = (Con.cells b).map nzL ↔ a = b := by
 refine ⟨fun h => ?_, fun h => by rw [h]⟩
 simp only [Con.cells_eq, List.map_cons, List.map_nil, nz_int, nz_bool, nz_str, nzL_sl, List.cons.injEq, AV.int.injEq, AV.bool.injEq, AV.str.injEq, AV.sl.injEq, true_and, and_true, or_true, map_inj_iff Mono.cells_inj] at h
 obtain ⟨e0, e1, e2⟩ := h
 exact (Con.ext' (Lin.ext' e0 e1) e2)
theorem Con.wk (a : Con) : (Con.cells a).all wkL = true := by
 simp only [Con.cells_eq, List.all_cons, List.all_nil, wkL, Bool.not_false, Bool.and_self]
def rCon : Rp Con := rA Con.cells Con.nz_iff Con.wk fun x => by simp only [Con.cells_eq, allDataL, AV.dataL, Bool.and_self]
@[push_cast] theorem rCon_e (x : Con) : rCon.e x = .agg (Con.cells x) := rfl
structure Mult where
 multIndex : Int
 multCoef : Int
 deriving Inhabited
def Mult.cells (x : Mult) : List AV := [.int .i64 x.multIndex, .int .i64 x.multCoef]
@[push_cast] theorem Mult.cells_eq (x : Mult) : Mult.cells x = [.int .i64 x.multIndex, .int .i64 x.multCoef] := rfl
@[push_cast] theorem Mult.eta (n : Mult) : (⟨n.multIndex, n.multCoef⟩ : Mult) = n := rfl
theorem Mult.ext' {a b : Mult} (h0 : a.multIndex = b.multIndex) (h1 : a.multCoef = b.multCoef) : a = b := by
 cases a; cases b; simp_all
theorem Mult.cells_inj (a b : Mult) (h : Mult.cells a = Mult.cells b) : a = b := by
 simp only [Mult.cells_eq, List.cons.injEq, AV.int.injEq, AV.bool.injEq, AV.str.injEq, AV.sl.injEq, true_and, and_true, or_true] at h
 obtain ⟨e0, e1⟩ := h
 exact (Mult.ext' e0 e1)
theorem Mult.nz_iff (a b : Mult) : (Mult.cells a).map nzL = (Mult.cells b).map nzL ↔ a = b := by
 refine ⟨fun h => ?_, fun h => by rw [h]⟩
 simp only [Mult.cells_eq, List.map_cons, List.map_nil, nz_int, nz_bool, nz_str, nzL_sl, List.cons.injEq, AV.int.injEq, AV.bool.injEq, AV.str.injEq, AV.sl.injEq, true_and, and_true, or_true] at h
 obtain ⟨e0, e1⟩ := h
 exact (Mult.ext' e0 e1)
theorem Mult.wk (a : Mult) : (Mult.cells a).all wkL = true := by
 simp only [Mult.cells_eq, List.all_cons, List.all_nil, wkL, Bool.not_false, Bool.and_self]
def rMult : Rp Mult := rA Mult.cells Mult.nz_iff Mult.wk fun x => by simp only [Mult.cells_eq, allDataL, AV.dataL, Bool.and_self]
@[push_cast] theorem rMult_e (x : Mult) : rMult.e x = .agg (Mult.cells x) := rfl
structure Deriv where
 derivSteps : List (List Mult)
 derivSplit : Bool
 derivForm : Lin
 derivKids : List Deriv
 deriving Inhabited
mutual
def Deriv.cells : Deriv → List AV
  | ⟨v0, v1, v2, v3⟩ => [.sl false 1 (List.map (cL 2 Mult.cells) v0), .bool v1, .sl false 6 (List.map Mono.cells v2.linMonos), .int .i64 v2.linConst, .sl false 5 (Deriv.cellsL v3)]
def Deriv.cellsL : List Deriv → List (List AV)
  | [] => []
  | k :: ks => k.cells :: Deriv.cellsL ks
end
theorem Deriv.cellsL_eq : ∀ l : List Deriv, Deriv.cellsL l = List.map Deriv.cells l
 | [] => by simp only [Deriv.cellsL, List.map_nil]
 | k :: ks => by simp only [Deriv.cellsL, List.map_cons, Deriv.cellsL_eq ks]
@[push_cast] theorem Deriv.cells_eq (x : Deriv) : Deriv.cells x = [.sl false 1 (List.map (cL 2 Mult.cells) x.derivSteps), .bool x.derivSplit, .sl false 6 (List.map Mono.cells x.derivForm.linMonos), .int .i64 x.derivForm.linConst, .sl false 5 (List.map Deriv.cells x.derivKids)] := by
 cases x; simp only [Deriv.cells, Deriv.cellsL_eq]
theorem Deriv.ext' {a b : Deriv} (h0 : a.derivSteps = b.derivSteps) (h1 : a.derivSplit = b.derivSplit) (h2 : a.derivForm = b.derivForm) (h3 : a.derivKids = b.derivKids) : a = b := by
 cases a; cases b; simp_all
@[push_cast] theorem Deriv.eta (n : Deriv) : (⟨n.derivSteps, n.derivSplit, n.derivForm, n.derivKids⟩ : Deriv) = n := by cases n; rfl
mutual
theorem Deriv.cells_inj : ∀ (a b : Deriv), Deriv.cells a = Deriv.cells b → a = b
  | ⟨v0, v1, v2, v3⟩, ⟨w0, w1, w2, w3⟩, h => by
    simp only [Deriv.cells, List.cons.injEq, AV.int.injEq, AV.bool.injEq, AV.str.injEq, AV.sl.injEq, true_and, and_true, or_true, map_inj_iff (cL_inj Mult.cells_inj), map_inj_iff Mono.cells_inj] at h
    obtain ⟨e0, e1, e2, e3, e4⟩ := h
    exact (Deriv.ext' e0 e1 (Lin.ext' e2 e3) (Deriv.cellsL_inj _ _ e4))
theorem Deriv.cellsL_inj : ∀ (a b : List Deriv), Deriv.cellsL a = Deriv.cellsL b → a = b
  | [], [], _ => rfl
  | [], _ :: _, h => by simp only [Deriv.cellsL] at h; cases h
  | _ :: _, [], h => by simp only [Deriv.cellsL] at h; cases h
  | k :: ks, k' :: ks', h => by
    simp only [Deriv.cellsL, List.cons.injEq] at h
    rw [Deriv.cells_inj k k' h.1, Deriv.cellsL_inj ks ks' h.2]
end
theorem Deriv.nz_iff (a b : Deriv) : (Deriv.cells a).map nzL = (Deriv.cells b).map nzL ↔ a = b := by
 refine ⟨fun h => ?_, fun h => by rw [h]⟩
 simp only [Deriv.cells_eq, List.map_cons, List.map_nil, nz_int, nz_bool, nz_str, nzL_sl, List.cons.injEq, AV.int.injEq, AV.bool.injEq, AV.str.injEq, AV.sl.injEq, true_and, and_true, or_true, map_inj_iff (cL_inj Mult.cells_inj), map_inj_iff Mono.cells_inj, map_inj_iff Deriv.cells_inj] at h
 obtain ⟨e0, e1, e2, e3, e4⟩ := h
 exact (Deriv.ext' e0 e1 (Lin.ext' e2 e3) (id e4))
theorem Deriv.wk (a : Deriv) : (Deriv.cells a).all wkL = true := by
 simp only [Deriv.cells_eq, List.all_cons, List.all_nil, wkL, Bool.not_false, Bool.and_self]
def rDeriv : Rp Deriv := rA Deriv.cells Deriv.nz_iff Deriv.wk fun x => by simp only [Deriv.cells_eq, allDataL, AV.dataL, Bool.and_self]
@[push_cast] theorem rDeriv_e (x : Deriv) : rDeriv.e x = .agg (Deriv.cells x) := rfl
structure Val where
 valSort : Int
 valNum : Int
 valSet : List Int
 valAt : List Int
 valTo : List Int
 deriving Inhabited
def Val.cells (x : Val) : List AV := [.int .i64 x.valSort, .int .i64 x.valNum, .sl false 1 (List.map (cI .i64) x.valSet), .sl false 1 (List.map (cI .i64) x.valAt), .sl false 1 (List.map (cI .i64) x.valTo)]
@[push_cast] theorem Val.cells_eq (x : Val) : Val.cells x = [.int .i64 x.valSort, .int .i64 x.valNum, .sl false 1 (List.map (cI .i64) x.valSet), .sl false 1 (List.map (cI .i64) x.valAt), .sl false 1 (List.map (cI .i64) x.valTo)] := rfl
@[push_cast] theorem Val.eta (n : Val) : (⟨n.valSort, n.valNum, n.valSet, n.valAt, n.valTo⟩ : Val) = n := rfl
theorem Val.ext' {a b : Val} (h0 : a.valSort = b.valSort) (h1 : a.valNum = b.valNum) (h2 : a.valSet = b.valSet) (h3 : a.valAt = b.valAt) (h4 : a.valTo = b.valTo) : a = b := by
 cases a; cases b; simp_all
theorem Val.cells_inj (a b : Val) (h : Val.cells a = Val.cells b) : a = b := by
 simp only [Val.cells_eq, List.cons.injEq, AV.int.injEq, AV.bool.injEq, AV.str.injEq, AV.sl.injEq, true_and, and_true, or_true, map_inj_iff (cI_inj .i64)] at h
 obtain ⟨e0, e1, e2, e3, e4⟩ := h
 exact (Val.ext' e0 e1 e2 e3 e4)
theorem Val.nz_iff (a b : Val) : (Val.cells a).map nzL = (Val.cells b).map nzL ↔ a = b := by
 refine ⟨fun h => ?_, fun h => by rw [h]⟩
 simp only [Val.cells_eq, List.map_cons, List.map_nil, nz_int, nz_bool, nz_str, nzL_sl, List.cons.injEq, AV.int.injEq, AV.bool.injEq, AV.str.injEq, AV.sl.injEq, true_and, and_true, or_true, map_inj_iff (cI_inj .i64)] at h
 obtain ⟨e0, e1, e2, e3, e4⟩ := h
 exact (Val.ext' e0 e1 e2 e3 e4)
theorem Val.wk (a : Val) : (Val.cells a).all wkL = true := by
 simp only [Val.cells_eq, List.all_cons, List.all_nil, wkL, Bool.not_false, Bool.and_self]
def rVal : Rp Val := rA Val.cells Val.nz_iff Val.wk fun x => by simp only [Val.cells_eq, allDataL, AV.dataL, Bool.and_self]
@[push_cast] theorem rVal_e (x : Val) : rVal.e x = .agg (Val.cells x) := rfl
structure LinearSum where
 linearSumHi : Int
 linearSumLo : Int
 deriving Inhabited
def LinearSum.cells (x : LinearSum) : List AV := [.int .i64 x.linearSumHi, .int .u64 x.linearSumLo]
@[push_cast] theorem LinearSum.cells_eq (x : LinearSum) : LinearSum.cells x = [.int .i64 x.linearSumHi, .int .u64 x.linearSumLo] := rfl
@[push_cast] theorem LinearSum.eta (n : LinearSum) : (⟨n.linearSumHi, n.linearSumLo⟩ : LinearSum) = n := rfl
theorem LinearSum.ext' {a b : LinearSum} (h0 : a.linearSumHi = b.linearSumHi) (h1 : a.linearSumLo = b.linearSumLo) : a = b := by
 cases a; cases b; simp_all
theorem LinearSum.cells_inj (a b : LinearSum) (h : LinearSum.cells a = LinearSum.cells b) : a = b := by
 simp only [LinearSum.cells_eq, List.cons.injEq, AV.int.injEq, AV.bool.injEq, AV.str.injEq, AV.sl.injEq, true_and, and_true, or_true] at h
 obtain ⟨e0, e1⟩ := h
 exact (LinearSum.ext' e0 e1)
theorem LinearSum.nz_iff (a b : LinearSum) : (LinearSum.cells a).map nzL = (LinearSum.cells b).map nzL ↔ a = b := by
 refine ⟨fun h => ?_, fun h => by rw [h]⟩
 simp only [LinearSum.cells_eq, List.map_cons, List.map_nil, nz_int, nz_bool, nz_str, nzL_sl, List.cons.injEq, AV.int.injEq, AV.bool.injEq, AV.str.injEq, AV.sl.injEq, true_and, and_true, or_true] at h
 obtain ⟨e0, e1⟩ := h
 exact (LinearSum.ext' e0 e1)
theorem LinearSum.wk (a : LinearSum) : (LinearSum.cells a).all wkL = true := by
 simp only [LinearSum.cells_eq, List.all_cons, List.all_nil, wkL, Bool.not_false, Bool.and_self]
def rLinearSum : Rp LinearSum := rA LinearSum.cells LinearSum.nz_iff LinearSum.wk fun x => by simp only [LinearSum.cells_eq, allDataL, AV.dataL, Bool.and_self]
@[push_cast] theorem rLinearSum_e (x : LinearSum) : rLinearSum.e x = .agg (LinearSum.cells x) := rfl
structure Quantaleref04Wide where
 quantaleref04WideNeg : Bool
 quantaleref04WideHi : Int
 quantaleref04WideLo : Int
 deriving Inhabited
def Quantaleref04Wide.cells (x : Quantaleref04Wide) : List AV := [.bool x.quantaleref04WideNeg, .int .u64 x.quantaleref04WideHi, .int .u64 x.quantaleref04WideLo]
@[push_cast] theorem Quantaleref04Wide.cells_eq (x : Quantaleref04Wide) : Quantaleref04Wide.cells x = [.bool x.quantaleref04WideNeg, .int .u64 x.quantaleref04WideHi, .int .u64 x.quantaleref04WideLo] := rfl
@[push_cast] theorem Quantaleref04Wide.eta (n : Quantaleref04Wide) : (⟨n.quantaleref04WideNeg, n.quantaleref04WideHi, n.quantaleref04WideLo⟩ : Quantaleref04Wide) = n := rfl
theorem Quantaleref04Wide.ext' {a b : Quantaleref04Wide} (h0 : a.quantaleref04WideNeg = b.quantaleref04WideNeg) (h1 : a.quantaleref04WideHi = b.quantaleref04WideHi) (h2 : a.quantaleref04WideLo = b.quantaleref04WideLo) : a = b := by
 cases a; cases b; simp_all
theorem Quantaleref04Wide.cells_inj (a b : Quantaleref04Wide) (h : Quantaleref04Wide.cells a = Quantaleref04Wide.cells b) : a = b := by
 simp only [Quantaleref04Wide.cells_eq, List.cons.injEq, AV.int.injEq, AV.bool.injEq, AV.str.injEq, AV.sl.injEq, true_and, and_true, or_true] at h
 obtain ⟨e0, e1, e2⟩ := h
 exact (Quantaleref04Wide.ext' e0 e1 e2)
theorem Quantaleref04Wide.nz_iff (a b : Quantaleref04Wide) : (Quantaleref04Wide.cells a).map nzL = (Quantaleref04Wide.cells b).map nzL ↔ a = b := by
 refine ⟨fun h => ?_, fun h => by rw [h]⟩
 simp only [Quantaleref04Wide.cells_eq, List.map_cons, List.map_nil, nz_int, nz_bool, nz_str, nzL_sl, List.cons.injEq, AV.int.injEq, AV.bool.injEq, AV.str.injEq, AV.sl.injEq, true_and, and_true, or_true] at h
 obtain ⟨e0, e1, e2⟩ := h
 exact (Quantaleref04Wide.ext' e0 e1 e2)
theorem Quantaleref04Wide.wk (a : Quantaleref04Wide) : (Quantaleref04Wide.cells a).all wkL = true := by
 simp only [Quantaleref04Wide.cells_eq, List.all_cons, List.all_nil, wkL, Bool.not_false, Bool.and_self]
def rQuantaleref04Wide : Rp Quantaleref04Wide := rA Quantaleref04Wide.cells Quantaleref04Wide.nz_iff Quantaleref04Wide.wk fun x => by simp only [Quantaleref04Wide.cells_eq, allDataL, AV.dataL, Bool.and_self]
@[push_cast] theorem rQuantaleref04Wide_e (x : Quantaleref04Wide) : rQuantaleref04Wide.e x = .agg (Quantaleref04Wide.cells x) := rfl
structure Entry where
 entryName : ByteArray
 entryArgs : List Val
 entryVal : Val
 deriving Inhabited
def Entry.cells (x : Entry) : List AV := [.str x.entryName, .sl false 5 (List.map Val.cells x.entryArgs), .int .i64 x.entryVal.valSort, .int .i64 x.entryVal.valNum, .sl false 1 (List.map (cI .i64) x.entryVal.valSet), .sl false 1 (List.map (cI .i64) x.entryVal.valAt), .sl false 1 (List.map (cI .i64) x.entryVal.valTo)]
@[push_cast] theorem Entry.cells_eq (x : Entry) : Entry.cells x = [.str x.entryName, .sl false 5 (List.map Val.cells x.entryArgs), .int .i64 x.entryVal.valSort, .int .i64 x.entryVal.valNum, .sl false 1 (List.map (cI .i64) x.entryVal.valSet), .sl false 1 (List.map (cI .i64) x.entryVal.valAt), .sl false 1 (List.map (cI .i64) x.entryVal.valTo)] := rfl
@[push_cast] theorem Entry.eta (n : Entry) : (⟨n.entryName, n.entryArgs, n.entryVal⟩ : Entry) = n := rfl
theorem Entry.ext' {a b : Entry} (h0 : a.entryName = b.entryName) (h1 : a.entryArgs = b.entryArgs) (h2 : a.entryVal = b.entryVal) : a = b := by
 cases a; cases b; simp_all
theorem Entry.cells_inj (a b : Entry) (h : Entry.cells a = Entry.cells b) : a = b := by
 simp only [Entry.cells_eq, List.cons.injEq, AV.int.injEq, AV.bool.injEq, AV.str.injEq, AV.sl.injEq, true_and, and_true, or_true, map_inj_iff (cI_inj .i64), map_inj_iff Val.cells_inj] at h
 obtain ⟨e0, e1, e2, e3, e4, e5, e6⟩ := h
 exact (Entry.ext' e0 e1 (Val.ext' e2 e3 e4 e5 e6))
theorem Entry.nz_iff (a b : Entry) : (Entry.cells a).map nzL = (Entry.cells b).map nzL ↔ a = b := by
 refine ⟨fun h => ?_, fun h => by rw [h]⟩
 simp only [Entry.cells_eq, List.map_cons, List.map_nil, nz_int, nz_bool, nz_str, nzL_sl, List.cons.injEq, AV.int.injEq, AV.bool.injEq, AV.str.injEq, AV.sl.injEq, true_and, and_true, or_true, map_inj_iff (cI_inj .i64), map_inj_iff Val.cells_inj] at h
 obtain ⟨e0, e1, e2, e3, e4, e5, e6⟩ := h
 exact (Entry.ext' e0 e1 (Val.ext' e2 e3 e4 e5 e6))
theorem Entry.wk (a : Entry) : (Entry.cells a).all wkL = true := by
 simp only [Entry.cells_eq, List.all_cons, List.all_nil, wkL, Bool.not_false, Bool.and_self]
def rEntry : Rp Entry := rA Entry.cells Entry.nz_iff Entry.wk fun x => by simp only [Entry.cells_eq, allDataL, AV.dataL, Bool.and_self]
@[push_cast] theorem rEntry_e (x : Entry) : rEntry.e x = .agg (Entry.cells x) := rfl
structure Decl where
 declName : ByteArray
 declSort : Int
 deriving Inhabited
def Decl.cells (x : Decl) : List AV := [.str x.declName, .int .i64 x.declSort]
@[push_cast] theorem Decl.cells_eq (x : Decl) : Decl.cells x = [.str x.declName, .int .i64 x.declSort] := rfl
@[push_cast] theorem Decl.eta (n : Decl) : (⟨n.declName, n.declSort⟩ : Decl) = n := rfl
theorem Decl.ext' {a b : Decl} (h0 : a.declName = b.declName) (h1 : a.declSort = b.declSort) : a = b := by
 cases a; cases b; simp_all
theorem Decl.cells_inj (a b : Decl) (h : Decl.cells a = Decl.cells b) : a = b := by
 simp only [Decl.cells_eq, List.cons.injEq, AV.int.injEq, AV.bool.injEq, AV.str.injEq, AV.sl.injEq, true_and, and_true, or_true] at h
 obtain ⟨e0, e1⟩ := h
 exact (Decl.ext' e0 e1)
theorem Decl.nz_iff (a b : Decl) : (Decl.cells a).map nzL = (Decl.cells b).map nzL ↔ a = b := by
 refine ⟨fun h => ?_, fun h => by rw [h]⟩
 simp only [Decl.cells_eq, List.map_cons, List.map_nil, nz_int, nz_bool, nz_str, nzL_sl, List.cons.injEq, AV.int.injEq, AV.bool.injEq, AV.str.injEq, AV.sl.injEq, true_and, and_true, or_true] at h
 obtain ⟨e0, e1⟩ := h
 exact (Decl.ext' e0 e1)
theorem Decl.wk (a : Decl) : (Decl.cells a).all wkL = true := by
 simp only [Decl.cells_eq, List.all_cons, List.all_nil, wkL, Bool.not_false, Bool.and_self]
def rDecl : Rp Decl := rA Decl.cells Decl.nz_iff Decl.wk fun x => by simp only [Decl.cells_eq, allDataL, AV.dataL, Bool.and_self]
@[push_cast] theorem rDecl_e (x : Decl) : rDecl.e x = .agg (Decl.cells x) := rfl
end Go.Abs.Try
