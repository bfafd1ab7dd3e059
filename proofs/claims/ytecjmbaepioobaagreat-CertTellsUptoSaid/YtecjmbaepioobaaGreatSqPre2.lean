import Derived.Test.YtecjmbaepioobaaGreatGen2
import Derived.Test.YtecjmbaepioobaaGreatSqWalk
import Derived.Test.YtecjmbaepioobaaGreatSqEq
import Derived.KernelRfl
set_option linter.unusedSimpArgs false
set_option linter.unusedVariables false
namespace Go.Abs.Try
open Go.RowKit
attribute [push_cast] ne_eq not_false_eq_true not_true_eq_false true_and and_true false_and and_false List.contains_cons List.contains_nil Int.toNat_zero if_true if_false
attribute [push_cast] Node.cells_eq Node.eta
theorem Node.nz_iff (a b : Node) : (Node.cells a).map nzL = (Node.cells b).map nzL ↔ a = b := by
 refine ⟨fun h => ?_, fun h => by rw [h]⟩
 simp only [Node.cells_eq, List.map_cons, List.map_nil, nz_int, nz_bool, nz_str, nzL_sl, List.cons.injEq, AV.int.injEq, AV.bool.injEq, AV.str.injEq, AV.sl.injEq, true_and, and_true, or_true, map_inj_iff Node.cells_inj] at h
 obtain ⟨e0, e1, e2, e3, e4⟩ := h
 exact Node.ext' e0 e1 e2 e3 e4
theorem Node.wk (a : Node) : (Node.cells a).all wkL = true := by
 simp only [Node.cells_eq, List.all_cons, List.all_nil, wkL, Bool.not_false, Bool.and_self]
def rNode : Rp Node := rA Node.cells Node.nz_iff Node.wk fun x => by simp only [Node.cells_eq, allDataL, AV.dataL, Bool.and_self]
@[push_cast] theorem rNode_e (x : Node) : rNode.e x = .agg (Node.cells x) := rfl
structure Mono where
 monoCoef : Int
 monoAtom : Node
 deriving Inhabited
def Mono.cells (x : Mono) : List AV := [.int .i64 x.monoCoef, .int .i64 x.monoAtom.op, .int .i64 x.monoAtom.sortf, .str x.monoAtom.name, .int .i64 x.monoAtom.num, .sl false 5 (List.map Node.cells x.monoAtom.kids)]
@[push_cast] theorem Mono.cells_eq (x : Mono) : Mono.cells x = [.int .i64 x.monoCoef, .int .i64 x.monoAtom.op, .int .i64 x.monoAtom.sortf, .str x.monoAtom.name, .int .i64 x.monoAtom.num, .sl false 5 (List.map Node.cells x.monoAtom.kids)] := rfl
@[push_cast] theorem Mono.eta (n : Mono) : (⟨n.monoCoef, n.monoAtom⟩ : Mono) = n := rfl
theorem Mono.ext' {a b : Mono} (h0 : a.monoCoef = b.monoCoef) (h1 : a.monoAtom = b.monoAtom) : a = b := by
 cases a; cases b; simp_all
theorem Mono.cells_inj (a b : Mono) (h : Mono.cells a = Mono.cells b) : a = b := by
 simp only [Mono.cells_eq, List.cons.injEq, AV.int.injEq, AV.bool.injEq, AV.str.injEq, AV.sl.injEq, true_and, and_true, or_true, map_inj_iff Node.cells_inj] at h
 obtain ⟨e0, e1, e2, e3, e4, e5⟩ := h
 exact (Mono.ext' e0 (Node.ext' e1 e2 e3 e4 e5))
theorem Mono.nz_iff (a b : Mono) : (Mono.cells a).map nzL = (Mono.cells b).map nzL ↔ a = b := by
 refine ⟨fun h => ?_, fun h => by rw [h]⟩
 simp only [Mono.cells_eq, List.map_cons, List.map_nil, nz_int, nz_bool, nz_str, nzL_sl, List.cons.injEq, AV.int.injEq, AV.bool.injEq, AV.str.injEq, AV.sl.injEq, true_and, and_true, or_true, map_inj_iff Node.cells_inj] at h
 obtain ⟨e0, e1, e2, e3, e4, e5⟩ := h
 exact (Mono.ext' e0 (Node.ext' e1 e2 e3 e4 e5))
theorem Mono.wk (a : Mono) : (Mono.cells a).all wkL = true := by
 simp only [Mono.cells_eq, List.all_cons, List.all_nil, wkL, Bool.not_false, Bool.and_self]
def rMono : Rp Mono := rA Mono.cells Mono.nz_iff Mono.wk fun x => by simp only [Mono.cells_eq, allDataL, AV.dataL, Bool.and_self]
@[push_cast] theorem rMono_e (x : Mono) : rMono.e x = .agg (Mono.cells x) := rfl
structure Lin where
 linMonos : List Mono
 linConst : Int
 deriving Inhabited
def Lin.cells (x : Lin) : List AV := [.sl false 6 (List.map Mono.cells x.linMonos), .int .i64 x.linConst]
@[push_cast] theorem Lin.cells_eq (x : Lin) : Lin.cells x = [.sl false 6 (List.map Mono.cells x.linMonos), .int .i64 x.linConst] := rfl
@[push_cast] theorem Lin.eta (n : Lin) : (⟨n.linMonos, n.linConst⟩ : Lin) = n := rfl
theorem Lin.ext' {a b : Lin} (h0 : a.linMonos = b.linMonos) (h1 : a.linConst = b.linConst) : a = b := by
 cases a; cases b; simp_all
theorem Lin.cells_inj (a b : Lin) (h : Lin.cells a = Lin.cells b) : a = b := by
 simp only [Lin.cells_eq, List.cons.injEq, AV.int.injEq, AV.bool.injEq, AV.str.injEq, AV.sl.injEq, true_and, and_true, or_true, map_inj_iff Mono.cells_inj] at h
 obtain ⟨e0, e1⟩ := h
 exact (Lin.ext' e0 e1)
theorem Lin.nz_iff (a b : Lin) : (Lin.cells a).map nzL = (Lin.cells b).map nzL ↔ a = b := by
 refine ⟨fun h => ?_, fun h => by rw [h]⟩
 simp only [Lin.cells_eq, List.map_cons, List.map_nil, nz_int, nz_bool, nz_str, nzL_sl, List.cons.injEq, AV.int.injEq, AV.bool.injEq, AV.str.injEq, AV.sl.injEq, true_and, and_true, or_true, map_inj_iff Mono.cells_inj] at h
 obtain ⟨e0, e1⟩ := h
 exact (Lin.ext' e0 e1)
theorem Lin.wk (a : Lin) : (Lin.cells a).all wkL = true := by
 simp only [Lin.cells_eq, List.all_cons, List.all_nil, wkL, Bool.not_false, Bool.and_self]
def rLin : Rp Lin := rA Lin.cells Lin.nz_iff Lin.wk fun x => by simp only [Lin.cells_eq, allDataL, AV.dataL, Bool.and_self]
@[push_cast] theorem rLin_e (x : Lin) : rLin.e x = .agg (Lin.cells x) := rfl
structure Mult where
 multIndex : Int
 multCoef : Int
 deriving Inhabited
def Mult.cells (x : Mult) : List AV := [.int .i64 x.multIndex, .int .i64 x.multCoef]
@[push_cast] theorem Mult.cells_eq (x : Mult) : Mult.cells x = [.int .i64 x.multIndex, .int .i64 x.multCoef] := rfl
@[push_cast] theorem Mult.eta (n : Mult) : (⟨n.multIndex, n.multCoef⟩ : Mult) = n := rfl
theorem Mult.ext' {a b : Mult} (h0 : a.multIndex = b.multIndex) (h1 : a.multCoef = b.multCoef) : a = b := by
 cases a; cases b; simp_all
theorem Mult.cells_inj (a b : Mult) (h : Mult.cells a = Mult.cells b) : a = b := by
 simp only [Mult.cells_eq, List.cons.injEq, AV.int.injEq, AV.bool.injEq, AV.str.injEq, AV.sl.injEq, true_and, and_true, or_true] at h
 obtain ⟨e0, e1⟩ := h
 exact (Mult.ext' e0 e1)
theorem Mult.nz_iff (a b : Mult) : (Mult.cells a).map nzL = (Mult.cells b).map nzL ↔ a = b := by
 refine ⟨fun h => ?_, fun h => by rw [h]⟩
 simp only [Mult.cells_eq, List.map_cons, List.map_nil, nz_int, nz_bool, nz_str, nzL_sl, List.cons.injEq, AV.int.injEq, AV.bool.injEq, AV.str.injEq, AV.sl.injEq, true_and, and_true, or_true] at h
 obtain ⟨e0, e1⟩ := h
 exact (Mult.ext' e0 e1)
theorem Mult.wk (a : Mult) : (Mult.cells a).all wkL = true := by
 simp only [Mult.cells_eq, List.all_cons, List.all_nil, wkL, Bool.not_false, Bool.and_self]
def rMult : Rp Mult := rA Mult.cells Mult.nz_iff Mult.wk fun x => by simp only [Mult.cells_eq, allDataL, AV.dataL, Bool.and_self]
@[push_cast] theorem rMult_e (x : Mult) : rMult.e x = .agg (Mult.cells x) := rfl
structure Deriv where
 derivSteps : List (List Mult)
 derivSplit : Bool
 derivForm : Lin
 derivKids : List Deriv
 deriving Inhabited
mutual
def Deriv.cells : Deriv → List AV
  | ⟨v0, v1, v2, v3⟩ => [.sl false 1 (List.map (cL 2 Mult.cells) v0), .bool v1, .sl false 6 (List.map Mono.cells v2.linMonos), .int .i64 v2.linConst, .sl false 5 (Deriv.cellsL v3)]
def Deriv.cellsL : List Deriv → List (List AV)
  | [] => []
  | k :: ks => k.cells :: Deriv.cellsL ks
end
theorem Deriv.cellsL_eq : ∀ l : List Deriv, Deriv.cellsL l = List.map Deriv.cells l
 | [] => by simp only [Deriv.cellsL, List.map_nil]
 | k :: ks => by simp only [Deriv.cellsL, List.map_cons, Deriv.cellsL_eq ks]
@[push_cast] theorem Deriv.cells_eq (x : Deriv) : Deriv.cells x = [.sl false 1 (List.map (cL 2 Mult.cells) x.derivSteps), .bool x.derivSplit, .sl false 6 (List.map Mono.cells x.derivForm.linMonos), .int .i64 x.derivForm.linConst, .sl false 5 (List.map Deriv.cells x.derivKids)] := by
 cases x; simp only [Deriv.cells, Deriv.cellsL_eq]
theorem Deriv.ext' {a b : Deriv} (h0 : a.derivSteps = b.derivSteps) (h1 : a.derivSplit = b.derivSplit) (h2 : a.derivForm = b.derivForm) (h3 : a.derivKids = b.derivKids) : a = b := by
 cases a; cases b; simp_all
@[push_cast] theorem Deriv.eta (n : Deriv) : (⟨n.derivSteps, n.derivSplit, n.derivForm, n.derivKids⟩ : Deriv) = n := by cases n; rfl
mutual
theorem Deriv.cells_inj : ∀ (a b : Deriv), Deriv.cells a = Deriv.cells b → a = b
  | ⟨v0, v1, v2, v3⟩, ⟨w0, w1, w2, w3⟩, h => by
    simp only [Deriv.cells, List.cons.injEq, AV.int.injEq, AV.bool.injEq, AV.str.injEq, AV.sl.injEq, true_and, and_true, or_true, map_inj_iff (cL_inj Mult.cells_inj), map_inj_iff Mono.cells_inj] at h
    obtain ⟨e0, e1, e2, e3, e4⟩ := h
    exact (Deriv.ext' e0 e1 (Lin.ext' e2 e3) (Deriv.cellsL_inj _ _ e4))
theorem Deriv.cellsL_inj : ∀ (a b : List Deriv), Deriv.cellsL a = Deriv.cellsL b → a = b
  | [], [], _ => rfl
  | [], _ :: _, h => by simp only [Deriv.cellsL] at h; cases h
  | _ :: _, [], h => by simp only [Deriv.cellsL] at h; cases h
  | k :: ks, k' :: ks', h => by
    simp only [Deriv.cellsL, List.cons.injEq] at h
    rw [Deriv.cells_inj k k' h.1, Deriv.cellsL_inj ks ks' h.2]
end
theorem Deriv.nz_iff (a b : Deriv) : (Deriv.cells a).map nzL = (Deriv.cells b).map nzL ↔ a = b := by
 refine ⟨fun h => ?_, fun h => by rw [h]⟩
 simp only [Deriv.cells_eq, List.map_cons, List.map_nil, nz_int, nz_bool, nz_str, nzL_sl, List.cons.injEq, AV.int.injEq, AV.bool.injEq, AV.str.injEq, AV.sl.injEq, true_and, and_true, or_true, map_inj_iff (cL_inj Mult.cells_inj), map_inj_iff Mono.cells_inj, map_inj_iff Deriv.cells_inj] at h
 obtain ⟨e0, e1, e2, e3, e4⟩ := h
 exact (Deriv.ext' e0 e1 (Lin.ext' e2 e3) (id e4))
theorem Deriv.wk (a : Deriv) : (Deriv.cells a).all wkL = true := by
 simp only [Deriv.cells_eq, List.all_cons, List.all_nil, wkL, Bool.not_false, Bool.and_self]
def rDeriv : Rp Deriv := rA Deriv.cells Deriv.nz_iff Deriv.wk fun x => by simp only [Deriv.cells_eq, allDataL, AV.dataL, Bool.and_self]
@[push_cast] theorem rDeriv_e (x : Deriv) : rDeriv.e x = .agg (Deriv.cells x) := rfl
structure Cert where
 certKind : Int
 certAtom : Node
 certDeriv : Deriv
 certKids : List Cert
 deriving Inhabited
mutual
def Cert.cells : Cert → List AV
  | ⟨v0, v1, v2, v3⟩ => [.int .i64 v0, .int .i64 v1.op, .int .i64 v1.sortf, .str v1.name, .int .i64 v1.num, .sl false 5 (List.map Node.cells v1.kids), .sl false 1 (List.map (cL 2 Mult.cells) v2.derivSteps), .bool v2.derivSplit, .sl false 6 (List.map Mono.cells v2.derivForm.linMonos), .int .i64 v2.derivForm.linConst, .sl false 5 (List.map Deriv.cells v2.derivKids), .sl false 12 (Cert.cellsL v3)]
def Cert.cellsL : List Cert → List (List AV)
  | [] => []
  | k :: ks => k.cells :: Cert.cellsL ks
end
theorem Cert.cellsL_eq : ∀ l : List Cert, Cert.cellsL l = List.map Cert.cells l
 | [] => by simp only [Cert.cellsL, List.map_nil]
 | k :: ks => by simp only [Cert.cellsL, List.map_cons, Cert.cellsL_eq ks]
@[push_cast] theorem Cert.cells_eq (x : Cert) : Cert.cells x = [.int .i64 x.certKind, .int .i64 x.certAtom.op, .int .i64 x.certAtom.sortf, .str x.certAtom.name, .int .i64 x.certAtom.num, .sl false 5 (List.map Node.cells x.certAtom.kids), .sl false 1 (List.map (cL 2 Mult.cells) x.certDeriv.derivSteps), .bool x.certDeriv.derivSplit, .sl false 6 (List.map Mono.cells x.certDeriv.derivForm.linMonos), .int .i64 x.certDeriv.derivForm.linConst, .sl false 5 (List.map Deriv.cells x.certDeriv.derivKids), .sl false 12 (List.map Cert.cells x.certKids)] := by
 cases x; simp only [Cert.cells, Cert.cellsL_eq]
theorem Cert.ext' {a b : Cert} (h0 : a.certKind = b.certKind) (h1 : a.certAtom = b.certAtom) (h2 : a.certDeriv = b.certDeriv) (h3 : a.certKids = b.certKids) : a = b := by
 cases a; cases b; simp_all
@[push_cast] theorem Cert.eta (n : Cert) : (⟨n.certKind, n.certAtom, n.certDeriv, n.certKids⟩ : Cert) = n := by cases n; rfl
mutual
theorem Cert.cells_inj : ∀ (a b : Cert), Cert.cells a = Cert.cells b → a = b
  | ⟨v0, v1, v2, v3⟩, ⟨w0, w1, w2, w3⟩, h => by
    simp only [Cert.cells, List.cons.injEq, AV.int.injEq, AV.bool.injEq, AV.str.injEq, AV.sl.injEq, true_and, and_true, or_true, map_inj_iff (cL_inj Mult.cells_inj), map_inj_iff Deriv.cells_inj, map_inj_iff Mono.cells_inj, map_inj_iff Node.cells_inj] at h
    obtain ⟨e0, e1, e2, e3, e4, e5, e6, e7, e8, e9, e10, e11⟩ := h
    exact (Cert.ext' e0 (Node.ext' e1 e2 e3 e4 e5) (Deriv.ext' e6 e7 (Lin.ext' e8 e9) e10) (Cert.cellsL_inj _ _ e11))
theorem Cert.cellsL_inj : ∀ (a b : List Cert), Cert.cellsL a = Cert.cellsL b → a = b
  | [], [], _ => rfl
  | [], _ :: _, h => by simp only [Cert.cellsL] at h; cases h
  | _ :: _, [], h => by simp only [Cert.cellsL] at h; cases h
  | k :: ks, k' :: ks', h => by
    simp only [Cert.cellsL, List.cons.injEq] at h
    rw [Cert.cells_inj k k' h.1, Cert.cellsL_inj ks ks' h.2]
end
theorem Cert.nz_iff (a b : Cert) : (Cert.cells a).map nzL = (Cert.cells b).map nzL ↔ a = b := by
 refine ⟨fun h => ?_, fun h => by rw [h]⟩
 simp only [Cert.cells_eq, List.map_cons, List.map_nil, nz_int, nz_bool, nz_str, nzL_sl, List.cons.injEq, AV.int.injEq, AV.bool.injEq, AV.str.injEq, AV.sl.injEq, true_and, and_true, or_true, map_inj_iff (cL_inj Mult.cells_inj), map_inj_iff Deriv.cells_inj, map_inj_iff Mono.cells_inj, map_inj_iff Node.cells_inj, map_inj_iff Cert.cells_inj] at h
 obtain ⟨e0, e1, e2, e3, e4, e5, e6, e7, e8, e9, e10, e11⟩ := h
 exact (Cert.ext' e0 (Node.ext' e1 e2 e3 e4 e5) (Deriv.ext' e6 e7 (Lin.ext' e8 e9) e10) (id e11))
theorem Cert.wk (a : Cert) : (Cert.cells a).all wkL = true := by
 simp only [Cert.cells_eq, List.all_cons, List.all_nil, wkL, Bool.not_false, Bool.and_self]
def rCert : Rp Cert := rA Cert.cells Cert.nz_iff Cert.wk fun x => by simp only [Cert.cells_eq, allDataL, AV.dataL, Bool.and_self]
@[push_cast] theorem rCert_e (x : Cert) : rCert.e x = .agg (Cert.cells x) := rfl
structure Decl where
 declName : ByteArray
 declSort : Int
 deriving Inhabited
def Decl.cells (x : Decl) : List AV := [.str x.declName, .int .i64 x.declSort]
@[push_cast] theorem Decl.cells_eq (x : Decl) : Decl.cells x = [.str x.declName, .int .i64 x.declSort] := rfl
@[push_cast] theorem Decl.eta (n : Decl) : (⟨n.declName, n.declSort⟩ : Decl) = n := rfl
theorem Decl.ext' {a b : Decl} (h0 : a.declName = b.declName) (h1 : a.declSort = b.declSort) : a = b := by
 cases a; cases b; simp_all
theorem Decl.cells_inj (a b : Decl) (h : Decl.cells a = Decl.cells b) : a = b := by
 simp only [Decl.cells_eq, List.cons.injEq, AV.int.injEq, AV.bool.injEq, AV.str.injEq, AV.sl.injEq, true_and, and_true, or_true] at h
 obtain ⟨e0, e1⟩ := h
 exact (Decl.ext' e0 e1)
theorem Decl.nz_iff (a b : Decl) : (Decl.cells a).map nzL = (Decl.cells b).map nzL ↔ a = b := by
 refine ⟨fun h => ?_, fun h => by rw [h]⟩
 simp only [Decl.cells_eq, List.map_cons, List.map_nil, nz_int, nz_bool, nz_str, nzL_sl, List.cons.injEq, AV.int.injEq, AV.bool.injEq, AV.str.injEq, AV.sl.injEq, true_and, and_true, or_true] at h
 obtain ⟨e0, e1⟩ := h
 exact (Decl.ext' e0 e1)
theorem Decl.wk (a : Decl) : (Decl.cells a).all wkL = true := by
 simp only [Decl.cells_eq, List.all_cons, List.all_nil, wkL, Bool.not_false, Bool.and_self]
def rDecl : Rp Decl := rA Decl.cells Decl.nz_iff Decl.wk fun x => by simp only [Decl.cells_eq, allDataL, AV.dataL, Bool.and_self]
@[push_cast] theorem rDecl_e (x : Decl) : rDecl.e x = .agg (Decl.cells x) := rfl
end Go.Abs.Try
