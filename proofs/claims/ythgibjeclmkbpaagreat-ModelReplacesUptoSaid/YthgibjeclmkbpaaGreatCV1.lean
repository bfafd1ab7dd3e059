import Derived.Test.YthgibjeclmkbpaaGreatCD
set_option linter.unusedSimpArgs false
set_option linter.unusedVariables false
namespace Go.Abs.Try
open Go.RowKit
set_option maxRecDepth 100000
set_option maxHeartbeats 40000000
attribute [local push_cast] F1036_f1 F1036_s1 F1037_f1 F1037_s1 F1047_f1 F1047_s1 F1053_s1 F1060_f1 F1060_s1 F1062_f1 F1062_s1 F42_f1 F42_s1 Proofs.Tryz.f117 Proofs.Tryz.f118 Proofs.Tryz.f127 Proofs.Tryz.f24 Proofs.Tryz.f27 Proofs.Tryz.f38 Proofs.Tryz.f41 Proofs.Tryz.f46 Proofs.Tryz.f47 Proofs.Tryz.f51 Proofs.Tryz.f60 Proofs.Tryz.f61 Proofs.Tryz.f63 Proofs.Tryz.f87 Proofs.Tryz.f95 Proofs.Tryz.f96 ty121 ty2 ty24 ty3 ty30 ty32 ty4 ty48 ty50 ty9
theorem ev51 {E : Env} {N : Nat} (hB : NB N) (hty : E.ty = tys) (heq : E.eqt = eqts) (h0 : E.n0 = 0) (hal : E.ali = noAli) (g51_70 : Tb E 70 (plain (t70))) (q51_93 : ∀ cs,E.seq (.fn 93 cs) = sq93 cs) (n : Node) :
   bindO (aPure E Proofs.Tryz.f51 H51 N [.agg (Node.cells n)]) (cv sh51) = bindO (F42 n) fun r => some (v51 r) := by
 unfold F42
 rw [r_pure]
 repeat' (first | (with_reducible (first | apply ier | apply ie | apply ienr | apply ien | apply be | apply ber | apply oer | apply oe)) <;> try intro _ | ((with_reducible (first | refine alr ?_ fun _ _ _ _ => ?_ | refine al ?_ fun _ _ _ _ => ?_)); exact rfl) | simp -implicitDefEqProofs only [push_cast,seval, *] | simp only [bindO_assoc])
 rename_i l1; refine rl (S := Unit) e93 (fun (s3 : Unit) => [.var [.int .i64 n.op,.int .i64 n.sortf,.str n.name,.int .i64 n.num,.sl false 5 (List.map Node.cells n.kids)],.var [.bool false]]) l1 () (fun _ _ => ?_) (fun _ => ?_) <;> repeat' (first | (with_reducible (first | apply ier | apply ie | apply ienr | apply ien | apply be | apply ber | apply oer | apply oe)) <;> try intro _ | ((with_reducible (first | refine alr ?_ fun _ _ _ _ => ?_ | refine al ?_ fun _ _ _ _ => ?_)); exact rfl) | simp -implicitDefEqProofs only [push_cast,seval, *] | simp only [bindO_assoc])
theorem ev47 {E : Env} {N : Nat} (hB : NB N) (hty : E.ty = tys) (heq : E.eqt = eqts) (h0 : E.n0 = 0) (hal : E.ali = noAli)  (l : List Int) :
   bindO (aPure E Proofs.Tryz.f47 H47 N [.sl false 1 (List.map (cI .i64) l)]) (cv sh47) = bindO (F1060 N l) fun r => some (v47 r) := by
 unfold F1060
 rw [r_pure]
 repeat' (first | (with_reducible (first | apply ier | apply ie | apply ienr | apply ien | apply be | apply ber | apply oer | apply oe)) <;> try intro _ | ((with_reducible (first | refine alr ?_ fun _ _ _ _ => ?_ | refine al ?_ fun _ _ _ _ => ?_)); exact rfl) | simp -implicitDefEqProofs only [push_cast,seval, *] | simp only [bindO_assoc])
 refine fl (S := Unit) (cI .i64) l (fun (i1 : Nat) (s3 : Unit) => [.sl false 1 (List.map (cI .i64) l),Z,Z,Z,Z,.sl false 1 (List.map (cI .i64) l),.int .i64 (l.length : Int),.int .i64 (i1 : Int),Z,Z,Z,Z,Z,Z,Z,Z,Z,Z,Z,Z,Z,Z,Z,Z,Z,Z,Z,Z,Z,Z,Z,Z,Z,Z,Z]) (fun (_ : Nat) (s3 : Unit) => []) hB () (fun _ _ _ _ _ _ _ _ => ?_) fun _ _ => ?_ <;> repeat' (first | (with_reducible (first | apply ier | apply ie | apply ienr | apply ien | apply be | apply ber | apply oer | apply oe)) <;> try intro _ | ((with_reducible (first | refine alr ?_ fun _ _ _ _ => ?_ | refine al ?_ fun _ _ _ _ => ?_)); exact rfl) | simp -implicitDefEqProofs only [push_cast,seval, *] | simp only [bindO_assoc])
theorem ev27 {E : Env} {N : Nat} (hB : NB N) (hty : E.ty = tys) (heq : E.eqt = eqts) (h0 : E.n0 = 0) (hal : E.ali = noAli) (g27_47 : Tb E 47 (plain (t47 N))) (v : Val) :
   bindO (aPure E Proofs.Tryz.f27 H27 N [.agg (Val.cells v)]) (cv sh27) = bindO (F1047 N v) fun r => some (v27 r) := by
 unfold F1047
 rw [r_pure]
 repeat' (first | (with_reducible (first | apply ier | apply ie | apply ienr | apply ien | apply be | apply ber | apply oer | apply oe)) <;> try intro _ | ((with_reducible (first | refine alr ?_ fun _ _ _ _ => ?_ | refine al ?_ fun _ _ _ _ => ?_)); exact rfl) | simp -implicitDefEqProofs only [push_cast,seval, *] | simp only [bindO_assoc])
 refine fl (S := Unit) (cI .i64) v.valTo (fun (i2 : Nat) (s4 : Unit) => [Z,Z,Z,Z,Z,Z,Z,Z,Z,Z,Z,Z,Z,Z,Z,Z,Z,Z,Z,Z,Z,Z,Z,Z,Z,Z,Z,Z,Z,Z,Z,Z,Z,Z,Z,Z,Z,Z,Z,Z,Z,Z,Z,Z,Z,Z,Z,Z,Z,Z,Z,Z,Z,Z,Z,Z,Z,Z,Z,Z,Z,Z,Z,Z,Z,Z,Z,Z,Z,Z,Z,Z,Z,Z,Z,Z,Z,Z,Z,Z,Z,Z,Z,Z,Z,.sl false 1 (List.map (cI .i64) v.valTo),.int .i64 (v.valTo.length : Int),.int .i64 (i2 : Int),Z,Z,Z,Z,Z,Z,Z,Z,Z,Z,Z,Z,Z,Z]) (fun (_ : Nat) (s4 : Unit) => [.var [.int .i64 v.valSort,.int .i64 v.valNum,.sl false 1 (List.map (cI .i64) v.valSet),.sl false 1 (List.map (cI .i64) v.valAt),.sl false 1 (List.map (cI .i64) v.valTo)]]) hB () (fun _ _ _ _ _ _ _ _ => ?_) fun _ _ => ?_ <;> repeat' (first | (with_reducible (first | apply ier | apply ie | apply ienr | apply ien | apply be | apply ber | apply oer | apply oe)) <;> try intro _ | ((with_reducible (first | refine alr ?_ fun _ _ _ _ => ?_ | refine al ?_ fun _ _ _ _ => ?_)); exact rfl) | simp -implicitDefEqProofs only [push_cast,seval, *] | simp only [bindO_assoc])
theorem ev61 {E : Env} {N : Nat} (hB : NB N) (hty : E.ty = tys) (heq : E.eqt = eqts) (h0 : E.n0 = 0) (hal : E.ali = noAli) (g61_27 : Tb E 27 (plain (t27 N))) (v : Val) :
   bindO (aPure E Proofs.Tryz.f61 H61 N [.agg (Val.cells v)]) (cv sh61) = bindO (F1049 N v) fun r => some (v61 r) := by
 unfold F1049
 rw [r_pure]
 repeat' (first | (with_reducible (first | apply ier | apply ie | apply ienr | apply ien | apply be | apply ber | apply oer | apply oe)) <;> try intro _ | ((with_reducible (first | refine alr ?_ fun _ _ _ _ => ?_ | refine al ?_ fun _ _ _ _ => ?_)); exact rfl) | simp -implicitDefEqProofs only [push_cast,seval, *] | simp only [bindO_assoc])
theorem ev38 {E : Env} {E60 E87 : Nat → Env} {N : Nat} (hB : NB N) (hty : E.ty = tys) (heq : E.eqt = eqts) (h0 : E.n0 = 0) (hal : E.ali = noAli) (g38_59 : Tb E 59 (plain (t59 N))) (g38_27 : Tb E 27 (plain (t27 N))) (g38_60 : Tb E 60 (inl E60 Proofs.Tryz.f60 H60 N)) (hty60 : ∀ n,(E60 n).ty = tys) (heq60 : ∀ n,(E60 n).eqt = eqts) (h060 : ∀ n,(E60 n).n0 = n) (hal60 : ∀ n,(E60 n).ali = noAli) (g60_87 : TbI E60 87 (inl E87 Proofs.Tryz.f87 H87 N)) (hty87 : ∀ n,(E87 n).ty = tys) (heq87 : ∀ n,(E87 n).eqt = eqts) (h087 : ∀ n,(E87 n).n0 = n) (hal87 : ∀ n,(E87 n).ali = noAli) (g87_61 : TbI E87 61 (plain (t61 N))) (e : Entry) :
   bindO (aPure E Proofs.Tryz.f38 H38 N [.agg (Entry.cells e)]) (cv sh38) = bindO (F1036 N e) fun r => some (v38 r) := by
 unfold F1036
 rw [r_pure]
 repeat' (first | (with_reducible (first | apply ier | apply ie | apply ienr | apply ien | apply be | apply ber | apply oer | apply oe)) <;> try intro _ | ((with_reducible (first | refine alr ?_ fun _ _ _ _ => ?_ | refine al ?_ fun _ _ _ _ => ?_)); exact rfl) | simp -implicitDefEqProofs only [push_cast,seval, *] | simp only [bindO_assoc])
 refine fl (S := Unit) Val.cells e.entryArgs (fun (i3 : Nat) (s5 : Unit) => [.sl false 5 (List.map Val.cells e.entryArgs),.fnc 61,Z,Z,Z,Z,Z,.int .i64 (e.entryArgs.length : Int),.int .i64 (i3 : Int),Z,Z,Z,Z,Z,Z,Z,Z,Z,Z]) (fun (_ : Nat) (s5 : Unit) => [.var [.str e.entryName,.sl false 5 (List.map Val.cells e.entryArgs),.int .i64 e.entryVal.valSort,.int .i64 e.entryVal.valNum,.sl false 1 (List.map (cI .i64) e.entryVal.valSet),.sl false 1 (List.map (cI .i64) e.entryVal.valAt),.sl false 1 (List.map (cI .i64) e.entryVal.valTo)]]) hB () (fun _ _ _ _ _ _ _ _ => ?_) fun _ _ => ?_ <;> repeat' (first | (with_reducible (first | apply ier | apply ie | apply ienr | apply ien | apply be | apply ber | apply oer | apply oe)) <;> try intro _ | ((with_reducible (first | refine alr ?_ fun _ _ _ _ => ?_ | refine al ?_ fun _ _ _ _ => ?_)); exact rfl) | simp -implicitDefEqProofs only [push_cast,seval, *] | simp only [bindO_assoc])
theorem ev46 {E : Env} {N : Nat} (hB : NB N) (hty : E.ty = tys) (heq : E.eqt = eqts) (h0 : E.n0 = 0) (hal : E.ali = noAli)  (s1q : List Int) (s2q : List Int) :
   bindO (aPure E Proofs.Tryz.f46 H46 N [.sl false 1 (List.map (cI .i64) s1q),.sl false 1 (List.map (cI .i64) s2q)]) (cv sh46) = bindO (F1062 N s1q s2q) fun r => some (v46 r) := by
 unfold F1062
 rw [r_pure]
 repeat' (first | (with_reducible (first | apply ier | apply ie | apply ienr | apply ien | apply be | apply ber | apply oer | apply oe)) <;> try intro _ | ((with_reducible (first | refine alr ?_ fun _ _ _ _ => ?_ | refine al ?_ fun _ _ _ _ => ?_)); exact rfl) | simp -implicitDefEqProofs only [push_cast,seval, *] | simp only [bindO_assoc])
 refine fl (S := Unit) (cI .i64) s1q (fun (i1 : Nat) (s3 : Unit) => [.sl false 1 (List.map (cI .i64) s1q),.sl false 1 (List.map (cI .i64) s2q),Z,Z,Z,Z,Z,Z,Z,Z,Z,Z,.int .i64 (s1q.length : Int),.int .i64 (i1 : Int),Z,Z,Z,Z,Z,Z,Z,Z,Z,Z,Z,Z]) (fun (_ : Nat) (s3 : Unit) => []) hB () (fun _ _ _ _ _ _ _ _ => ?_) fun _ _ => ?_ <;> repeat' (first | (with_reducible (first | apply ier | apply ie | apply ienr | apply ien | apply be | apply ber | apply oer | apply oe)) <;> try intro _ | ((with_reducible (first | refine alr ?_ fun _ _ _ _ => ?_ | refine al ?_ fun _ _ _ _ => ?_)); exact rfl) | simp -implicitDefEqProofs only [push_cast,seval, *] | simp only [bindO_assoc])
theorem ev24 {E : Env} {N : Nat} (hB : NB N) (hty : E.ty = tys) (heq : E.eqt = eqts) (h0 : E.n0 = 0) (hal : E.ali = noAli) (g24_46 : Tb E 46 (plain (t46 N))) (a : Val) (b : Val) :
   bindO (aPure E Proofs.Tryz.f24 H24 N [.agg (Val.cells a),.agg (Val.cells b)]) (cv sh24) = bindO (F1051 N a b) fun r => some (v24 r) := by
 unfold F1051
 rw [r_pure]
 repeat' (first | (with_reducible (first | apply ier | apply ie | apply ienr | apply ien | apply be | apply ber | apply oer | apply oe)) <;> try intro _ | ((with_reducible (first | refine alr ?_ fun _ _ _ _ => ?_ | refine al ?_ fun _ _ _ _ => ?_)); exact rfl) | simp -implicitDefEqProofs only [push_cast,seval, *] | simp only [bindO_assoc])
theorem ev41 {E : Env} {E63 : Nat → Env} {N : Nat} (hB : NB N) (hty : E.ty = tys) (heq : E.eqt = eqts) (h0 : E.n0 = 0) (hal : E.ali = noAli) (g41_63 : Tb E 63 (inl E63 Proofs.Tryz.f63 H63 N)) (hty63 : ∀ n,(E63 n).ty = tys) (heq63 : ∀ n,(E63 n).eqt = eqts) (h063 : ∀ n,(E63 n).n0 = n) (hal63 : ∀ n,(E63 n).ali = noAli) (g63_24 : TbI E63 24 (plain (t24 N))) (a : Entry) (b : Entry) :
   bindO (aPure E Proofs.Tryz.f41 H41 N [.agg (Entry.cells a),.agg (Entry.cells b)]) (cv sh41) = bindO (F1037 N a b) fun r => some (v41 r) := by
 unfold F1037
 rw [r_pure]
 repeat' (first | (with_reducible (first | apply ier | apply ie | apply ienr | apply ien | apply be | apply ber | apply oer | apply oe)) <;> try intro _ | ((with_reducible (first | refine alr ?_ fun _ _ _ _ => ?_ | refine al ?_ fun _ _ _ _ => ?_)); exact rfl) | simp -implicitDefEqProofs only [push_cast,seval, *] | simp only [bindO_assoc])
 refine fl (S := Unit) Val.cells a.entryArgs (fun (i1 : Nat) (s3 : Unit) => [Z,.sl false 5 (List.map Val.cells b.entryArgs),.fnc 24,Z,Z,Z,Z,Z,Z,Z,Z,Z,Z,Z,Z,.sl false 5 (List.map Val.cells a.entryArgs),.int .i64 (a.entryArgs.length : Int),.int .i64 (i1 : Int),Z,Z,Z,Z,Z,Z,Z,Z,Z,Z,Z,Z,Z,Z]) (fun (_ : Nat) (s3 : Unit) => [.var [.str a.entryName,.sl false 5 (List.map Val.cells a.entryArgs),.int .i64 a.entryVal.valSort,.int .i64 a.entryVal.valNum,.sl false 1 (List.map (cI .i64) a.entryVal.valSet),.sl false 1 (List.map (cI .i64) a.entryVal.valAt),.sl false 1 (List.map (cI .i64) a.entryVal.valTo)],.var [.str b.entryName,.sl false 5 (List.map Val.cells b.entryArgs),.int .i64 b.entryVal.valSort,.int .i64 b.entryVal.valNum,.sl false 1 (List.map (cI .i64) b.entryVal.valSet),.sl false 1 (List.map (cI .i64) b.entryVal.valAt),.sl false 1 (List.map (cI .i64) b.entryVal.valTo)]]) hB () (fun _ _ _ _ _ _ _ _ => ?_) fun _ _ => ?_ <;> repeat' (first | (with_reducible (first | apply ier | apply ie | apply ienr | apply ien | apply be | apply ber | apply oer | apply oe)) <;> try intro _ | ((with_reducible (first | refine alr ?_ fun _ _ _ _ => ?_ | refine al ?_ fun _ _ _ _ => ?_)); exact rfl) | simp -implicitDefEqProofs only [push_cast,seval, *] | simp only [bindO_assoc])
theorem ev95 {E : Env} {N : Nat} (hB : NB N) (hty : E.ty = tys) (heq : E.eqt = eqts) (h0 : E.n0 = 0) (hal : E.ali = noAli)  (a : Int) :
   bindO (aPure E Proofs.Tryz.f95 H95 N [.int .i64 a]) (cv sh95) = bindO (F1052 a) fun r => some (v95 r) := by
 unfold F1052
 rw [r_pure]
 repeat' (first | (with_reducible (first | apply ier | apply ie | apply ienr | apply ien | apply be | apply ber | apply oer | apply oe)) <;> try intro _ | ((with_reducible (first | refine alr ?_ fun _ _ _ _ => ?_ | refine al ?_ fun _ _ _ _ => ?_)); exact rfl) | simp -implicitDefEqProofs only [push_cast,seval, *] | simp only [bindO_assoc])
theorem ev127 {E : Env} {N : Nat} (hB : NB N) (hty : E.ty = tys) (heq : E.eqt = eqts) (h0 : E.n0 = 0) (hal : E.ali = noAli)  (x : Int) :
   bindO (aPure E Proofs.Tryz.f127 H127 N [.int .i64 x]) (cv sh127) = bindO (F1070 x) fun r => some (v127 r) := by
 unfold F1070
 rw [r_pure]
 repeat' (first | (with_reducible (first | apply ier | apply ie | apply ienr | apply ien | apply be | apply ber | apply oer | apply oe)) <;> try intro _ | ((with_reducible (first | refine alr ?_ fun _ _ _ _ => ?_ | refine al ?_ fun _ _ _ _ => ?_)); exact rfl) | simp -implicitDefEqProofs only [push_cast,seval, *] | simp only [bindO_assoc])
theorem ev117 {E : Env} {N : Nat} (hB : NB N) (hty : E.ty = tys) (heq : E.eqt = eqts) (h0 : E.n0 = 0) (hal : E.ali = noAli) (g117_127 : Tb E 127 (plain (t127))) (x : Int) (y : Int) :
   bindO (aPure E Proofs.Tryz.f117 H117 N [.int .i64 x,.int .i64 y]) (cv sh117) = bindO (F1063 x y) fun r => some (v117 r) := by
 unfold F1063
 rw [r_pure]
 repeat' (first | (with_reducible (first | apply ier | apply ie | apply ienr | apply ien | apply be | apply ber | apply oer | apply oe)) <;> try intro _ | ((with_reducible (first | refine alr ?_ fun _ _ _ _ => ?_ | refine al ?_ fun _ _ _ _ => ?_)); exact rfl) | simp -implicitDefEqProofs only [push_cast,seval, *] | simp only [bindO_assoc])
theorem ev118 {E : Env} {N : Nat} (hB : NB N) (hty : E.ty = tys) (heq : E.eqt = eqts) (h0 : E.n0 = 0) (hal : E.ali = noAli)  (x : Int) :
   bindO (aPure E Proofs.Tryz.f118 H118 N [.int .i64 x]) (cv sh118) = bindO (F1064 x) fun r => some (v118 r) := by
 unfold F1064
 rw [r_pure]
 repeat' (first | (with_reducible (first | apply ier | apply ie | apply ienr | apply ien | apply be | apply ber | apply oer | apply oe)) <;> try intro _ | ((with_reducible (first | refine alr ?_ fun _ _ _ _ => ?_ | refine al ?_ fun _ _ _ _ => ?_)); exact rfl) | simp -implicitDefEqProofs only [push_cast,seval, *] | simp only [bindO_assoc])
theorem ev96 {E : Env} {N : Nat} (hB : NB N) (hty : E.ty = tys) (heq : E.eqt = eqts) (h0 : E.n0 = 0) (hal : E.ali = noAli) (g96_117 : Tb E 117 (plain (t117))) (g96_118 : Tb E 118 (plain (t118))) (x : List Int) (target : Int) :
   bindO (aPure E Proofs.Tryz.f96 H96 N [.sl false 1 (List.map (cI .i64) x),.int .i64 target]) (cv sh96) = bindO (F1053 N x target) fun r => some (v96 r) := by
 unfold F1053
 rw [r_pure]
 repeat' (first | (with_reducible (first | apply ier | apply ie | apply ienr | apply ien | apply be | apply ber | apply oer | apply oe)) <;> try intro _ | ((with_reducible (first | refine alr ?_ fun _ _ _ _ => ?_ | refine al ?_ fun _ _ _ _ => ?_)); exact rfl) | simp -implicitDefEqProofs only [push_cast,seval, *] | simp only [bindO_assoc])
 refine wl (S := Int × Int) (fun (s1 : Int × Int) => [.sl false 1 (List.map (cI .i64) x),.int .i64 target,Z,Z,Z,Z,.int .i64 (x.length : Int),.int .i64 s1.1,.int .i64 s1.2,Z,Z,Z,Z,Z,Z,Z,Z,Z,Z,Z,Z,Z,Z,Z,Z,Z,Z,Z,Z,Z,Z,Z,Z,Z,Z,Z,Z,Z,Z,Z,Z,Z,Z,Z,Z,Z,Z,Z,Z,Z,Z,Z,Z,Z]) (fun (s1 : Int × Int) => []) (0,(x.length : Int)) (fun _ => ?_) <;> repeat' (first | (with_reducible (first | apply ier | apply ie | apply ienr | apply ien | apply be | apply ber | apply oer | apply oe)) <;> try intro _ | ((with_reducible (first | refine alr ?_ fun _ _ _ _ => ?_ | refine al ?_ fun _ _ _ _ => ?_)); exact rfl) | simp -implicitDefEqProofs only [push_cast,seval, *] | simp only [bindO_assoc])
end Go.Abs.Try
