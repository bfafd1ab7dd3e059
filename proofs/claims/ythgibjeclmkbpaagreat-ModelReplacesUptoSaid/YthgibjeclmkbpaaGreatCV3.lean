import Derived.Test.YthgibjeclmkbpaaGreatCD
set_option linter.unusedSimpArgs false
set_option linter.unusedVariables false
namespace Go.Abs.Try
open Go.RowKit
set_option maxRecDepth 100000
set_option maxHeartbeats 40000000
attribute [local push_cast] F1028_f1 F1028_s1 F1030_f1 F1030_s1 F140_f1 F140_s1 F17_s1 F27_f1 F27_s1 F76_f1 F76_s1 F95_f1 F95_f2 F95_s1 F95_s2 Proofs.Tryz.f14 Proofs.Tryz.f20 Proofs.Tryz.f30 Proofs.Tryz.f33 Proofs.Tryz.f34 Proofs.Tryz.f35 Proofs.Tryz.f36 Proofs.Tryz.f40 Proofs.Tryz.f43 Proofs.Tryz.f56 Proofs.Tryz.f57 Proofs.Tryz.f6 Proofs.Tryz.f7 Proofs.Tryz.f8 Proofs.Tryz.f84 Proofs.Tryz.f9 ty2 ty22 ty24 ty26 ty3 ty30 ty32 ty4 ty41 ty44 ty48 ty50 ty63 ty76 ty9
theorem ev30 {E : Env} {E40 : Nat → Env} {N : Nat} (hB : NB N) (hty : E.ty = tys) (heq : E.eqt = eqts) (h0 : E.n0 = 0) (hal : E.ali = noAli) (g30_50 : Tb E 50 (plain (t50 N))) (g30_51 : Tb E 51 (plain (t51))) (g30_25 : Tb E 25 (plain (t25 N))) (g30_52 : Tb E 52 (lensRun 1 [.keep,.keep] (t2000 N))) (g30_40 : Tb E 40 (inl E40 Proofs.Tryz.f40 H40 N)) (hty40 : ∀ n,(E40 n).ty = tys) (heq40 : ∀ n,(E40 n).eqt = eqts) (h040 : ∀ n,(E40 n).n0 = n) (hal40 : ∀ n,(E40 n).ali = ali40) (g40_62 : TbI E40 62 (cloneT 1 8)) (n : Node) (m : List Entry) (sortq : Int) :
   bindO (aPure E Proofs.Tryz.f30 H30 N [.agg (Node.cells n),.sl false 7 (List.map Entry.cells m),.int .i64 sortq]) (cv sh30) = bindO (F1031 N n m sortq) fun r => some (v30 r) := by
 unfold F1031
 rw [r_pure]
 repeat' (first | (with_reducible (first | apply ier | apply ie | apply ienr | apply ien | apply be | apply ber | apply oer | apply oe)) <;> try intro _ | ((with_reducible (first | refine alr ?_ fun _ _ _ _ => ?_ | refine al ?_ fun _ _ _ _ => ?_)); exact rfl) | simp -implicitDefEqProofs only [push_cast,seval, *] | simp only [bindO_assoc])
theorem ev9 {E : Env} {N : Nat} (hB : NB N) (hty : E.ty = tys) (heq : E.eqt = eqts) (h0 : E.n0 = 0) (hal : E.ali = noAli) (g9_30 : Tb E 30 (plain (t30 N))) (n : Node) (m : List Entry) :
   bindO (aPure E Proofs.Tryz.f9 H9 N [.agg (Node.cells n),.sl false 7 (List.map Entry.cells m)]) (cv sh9) = bindO (F1029 N n m) fun r => some (v9 r) := by
 unfold F1029
 rw [r_pure]
 repeat' (first | (with_reducible (first | apply ier | apply ie | apply ienr | apply ien | apply be | apply ber | apply oer | apply oe)) <;> try intro _ | ((with_reducible (first | refine alr ?_ fun _ _ _ _ => ?_ | refine al ?_ fun _ _ _ _ => ?_)); exact rfl) | simp -implicitDefEqProofs only [push_cast,seval, *] | simp only [bindO_assoc])
theorem ev6 {E : Env} {N : Nat} (hB : NB N) (hty : E.ty = tys) (heq : E.eqt = eqts) (h0 : E.n0 = 0) (hal : E.ali = noAli) (g6_9 : Tb E 9 (plain (t9 N)))  :
   bindO (aPure E Proofs.Tryz.f6 H6 N []) (cv sh6) = bindO (F1027 N) fun r => some (v6 r) := by
 unfold F1027
 rw [r_pure]
 repeat' (first | (with_reducible (first | apply ier | apply ie | apply ienr | apply ien | apply be | apply ber | apply oer | apply oe)) <;> try intro _ | ((with_reducible (first | refine alr ?_ fun _ _ _ _ => ?_ | refine al ?_ fun _ _ _ _ => ?_)); exact rfl) | simp -implicitDefEqProofs only [push_cast,seval, *] | simp only [bindO_assoc])
theorem ev7 {E : Env} {N : Nat} (hB : NB N) (self7 : Node → Option (Int)) (hty : E.ty = tys) (heq : E.eqt = eqts) (h0 : E.n0 = 0) (hal : E.ali = noAli) (g7_7 : Tb E 7 (plain (ts7 self7))) (n : Node) :
   bindO (aPure E Proofs.Tryz.f7 H7 N [.agg (Node.cells n)]) (cv sh7) = bindO (F27b self7 N n) fun r => some (v7 r) := by
 unfold F27b
 rw [r_pure]
 repeat' (first | (with_reducible (first | apply ier | apply ie | apply ienr | apply ien | apply be | apply ber | apply oer | apply oe)) <;> try intro _ | ((with_reducible (first | refine alr ?_ fun _ _ _ _ => ?_ | refine al ?_ fun _ _ _ _ => ?_)); exact rfl) | simp -implicitDefEqProofs only [push_cast,seval, *] | simp only [bindO_assoc])
 refine fl (S := Int) Node.cells n.kids (fun (i1 : Nat) (s3 : Int) => [Z,Z,Z,.int .i64 s3,Z,Z,Z,.sl false 5 (List.map Node.cells n.kids),.int .i64 (n.kids.length : Int),.int .i64 (i1 : Int),Z,Z,Z,Z,Z,Z,Z,Z,Z]) (fun (_ : Nat) (s3 : Int) => [.var [.int .i64 n.op,.int .i64 n.sortf,.str n.name,.int .i64 n.num,.sl false 5 (List.map Node.cells n.kids)]]) hB 1 (fun _ _ _ _ _ _ _ _ => ?_) fun _ _ => ?_ <;> repeat' (first | (with_reducible (first | apply ier | apply ie | apply ienr | apply ien | apply be | apply ber | apply oer | apply oe)) <;> try intro _ | ((with_reducible (first | refine alr ?_ fun _ _ _ _ => ?_ | refine al ?_ fun _ _ _ _ => ?_)); exact rfl) | simp -implicitDefEqProofs only [push_cast,seval, *] | simp only [bindO_assoc])
theorem ev43 {E : Env} {N : Nat} (hB : NB N) (hty : E.ty = tys) (heq : E.eqt = eqts) (h0 : E.n0 = 0) (hal : E.ali = noAli)  (v : Val) :
   bindO (aPure E Proofs.Tryz.f43 H43 N [.agg (Val.cells v)]) (cv sh43) = bindO (F1032 v) fun r => some (v43 r) := by
 unfold F1032
 rw [r_pure]
 repeat' (first | (with_reducible (first | apply ier | apply ie | apply ienr | apply ien | apply be | apply ber | apply oer | apply oe)) <;> try intro _ | ((with_reducible (first | refine alr ?_ fun _ _ _ _ => ?_ | refine al ?_ fun _ _ _ _ => ?_)); exact rfl) | simp -implicitDefEqProofs only [push_cast,seval, *] | simp only [bindO_assoc])
theorem ev20 {E : Env} {N : Nat} (hB : NB N) (hty : E.ty = tys) (heq : E.eqt = eqts) (h0 : E.n0 = 0) (hal : E.ali = noAli) (g20_43 : Tb E 43 (plain (t43))) (e : Entry) :
   bindO (aPure E Proofs.Tryz.f20 H20 N [.agg (Entry.cells e)]) (cv sh20) = bindO (F1030 N e) fun r => some (v20 r) := by
 unfold F1030
 rw [r_pure]
 repeat' (first | (with_reducible (first | apply ier | apply ie | apply ienr | apply ien | apply be | apply ber | apply oer | apply oe)) <;> try intro _ | ((with_reducible (first | refine alr ?_ fun _ _ _ _ => ?_ | refine al ?_ fun _ _ _ _ => ?_)); exact rfl) | simp -implicitDefEqProofs only [push_cast,seval, *] | simp only [bindO_assoc])
 refine fl (S := Unit) Val.cells e.entryArgs (fun (i2 : Nat) (s4 : Unit) => [Z,Z,Z,Z,Z,Z,Z,Z,Z,Z,Z,Z,Z,Z,Z,Z,.sl false 5 (List.map Val.cells e.entryArgs),.int .i64 (e.entryArgs.length : Int),.int .i64 (i2 : Int),Z,Z,Z,Z,Z,Z,Z]) (fun (_ : Nat) (s4 : Unit) => [.var [.str e.entryName,.sl false 5 (List.map Val.cells e.entryArgs),.int .i64 e.entryVal.valSort,.int .i64 e.entryVal.valNum,.sl false 1 (List.map (cI .i64) e.entryVal.valSet),.sl false 1 (List.map (cI .i64) e.entryVal.valAt),.sl false 1 (List.map (cI .i64) e.entryVal.valTo)]]) hB () (fun _ _ _ _ _ _ _ _ => ?_) fun _ _ => ?_ <;> repeat' (first | (with_reducible (first | apply ier | apply ie | apply ienr | apply ien | apply be | apply ber | apply oer | apply oe)) <;> try intro _ | ((with_reducible (first | refine alr ?_ fun _ _ _ _ => ?_ | refine al ?_ fun _ _ _ _ => ?_)); exact rfl) | simp -implicitDefEqProofs only [push_cast,seval, *] | simp only [bindO_assoc])
theorem ev8 {E : Env} {N : Nat} (hB : NB N) (hty : E.ty = tys) (heq : E.eqt = eqts) (h0 : E.n0 = 0) (hal : E.ali = noAli) (g8_20 : Tb E 20 (plain (t20 N))) (m : List Entry) :
   bindO (aPure E Proofs.Tryz.f8 H8 N [.sl false 7 (List.map Entry.cells m)]) (cv sh8) = bindO (F1028 N m) fun r => some (v8 r) := by
 unfold F1028
 rw [r_pure]
 repeat' (first | (with_reducible (first | apply ier | apply ie | apply ienr | apply ien | apply be | apply ber | apply oer | apply oe)) <;> try intro _ | ((with_reducible (first | refine alr ?_ fun _ _ _ _ => ?_ | refine al ?_ fun _ _ _ _ => ?_)); exact rfl) | simp -implicitDefEqProofs only [push_cast,seval, *] | simp only [bindO_assoc])
 refine fl (S := Unit) Entry.cells m (fun (i1 : Nat) (s3 : Unit) => [Z,Z,Z,Z,Z,Z,Z,Z,.sl false 7 (List.map Entry.cells m),.int .i64 (m.length : Int),.int .i64 (i1 : Int),Z,Z,Z,Z,Z,Z,Z]) (fun (_ : Nat) (s3 : Unit) => []) hB () (fun _ _ _ _ _ _ _ _ => ?_) fun _ _ => ?_ <;> repeat' (first | (with_reducible (first | apply ier | apply ie | apply ienr | apply ien | apply be | apply ber | apply oer | apply oe)) <;> try intro _ | ((with_reducible (first | refine alr ?_ fun _ _ _ _ => ?_ | refine al ?_ fun _ _ _ _ => ?_)); exact rfl) | simp -implicitDefEqProofs only [push_cast,seval, *] | simp only [bindO_assoc])
theorem ev33 {E : Env} {N : Nat} (hB : NB N) (hty : E.ty = tys) (heq : E.eqt = eqts) (h0 : E.n0 = 0) (hal : E.ali = noAli)  (c : Int) :
   bindO (aPure E Proofs.Tryz.f33 H33 N [.int .u8 c]) (cv sh33) = bindO (F75 c) fun r => some (v33 r) := by
 unfold F75
 rw [r_pure]
 repeat' (first | (with_reducible (first | apply ier | apply ie | apply ienr | apply ien | apply be | apply ber | apply oer | apply oe)) <;> try intro _ | ((with_reducible (first | refine alr ?_ fun _ _ _ _ => ?_ | refine al ?_ fun _ _ _ _ => ?_)); exact rfl) | simp -implicitDefEqProofs only [push_cast,seval, *] | simp only [bindO_assoc])
theorem ev56 {E : Env} {N : Nat} (hB : NB N) (hty : E.ty = tys) (heq : E.eqt = eqts) (h0 : E.n0 = 0) (hal : E.ali = noAli)   :
   bindO (aPure E Proofs.Tryz.f56 H56 N []) (cv sh56) = bindO (F121) fun r => some (v56 r) := by
 unfold F121
 rw [r_pure]
 repeat' (first | (with_reducible (first | apply ier | apply ie | apply ienr | apply ien | apply be | apply ber | apply oer | apply oe)) <;> try intro _ | ((with_reducible (first | refine alr ?_ fun _ _ _ _ => ?_ | refine al ?_ fun _ _ _ _ => ?_)); exact rfl) | simp -implicitDefEqProofs only [push_cast,seval, *] | simp only [bindO_assoc])
theorem ev34 {E : Env} {N : Nat} (hB : NB N) (hty : E.ty = tys) (heq : E.eqt = eqts) (h0 : E.n0 = 0) (hal : E.ali = noAli) (g34_56 : Tb E 56 (plain (t56))) (s : ByteArray) :
   bindO (aPure E Proofs.Tryz.f34 H34 N [.str s]) (cv sh34) = bindO (F76 N s) fun r => some (v34 r) := by
 unfold F76
 rw [r_pure]
 repeat' (first | (with_reducible (first | apply ier | apply ie | apply ienr | apply ien | apply be | apply ber | apply oer | apply oe)) <;> try intro _ | ((with_reducible (first | refine alr ?_ fun _ _ _ _ => ?_ | refine al ?_ fun _ _ _ _ => ?_)); exact rfl) | simp -implicitDefEqProofs only [push_cast,seval, *] | simp only [bindO_assoc])
 rename_i r1; refine fl (S := Unit) cS r1 (fun (i2 : Nat) (s4 : Unit) => [.str s,Z,Z,Z,Z,.sl false 1 (List.map cS r1),.int .i64 (r1.length : Int),.int .i64 (i2 : Int),Z,Z,Z,Z,Z,Z,Z]) (fun (_ : Nat) (s4 : Unit) => []) hB () (fun _ _ _ _ _ _ _ _ => ?_) fun _ _ => ?_ <;> repeat' (first | (with_reducible (first | apply ier | apply ie | apply ienr | apply ien | apply be | apply ber | apply oer | apply oe)) <;> try intro _ | ((with_reducible (first | refine alr ?_ fun _ _ _ _ => ?_ | refine al ?_ fun _ _ _ _ => ?_)); exact rfl) | simp -implicitDefEqProofs only [push_cast,seval, *] | simp only [bindO_assoc])
theorem ev35 {E : Env} {N : Nat} (hB : NB N) (hty : E.ty = tys) (heq : E.eqt = eqts) (h0 : E.n0 = 0) (hal : E.ali = noAli)  (c : Int) :
   bindO (aPure E Proofs.Tryz.f35 H35 N [.int .u8 c]) (cv sh35) = bindO (F77 c) fun r => some (v35 r) := by
 unfold F77
 rw [r_pure]
 repeat' (first | (with_reducible (first | apply ier | apply ie | apply ienr | apply ien | apply be | apply ber | apply oer | apply oe)) <;> try intro _ | ((with_reducible (first | refine alr ?_ fun _ _ _ _ => ?_ | refine al ?_ fun _ _ _ _ => ?_)); exact rfl) | simp -implicitDefEqProofs only [push_cast,seval, *] | simp only [bindO_assoc])
theorem ev14 {E : Env} {N : Nat} (hB : NB N) (hty : E.ty = tys) (heq : E.eqt = eqts) (h0 : E.n0 = 0) (hal : E.ali = noAli) (g14_33 : Tb E 33 (plain (t33))) (g14_34 : Tb E 34 (plain (t34 N))) (g14_35 : Tb E 35 (plain (t35))) (s : ByteArray) :
   bindO (aPure E Proofs.Tryz.f14 H14 N [.str s]) (cv sh14) = bindO (F17 N s) fun r => some (v14 r) := by
 unfold F17
 rw [r_pure]
 repeat' (first | (with_reducible (first | apply ier | apply ie | apply ienr | apply ien | apply be | apply ber | apply oer | apply oe)) <;> try intro _ | ((with_reducible (first | refine alr ?_ fun _ _ _ _ => ?_ | refine al ?_ fun _ _ _ _ => ?_)); exact rfl) | simp -implicitDefEqProofs only [push_cast,seval, *] | simp only [bindO_assoc])
 refine wl (S := Int) (fun (s3 : Int) => [.str s,Z,Z,.int .i64 s3,Z,Z,Z,Z,Z,Z,Z,Z,Z,Z,Z,Z,Z,Z,Z,Z,Z,Z,Z,Z,Z,Z,Z,Z,Z,Z,Z,Z,Z,Z,Z,Z,Z,Z,Z,Z,Z,Z,Z,Z,Z,Z]) (fun (s3 : Int) => []) 1 (fun _ => ?_) <;> repeat' (first | (with_reducible (first | apply ier | apply ie | apply ienr | apply ien | apply be | apply ber | apply oer | apply oe)) <;> try intro _ | ((with_reducible (first | refine alr ?_ fun _ _ _ _ => ?_ | refine al ?_ fun _ _ _ _ => ?_)); exact rfl) | simp -implicitDefEqProofs only [push_cast,seval, *] | simp only [bindO_assoc])
theorem ev84 {E : Env} {N : Nat} (hB : NB N) (hty : E.ty = tys) (heq : E.eqt = eqts) (h0 : E.n0 = 0) (hal : E.ali = noAli)  (a : Decl) (b : Decl) :
   bindO (aPure E Proofs.Tryz.f84 H84 N [.agg (Decl.cells a),.agg (Decl.cells b)]) (cv sh84) = bindO (F168 a b) fun r => some (v84 r) := by
 unfold F168
 rw [r_pure]
 repeat' (first | (with_reducible (first | apply ier | apply ie | apply ienr | apply ien | apply be | apply ber | apply oer | apply oe)) <;> try intro _ | ((with_reducible (first | refine alr ?_ fun _ _ _ _ => ?_ | refine al ?_ fun _ _ _ _ => ?_)); exact rfl) | simp -implicitDefEqProofs only [push_cast,seval, *] | simp only [bindO_assoc])
theorem ev57 {E : Env} {N : Nat} (hB : NB N) (hty : E.ty = tys) (heq : E.eqt = eqts) (h0 : E.n0 = 0) (hal : E.ali = noAli) (g57_84 : Tb E 84 (plain (t84))) (l : List Decl) (d : Decl) :
   bindO (aPure E Proofs.Tryz.f57 H57 N [.sl false 2 (List.map Decl.cells l),.agg (Decl.cells d)]) (cv sh57) = bindO (F140 N l d) fun r => some (v57 r) := by
 unfold F140
 rw [r_pure]
 repeat' (first | (with_reducible (first | apply ier | apply ie | apply ienr | apply ien | apply be | apply ber | apply oer | apply oe)) <;> try intro _ | ((with_reducible (first | refine alr ?_ fun _ _ _ _ => ?_ | refine al ?_ fun _ _ _ _ => ?_)); exact rfl) | simp -implicitDefEqProofs only [push_cast,seval, *] | simp only [bindO_assoc])
 refine fl (S := (List Decl) × Bool) Decl.cells l (fun (i1 : Nat) (s3 : (List Decl) × Bool) => [Z,Z,Z,.ptr 0 0,Z,.rs 2 0,.bool s3.2,Z,Z,.sl false 2 (List.map Decl.cells l),.int .i64 (l.length : Int),.int .i64 (i1 : Int),Z,Z,Z,Z,Z,Z,Z,Z,Z,Z,Z,Z,Z,Z,Z,Z,Z,Z,Z,Z,Z,Z,Z,Z,Z,Z,Z,Z,Z]) (fun (_ : Nat) (s3 : (List Decl) × Bool) => [.var [.str d.declName,.int .i64 d.declSort],.row 2 0 [],.row 2 0 (List.map Decl.cells s3.1)]) hB ([],false) (fun _ _ _ _ _ _ _ _ => ?_) fun _ _ => ?_ <;> repeat' (first | (with_reducible (first | apply ier | apply ie | apply ienr | apply ien | apply be | apply ber | apply oer | apply oe)) <;> try intro _ | ((with_reducible (first | refine alr ?_ fun _ _ _ _ => ?_ | refine al ?_ fun _ _ _ _ => ?_)); exact rfl) | simp -implicitDefEqProofs only [push_cast,seval, *] | simp only [bindO_assoc])
theorem ev36 {E : Env} {N : Nat} (hB : NB N) (self36 : (List Decl) → Node → Option (List Decl)) (hty : E.ty = tys) (heq : E.eqt = eqts) (h0 : E.n0 = 0) (hal : E.ali = noAli) (g36_57 : Tb E 57 (plain (t57 N))) (g36_36 : Tb E 36 (plain (ts36 self36))) (l : List Decl) (n : Node) :
   bindO (aPure E Proofs.Tryz.f36 H36 N [.sl false 2 (List.map Decl.cells l),.agg (Node.cells n)]) (cv sh36) = bindO (F95b self36 N l n) fun r => some (v36 r) := by
 unfold F95b
 rw [r_pure]
 repeat' (first | (with_reducible (first | apply ier | apply ie | apply ienr | apply ien | apply be | apply ber | apply oer | apply oe)) <;> try intro _ | ((with_reducible (first | refine alr ?_ fun _ _ _ _ => ?_ | refine al ?_ fun _ _ _ _ => ?_)); exact rfl) | simp -implicitDefEqProofs only [push_cast,seval, *] | simp only [bindO_assoc])
 rename_i r1; refine fl (S := List Decl) Node.cells n.kids (fun (i2 : Nat) (s4 : List Decl) => [.sl false 2 (List.map Decl.cells s4),Z,Z,Z,Z,Z,Z,Z,Z,Z,Z,Z,Z,Z,Z,Z,Z,Z,.sl false 5 (List.map Node.cells n.kids),.int .i64 (n.kids.length : Int),.int .i64 (i2 : Int),Z,Z,Z,Z,Z,Z,Z,Z]) (fun (_ : Nat) (s4 : List Decl) => [.var [.int .i64 n.op,.int .i64 n.sortf,.str n.name,.int .i64 n.num,.sl false 5 (List.map Node.cells n.kids)],.row 2 0 []]) hB r1 (fun _ _ _ _ _ _ _ _ => ?_) fun _ _ => ?_ <;> repeat' (first | (with_reducible (first | apply ier | apply ie | apply ienr | apply ien | apply be | apply ber | apply oer | apply oe)) <;> try intro _ | ((with_reducible (first | refine alr ?_ fun _ _ _ _ => ?_ | refine al ?_ fun _ _ _ _ => ?_)); exact rfl) | simp -implicitDefEqProofs only [push_cast,seval, *] | simp only [bindO_assoc])
 refine fl (S := List Decl) Node.cells n.kids (fun (i6 : Nat) (s8 : List Decl) => [.sl false 2 (List.map Decl.cells s8),Z,Z,Z,Z,Z,Z,Z,Z,Z,Z,Z,Z,Z,Z,Z,Z,Z,.sl false 5 (List.map Node.cells n.kids),.int .i64 (n.kids.length : Int),.int .i64 (i6 : Int),Z,Z,Z,Z,Z,Z,Z,Z]) (fun (_ : Nat) (s8 : List Decl) => [.var [.int .i64 n.op,.int .i64 n.sortf,.str n.name,.int .i64 n.num,.sl false 5 (List.map Node.cells n.kids)],.row 2 0 []]) hB l (fun _ _ _ _ _ _ _ _ => ?_) fun _ _ => ?_ <;> repeat' (first | (with_reducible (first | apply ier | apply ie | apply ienr | apply ien | apply be | apply ber | apply oer | apply oe)) <;> try intro _ | ((with_reducible (first | refine alr ?_ fun _ _ _ _ => ?_ | refine al ?_ fun _ _ _ _ => ?_)); exact rfl) | simp -implicitDefEqProofs only [push_cast,seval, *] | simp only [bindO_assoc])
end Go.Abs.Try
