import Derived.Test.YtdigpkmbcojpoaaGreatWD
set_option linter.unusedSimpArgs false
set_option linter.unusedVariables false
namespace Go.Abs.Try
open Go.RowKit
set_option maxRecDepth 100000
set_option maxHeartbeats 4000000
attribute [local push_cast] F17_s1 F27_f1 F27_s1 F39_f1 F39_s1 F72_f1 F72_f2 F72_s1 F72_s2 F76_f1 F76_s1 Proofs.Tryz.f10 Proofs.Tryz.f104 Proofs.Tryz.f12 Proofs.Tryz.f127 Proofs.Tryz.f128 Proofs.Tryz.f129 Proofs.Tryz.f139 Proofs.Tryz.f140 Proofs.Tryz.f141 Proofs.Tryz.f161 Proofs.Tryz.f6 Proofs.Tryz.f7 Proofs.Tryz.f83 Proofs.Tryz.f84 Proofs.Tryz.f86 ty2 ty22 ty25 ty3 ty71 ty82 ty9
theorem ev10 {E : Env} {N : Nat} (hB : NB N) (hty : E.ty = tys) (heq : E.eqt = eqts) (h0 : E.n0 = 0) (hal : E.ali = noAli) (g10_29 : Tb E 29 (plain (t29 N))) (a : Node) (b : Node) :
   bindO (aPure E Proofs.Tryz.f10 H10 N [.agg (Node.cells a),.agg (Node.cells b)]) (cv sh10) = bindO (F21 N a b) fun r => some (v10 r) := by
 unfold F21
 rw [r_pure]
 repeat' (first | (with_reducible (first | apply ier | apply ie | apply ienr | apply ien | apply be | apply ber | apply oer | apply oe)) <;> try intro _ | ((with_reducible (first | refine alr ?_ fun _ _ _ _ => ?_ | refine al ?_ fun _ _ _ _ => ?_)); exact rfl) | simp -implicitDefEqProofs only [push_cast,seval, *] | simp only [bindO_assoc])
theorem ev6 {E : Env} {N : Nat} (hB : NB N) (hty : E.ty = tys) (heq : E.eqt = eqts) (h0 : E.n0 = 0) (hal : E.ali = noAli) (g6_19 : Tb E 19 (plain (t19))) (g6_18 : Tb E 18 (plain (t18))) (g6_8 : Tb E 8 (plain (t8 N))) (g6_11 : Tb E 11 (plain (t11 N))) (g6_10 : Tb E 10 (plain (t10 N)))  :
   bindO (aPure E Proofs.Tryz.f6 H6 N []) (cv sh6) = bindO (F1213 N) fun r => some (v6 r) := by
 unfold F1213
 rw [r_pure]
 repeat' (first | (with_reducible (first | apply ier | apply ie | apply ienr | apply ien | apply be | apply ber | apply oer | apply oe)) <;> try intro _ | ((with_reducible (first | refine alr ?_ fun _ _ _ _ => ?_ | refine al ?_ fun _ _ _ _ => ?_)); exact rfl) | simp -implicitDefEqProofs only [push_cast,seval, *] | simp only [bindO_assoc])
theorem ev12 {E : Env} {N : Nat} (hB : NB N) (hty : E.ty = tys) (heq : E.eqt = eqts) (h0 : E.n0 = 0) (hal : E.ali = noAli) (g12_11 : Tb E 11 (plain (t11 N))) (g12_38 : Tb E 38 (plain (t38))) (g12_39 : Tb E 39 (plain (t39 N))) (n : Node) :
   bindO (aPure E Proofs.Tryz.f12 H12 N [.agg (Node.cells n)]) (cv sh12) = bindO (F1217 N n) fun r => some (v12 r) := by
 unfold F1217
 rw [r_pure]
 repeat' (first | (with_reducible (first | apply ier | apply ie | apply ienr | apply ien | apply be | apply ber | apply oer | apply oe)) <;> try intro _ | ((with_reducible (first | refine alr ?_ fun _ _ _ _ => ?_ | refine al ?_ fun _ _ _ _ => ?_)); exact rfl) | simp -implicitDefEqProofs only [push_cast,seval, *] | simp only [bindO_assoc])
theorem ev7 {E : Env} {N : Nat} (hB : NB N) (self7 : Node → Option (Int)) (hty : E.ty = tys) (heq : E.eqt = eqts) (h0 : E.n0 = 0) (hal : E.ali = noAli) (g7_7 : Tb E 7 (plain (ts7 self7))) (n : Node) :
   bindO (aPure E Proofs.Tryz.f7 H7 N [.agg (Node.cells n)]) (cv sh7) = bindO (F27b self7 N n) fun r => some (v7 r) := by
 unfold F27b
 rw [r_pure]
 repeat' (first | (with_reducible (first | apply ier | apply ie | apply ienr | apply ien | apply be | apply ber | apply oer | apply oe)) <;> try intro _ | ((with_reducible (first | refine alr ?_ fun _ _ _ _ => ?_ | refine al ?_ fun _ _ _ _ => ?_)); exact rfl) | simp -implicitDefEqProofs only [push_cast,seval, *] | simp only [bindO_assoc])
 refine fl (S := Int) Node.cells n.kids (fun (i1 : Nat) (s3 : Int) => [Z,Z,Z,.int .i64 s3,Z,Z,Z,.sl false 5 (List.map Node.cells n.kids),.int .i64 (n.kids.length : Int),.int .i64 (i1 : Int),Z,Z,Z,Z,Z,Z,Z,Z,Z]) (fun (_ : Nat) (s3 : Int) => [.var [.int .i64 n.op,.int .i64 n.sortf,.str n.name,.int .i64 n.num,.sl false 5 (List.map Node.cells n.kids)]]) hB 1 (fun _ _ _ _ _ _ _ _ => ?_) fun _ _ => ?_ <;> repeat' (first | (with_reducible (first | apply ier | apply ie | apply ienr | apply ien | apply be | apply ber | apply oer | apply oe)) <;> try intro _ | ((with_reducible (first | refine alr ?_ fun _ _ _ _ => ?_ | refine al ?_ fun _ _ _ _ => ?_)); exact rfl) | simp -implicitDefEqProofs only [push_cast,seval, *] | simp only [bindO_assoc])
theorem ev83 {E : Env} {N : Nat} (hB : NB N) (self83 : Node → Option (Int)) (hty : E.ty = tys) (heq : E.eqt = eqts) (h0 : E.n0 = 0) (hal : E.ali = noAli) (g83_83 : Tb E 83 (plain (ts83 self83))) (n : Node) :
   bindO (aPure E Proofs.Tryz.f83 H83 N [.agg (Node.cells n)]) (cv sh83) = bindO (F39b self83 N n) fun r => some (v83 r) := by
 unfold F39b
 rw [r_pure]
 repeat' (first | (with_reducible (first | apply ier | apply ie | apply ienr | apply ien | apply be | apply ber | apply oer | apply oe)) <;> try intro _ | ((with_reducible (first | refine alr ?_ fun _ _ _ _ => ?_ | refine al ?_ fun _ _ _ _ => ?_)); exact rfl) | simp -implicitDefEqProofs only [push_cast,seval, *] | simp only [bindO_assoc])
 refine fl (S := Int) Node.cells n.kids (fun (i1 : Nat) (s3 : Int) => [Z,Z,Z,.int .i64 s3,Z,Z,Z,.sl false 5 (List.map Node.cells n.kids),.int .i64 (n.kids.length : Int),.int .i64 (i1 : Int),Z,Z,Z,Z,Z,Z,Z,Z,Z,Z]) (fun (_ : Nat) (s3 : Int) => [.var [.int .i64 n.op,.int .i64 n.sortf,.str n.name,.int .i64 n.num,.sl false 5 (List.map Node.cells n.kids)]]) hB 0 (fun _ _ _ _ _ _ _ _ => ?_) fun _ _ => ?_ <;> repeat' (first | (with_reducible (first | apply ier | apply ie | apply ienr | apply ien | apply be | apply ber | apply oer | apply oe)) <;> try intro _ | ((with_reducible (first | refine alr ?_ fun _ _ _ _ => ?_ | refine al ?_ fun _ _ _ _ => ?_)); exact rfl) | simp -implicitDefEqProofs only [push_cast,seval, *] | simp only [bindO_assoc])
theorem ev139 {E : Env} {N : Nat} (hB : NB N) (hty : E.ty = tys) (heq : E.eqt = eqts) (h0 : E.n0 = 0) (hal : E.ali = noAli)  (c : Int) :
   bindO (aPure E Proofs.Tryz.f139 H139 N [.int .u8 c]) (cv sh139) = bindO (F75 c) fun r => some (v139 r) := by
 unfold F75
 rw [r_pure]
 repeat' (first | (with_reducible (first | apply ier | apply ie | apply ienr | apply ien | apply be | apply ber | apply oer | apply oe)) <;> try intro _ | ((with_reducible (first | refine alr ?_ fun _ _ _ _ => ?_ | refine al ?_ fun _ _ _ _ => ?_)); exact rfl) | simp -implicitDefEqProofs only [push_cast,seval, *] | simp only [bindO_assoc])
theorem ev161 {E : Env} {N : Nat} (hB : NB N) (hty : E.ty = tys) (heq : E.eqt = eqts) (h0 : E.n0 = 0) (hal : E.ali = noAli)   :
   bindO (aPure E Proofs.Tryz.f161 H161 N []) (cv sh161) = bindO (F121) fun r => some (v161 r) := by
 unfold F121
 rw [r_pure]
 repeat' (first | (with_reducible (first | apply ier | apply ie | apply ienr | apply ien | apply be | apply ber | apply oer | apply oe)) <;> try intro _ | ((with_reducible (first | refine alr ?_ fun _ _ _ _ => ?_ | refine al ?_ fun _ _ _ _ => ?_)); exact rfl) | simp -implicitDefEqProofs only [push_cast,seval, *] | simp only [bindO_assoc])
theorem ev140 {E : Env} {N : Nat} (hB : NB N) (hty : E.ty = tys) (heq : E.eqt = eqts) (h0 : E.n0 = 0) (hal : E.ali = noAli) (g140_161 : Tb E 161 (plain (t161))) (s : ByteArray) :
   bindO (aPure E Proofs.Tryz.f140 H140 N [.str s]) (cv sh140) = bindO (F76 N s) fun r => some (v140 r) := by
 unfold F76
 rw [r_pure]
 repeat' (first | (with_reducible (first | apply ier | apply ie | apply ienr | apply ien | apply be | apply ber | apply oer | apply oe)) <;> try intro _ | ((with_reducible (first | refine alr ?_ fun _ _ _ _ => ?_ | refine al ?_ fun _ _ _ _ => ?_)); exact rfl) | simp -implicitDefEqProofs only [push_cast,seval, *] | simp only [bindO_assoc])
 rename_i r1; refine fl (S := Unit) cS r1 (fun (i2 : Nat) (s4 : Unit) => [.str s,Z,Z,Z,Z,.sl false 1 (List.map cS r1),.int .i64 (r1.length : Int),.int .i64 (i2 : Int),Z,Z,Z,Z,Z,Z,Z]) (fun (_ : Nat) (s4 : Unit) => []) hB () (fun _ _ _ _ _ _ _ _ => ?_) fun _ _ => ?_ <;> repeat' (first | (with_reducible (first | apply ier | apply ie | apply ienr | apply ien | apply be | apply ber | apply oer | apply oe)) <;> try intro _ | ((with_reducible (first | refine alr ?_ fun _ _ _ _ => ?_ | refine al ?_ fun _ _ _ _ => ?_)); exact rfl) | simp -implicitDefEqProofs only [push_cast,seval, *] | simp only [bindO_assoc])
theorem ev141 {E : Env} {N : Nat} (hB : NB N) (hty : E.ty = tys) (heq : E.eqt = eqts) (h0 : E.n0 = 0) (hal : E.ali = noAli)  (c : Int) :
   bindO (aPure E Proofs.Tryz.f141 H141 N [.int .u8 c]) (cv sh141) = bindO (F77 c) fun r => some (v141 r) := by
 unfold F77
 rw [r_pure]
 repeat' (first | (with_reducible (first | apply ier | apply ie | apply ienr | apply ien | apply be | apply ber | apply oer | apply oe)) <;> try intro _ | ((with_reducible (first | refine alr ?_ fun _ _ _ _ => ?_ | refine al ?_ fun _ _ _ _ => ?_)); exact rfl) | simp -implicitDefEqProofs only [push_cast,seval, *] | simp only [bindO_assoc])
theorem ev104 {E : Env} {N : Nat} (hB : NB N) (hty : E.ty = tys) (heq : E.eqt = eqts) (h0 : E.n0 = 0) (hal : E.ali = noAli) (g104_139 : Tb E 139 (plain (t139))) (g104_140 : Tb E 140 (plain (t140 N))) (g104_141 : Tb E 141 (plain (t141))) (s : ByteArray) :
   bindO (aPure E Proofs.Tryz.f104 H104 N [.str s]) (cv sh104) = bindO (F17 N s) fun r => some (v104 r) := by
 unfold F17
 rw [r_pure]
 repeat' (first | (with_reducible (first | apply ier | apply ie | apply ienr | apply ien | apply be | apply ber | apply oer | apply oe)) <;> try intro _ | ((with_reducible (first | refine alr ?_ fun _ _ _ _ => ?_ | refine al ?_ fun _ _ _ _ => ?_)); exact rfl) | simp -implicitDefEqProofs only [push_cast,seval, *] | simp only [bindO_assoc])
 refine wl (S := Int) (fun (s3 : Int) => [.str s,Z,Z,.int .i64 s3,Z,Z,Z,Z,Z,Z,Z,Z,Z,Z,Z,Z,Z,Z,Z,Z,Z,Z,Z,Z,Z,Z,Z,Z,Z,Z,Z,Z,Z,Z,Z,Z,Z,Z,Z,Z,Z,Z,Z,Z,Z,Z]) (fun (s3 : Int) => []) 1 (fun _ => ?_) <;> repeat' (first | (with_reducible (first | apply ier | apply ie | apply ienr | apply ien | apply be | apply ber | apply oer | apply oe)) <;> try intro _ | ((with_reducible (first | refine alr ?_ fun _ _ _ _ => ?_ | refine al ?_ fun _ _ _ _ => ?_)); exact rfl) | simp -implicitDefEqProofs only [push_cast,seval, *] | simp only [bindO_assoc])
theorem ev127 {E : Env} {N : Nat} (hB : NB N) (hty : E.ty = tys) (heq : E.eqt = eqts) (h0 : E.n0 = 0) (hal : E.ali = noAli) (g127_104 : Tb E 104 (plain (t104 N))) (n : Node) :
   bindO (aPure E Proofs.Tryz.f127 H127 N [.agg (Node.cells n)]) (cv sh127) = bindO (F118 N n) fun r => some (v127 r) := by
 unfold F118
 rw [r_pure]
 repeat' (first | (with_reducible (first | apply ier | apply ie | apply ienr | apply ien | apply be | apply ber | apply oer | apply oe)) <;> try intro _ | ((with_reducible (first | refine alr ?_ fun _ _ _ _ => ?_ | refine al ?_ fun _ _ _ _ => ?_)); exact rfl) | simp -implicitDefEqProofs only [push_cast,seval, *] | simp only [bindO_assoc])
theorem ev86 {E : Env} {N : Nat} (hB : NB N) (self86 : Node → Option (Int)) (hty : E.ty = tys) (heq : E.eqt = eqts) (h0 : E.n0 = 0) (hal : E.ali = noAli) (g86_86 : Tb E 86 (plain (ts86 self86))) (n : Node) :
   bindO (aPure E Proofs.Tryz.f86 H86 N [.agg (Node.cells n)]) (cv sh86) = bindO (F28b self86 N n) fun r => some (v86 r) := by
 unfold F28b
 rw [r_pure]
 repeat' (first | (with_reducible (first | apply ier | apply ie | apply ienr | apply ien | apply be | apply ber | apply oer | apply oe)) <;> try intro _ | ((with_reducible (first | refine alr ?_ fun _ _ _ _ => ?_ | refine al ?_ fun _ _ _ _ => ?_)); exact rfl) | simp -implicitDefEqProofs only [push_cast,seval, *] | simp only [bindO_assoc])
theorem ev128 {E : Env} {N : Nat} (hB : NB N) (hty : E.ty = tys) (heq : E.eqt = eqts) (h0 : E.n0 = 0) (hal : E.ali = noAli)  (s : Int) :
   bindO (aPure E Proofs.Tryz.f128 H128 N [.int .i64 s]) (cv sh128) = bindO (F119 s) fun r => some (v128 r) := by
 unfold F119
 rw [r_pure]
 repeat' (first | (with_reducible (first | apply ier | apply ie | apply ienr | apply ien | apply be | apply ber | apply oer | apply oe)) <;> try intro _ | ((with_reducible (first | refine alr ?_ fun _ _ _ _ => ?_ | refine al ?_ fun _ _ _ _ => ?_)); exact rfl) | simp -implicitDefEqProofs only [push_cast,seval, *] | simp only [bindO_assoc])
theorem ev129 {E : Env} {N : Nat} (hB : NB N) (hty : E.ty = tys) (heq : E.eqt = eqts) (h0 : E.n0 = 0) (hal : E.ali = noAli)  (op : Int) :
   bindO (aPure E Proofs.Tryz.f129 H129 N [.int .i64 op]) (cv sh129) = bindO (F120 op) fun r => some (v129 r) := by
 unfold F120
 rw [r_pure]
 repeat' (first | (with_reducible (first | apply ier | apply ie | apply ienr | apply ien | apply be | apply ber | apply oer | apply oe)) <;> try intro _ | ((with_reducible (first | refine alr ?_ fun _ _ _ _ => ?_ | refine al ?_ fun _ _ _ _ => ?_)); exact rfl) | simp -implicitDefEqProofs only [push_cast,seval, *] | simp only [bindO_assoc])
theorem ev84 {E : Env} {N : Nat} (hB : NB N) (self84 : Node → Option (Bool)) (hty : E.ty = tys) (heq : E.eqt = eqts) (h0 : E.n0 = 0) (hal : E.ali = noAli) (g84_127 : Tb E 127 (plain (t127 N))) (g84_84 : Tb E 84 (plain (ts84 self84))) (g84_86 : Tb E 86 (plain (t86 N))) (g84_128 : Tb E 128 (plain (t128))) (g84_129 : Tb E 129 (plain (t129))) (n : Node) :
   bindO (aPure E Proofs.Tryz.f84 H84 N [.agg (Node.cells n)]) (cv sh84) = bindO (F72b self84 N n) fun r => some (v84 r) := by
 unfold F72b
 rw [r_pure]
 repeat' (first | (with_reducible (first | apply ier | apply ie | apply ienr | apply ien | apply be | apply ber | apply oer | apply oe)) <;> try intro _ | ((with_reducible (first | refine alr ?_ fun _ _ _ _ => ?_ | refine al ?_ fun _ _ _ _ => ?_)); exact rfl) | simp -implicitDefEqProofs only [push_cast,seval, *] | simp only [bindO_assoc])
 refine fl (S := Unit) Node.cells n.kids (fun (i2 : Nat) (s4 : Unit) => [Z,.ptr 0 0,Z,Z,Z,Z,Z,Z,Z,Z,Z,Z,Z,.sl false 5 (List.map Node.cells n.kids),.int .i64 (n.kids.length : Int),.int .i64 (i2 : Int),Z,Z,Z,Z,Z,Z,Z,Z,Z,Z,Z,Z,Z,Z,Z,Z,Z,Z,Z,Z,Z,Z,Z,Z,Z,Z,Z,Z,Z,Z,Z,Z,Z,Z,Z,Z,Z,Z,Z,Z,Z,Z,Z,Z,Z,Z,Z,Z,Z,Z,Z,Z,Z,Z,Z,Z,Z,Z,Z,Z,Z,Z,Z,Z,Z,Z,Z,Z,Z,Z,Z,Z,Z,Z,Z,Z,Z,Z,Z,Z,Z,Z,Z,Z,Z,Z,Z,Z,Z,Z,Z,Z,Z,Z,Z,Z,Z,Z,Z,Z,Z,Z,Z,Z,Z,Z,Z,Z,Z,Z,Z,Z,Z,Z,Z,Z,Z,Z,Z,Z,Z]) (fun (_ : Nat) (s4 : Unit) => [.var [.int .i64 n.op,.int .i64 n.sortf,.str n.name,.int .i64 n.num,.sl false 5 (List.map Node.cells n.kids)]]) hB () (fun _ _ _ _ _ _ _ _ => ?_) fun _ _ => ?_ <;> repeat' (first | (with_reducible (first | apply ier | apply ie | apply ienr | apply ien | apply be | apply ber | apply oer | apply oe)) <;> try intro _ | ((with_reducible (first | refine alr ?_ fun _ _ _ _ => ?_ | refine al ?_ fun _ _ _ _ => ?_)); exact rfl) | simp -implicitDefEqProofs only [push_cast,seval, *] | simp only [bindO_assoc])
 rename_i r20 _ _; refine fl (S := Unit) (cI .i64) r20.1 (fun (i21 : Nat) (s23 : Unit) => [Z,.ptr 0 0,Z,Z,Z,Z,Z,Z,Z,Z,Z,Z,Z,Z,Z,Z,Z,Z,Z,Z,Z,Z,Z,Z,Z,Z,Z,Z,Z,Z,Z,Z,Z,Z,Z,Z,Z,Z,Z,Z,Z,Z,Z,Z,Z,Z,Z,Z,Z,Z,Z,Z,Z,Z,Z,Z,Z,Z,Z,Z,Z,Z,Z,Z,Z,Z,Z,Z,Z,Z,Z,Z,Z,Z,Z,Z,Z,Z,Z,Z,Z,Z,Z,Z,Z,Z,Z,Z,Z,Z,Z,Z,Z,Z,Z,Z,Z,Z,Z,Z,Z,Z,Z,Z,Z,Z,Z,Z,Z,Z,Z,Z,Z,Z,Z,Z,Z,Z,Z,Z,Z,.sl false 1 (List.map (cI .i64) r20.1),.int .i64 (r20.1.length : Int),.int .i64 (i21 : Int),Z,Z,Z,Z,Z,Z,Z,Z,Z,Z,Z,Z,Z]) (fun (_ : Nat) (s23 : Unit) => [.var [.int .i64 n.op,.int .i64 n.sortf,.str n.name,.int .i64 n.num,.sl false 5 (List.map Node.cells n.kids)]]) hB () (fun _ _ _ _ _ _ _ _ => ?_) fun _ _ => ?_ <;> repeat' (first | (with_reducible (first | apply ier | apply ie | apply ienr | apply ien | apply be | apply ber | apply oer | apply oe)) <;> try intro _ | ((with_reducible (first | refine alr ?_ fun _ _ _ _ => ?_ | refine al ?_ fun _ _ _ _ => ?_)); exact rfl) | simp -implicitDefEqProofs only [push_cast,seval, *] | simp only [bindO_assoc])
end Go.Abs.Try
