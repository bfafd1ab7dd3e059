import Derived.Test.YtdigpkmbcojpoaaGreatMD
set_option linter.unusedSimpArgs false
set_option linter.unusedVariables false
namespace Go.Abs.Try
open Go.RowKit
set_option maxRecDepth 100000
set_option maxHeartbeats 4000000
attribute [local push_cast] F1256_f1 F1256_s1 F17_s1 F27_f1 F27_s1 F39_f1 F39_s1 F53_f1 F53_s1 F76_f1 F76_s1 F83_f2 F83_s2 Proofs.Tryz.f10 Proofs.Tryz.f104 Proofs.Tryz.f139 Proofs.Tryz.f140 Proofs.Tryz.f141 Proofs.Tryz.f161 Proofs.Tryz.f28 Proofs.Tryz.f6 Proofs.Tryz.f69 Proofs.Tryz.f7 Proofs.Tryz.f70 Proofs.Tryz.f71 Proofs.Tryz.f72 Proofs.Tryz.f83 Proofs.Tryz.f86 ty2 ty22 ty25 ty3 ty82 ty9
theorem ev10 {E : Env} {N : Nat} (hB : NB N) (hty : E.ty = tys) (heq : E.eqt = eqts) (h0 : E.n0 = 0) (hal : E.ali = noAli) (g10_29 : Tb E 29 (plain (t29 N))) (a : Node) (b : Node) :
   bindO (aPure E Proofs.Tryz.f10 H10 N [.agg (Node.cells a), .agg (Node.cells b)]) (cv sh10) = bindO (F21 N a b) fun r => some (v10 r) := by
 unfold F21
 rw [r_pure]
 repeat' (first | (with_reducible (first | apply ier | apply ie | apply ienr | apply ien | apply be | apply ber | apply oer | apply oe)) <;> try intro _ | ((with_reducible (first | refine alr ?_ fun _ _ _ _ => ?_ | refine al ?_ fun _ _ _ _ => ?_)); exact rfl) | simp -implicitDefEqProofs only [push_cast, seval, *] | simp only [bindO_assoc])
theorem ev6 {E : Env} {N : Nat} (hB : NB N) (hty : E.ty = tys) (heq : E.eqt = eqts) (h0 : E.n0 = 0) (hal : E.ali = noAli) (g6_19 : Tb E 19 (plain (t19))) (g6_18 : Tb E 18 (plain (t18))) (g6_8 : Tb E 8 (plain (t8 N))) (g6_11 : Tb E 11 (plain (t11 N))) (g6_10 : Tb E 10 (plain (t10 N)))  :
   bindO (aPure E Proofs.Tryz.f6 H6 N []) (cv sh6) = bindO (F1213 N) fun r => some (v6 r) := by
 unfold F1213
 rw [r_pure]
 repeat' (first | (with_reducible (first | apply ier | apply ie | apply ienr | apply ien | apply be | apply ber | apply oer | apply oe)) <;> try intro _ | ((with_reducible (first | refine alr ?_ fun _ _ _ _ => ?_ | refine al ?_ fun _ _ _ _ => ?_)); exact rfl) | simp -implicitDefEqProofs only [push_cast, seval, *] | simp only [bindO_assoc])
theorem ev7 {E : Env} {N : Nat} (hB : NB N) (self7 : Node → Option (Int)) (hty : E.ty = tys) (heq : E.eqt = eqts) (h0 : E.n0 = 0) (hal : E.ali = noAli) (g7_7 : Tb E 7 (plain (ts7 self7))) (n : Node) :
   bindO (aPure E Proofs.Tryz.f7 H7 N [.agg (Node.cells n)]) (cv sh7) = bindO (F27b self7 N n) fun r => some (v7 r) := by
 unfold F27b
 rw [r_pure]
 repeat' (first | (with_reducible (first | apply ier | apply ie | apply ienr | apply ien | apply be | apply ber | apply oer | apply oe)) <;> try intro _ | ((with_reducible (first | refine alr ?_ fun _ _ _ _ => ?_ | refine al ?_ fun _ _ _ _ => ?_)); exact rfl) | simp -implicitDefEqProofs only [push_cast, seval, *] | simp only [bindO_assoc])
 refine fl (S := Int) Node.cells n.kids (fun (i1 : Nat) (s3 : Int) => [Z, Z, Z, .int .i64 s3, Z, Z, Z, .sl false 5 (List.map Node.cells n.kids), .int .i64 (n.kids.length : Int), .int .i64 (i1 : Int), Z, Z, Z, Z, Z, Z, Z, Z, Z]) (fun (_ : Nat) (s3 : Int) => [.var [.int .i64 n.op, .int .i64 n.sortf, .str n.name, .int .i64 n.num, .sl false 5 (List.map Node.cells n.kids)]]) hB 1 (fun _ _ _ _ _ _ _ _ => ?_) fun _ _ => ?_ <;> repeat' (first | (with_reducible (first | apply ier | apply ie | apply ienr | apply ien | apply be | apply ber | apply oer | apply oe)) <;> try intro _ | ((with_reducible (first | refine alr ?_ fun _ _ _ _ => ?_ | refine al ?_ fun _ _ _ _ => ?_)); exact rfl) | simp -implicitDefEqProofs only [push_cast, seval, *] | simp only [bindO_assoc])
theorem ev86 {E : Env} {N : Nat} (hB : NB N) (self86 : Node → Option (Int)) (hty : E.ty = tys) (heq : E.eqt = eqts) (h0 : E.n0 = 0) (hal : E.ali = noAli) (g86_86 : Tb E 86 (plain (ts86 self86))) (n : Node) :
   bindO (aPure E Proofs.Tryz.f86 H86 N [.agg (Node.cells n)]) (cv sh86) = bindO (F28b self86 N n) fun r => some (v86 r) := by
 unfold F28b
 rw [r_pure]
 repeat' (first | (with_reducible (first | apply ier | apply ie | apply ienr | apply ien | apply be | apply ber | apply oer | apply oe)) <;> try intro _ | ((with_reducible (first | refine alr ?_ fun _ _ _ _ => ?_ | refine al ?_ fun _ _ _ _ => ?_)); exact rfl) | simp -implicitDefEqProofs only [push_cast, seval, *] | simp only [bindO_assoc])
theorem ev69 {E : Env} {N : Nat} (hB : NB N) (hty : E.ty = tys) (heq : E.eqt = eqts) (h0 : E.n0 = 0) (hal : E.ali = noAli) (g69_86 : Tb E 86 (plain (t86 N))) (a : Node) (b : Node) :
   bindO (aPure E Proofs.Tryz.f69 H69 N [.agg (Node.cells a), .agg (Node.cells b)]) (cv sh69) = bindO (F1256 N a b) fun r => some (v69 r) := by
 unfold F1256
 rw [r_pure]
 repeat' (first | (with_reducible (first | apply ier | apply ie | apply ienr | apply ien | apply be | apply ber | apply oer | apply oe)) <;> try intro _ | ((with_reducible (first | refine alr ?_ fun _ _ _ _ => ?_ | refine al ?_ fun _ _ _ _ => ?_)); exact rfl) | simp -implicitDefEqProofs only [push_cast, seval, *] | simp only [bindO_assoc])
 refine fl (S := Unit) Node.cells a.kids (fun (i1 : Nat) (s3 : Unit) => [Z, Z, .ptr 0 0, .ptr 1 0, Z, Z, Z, Z, Z, Z, Z, Z, Z, Z, Z, Z, Z, Z, Z, Z, Z, Z, Z, Z, Z, Z, Z, Z, Z, Z, Z, Z, Z, Z, Z, Z, Z, Z, Z, Z, Z, Z, Z, Z, Z, .int .i64 (a.kids.length : Int), .int .i64 (i1 : Int), Z, Z, Z, Z, Z, Z, Z, Z, Z, Z, Z, Z, Z, Z, Z, Z]) (fun (_ : Nat) (s3 : Unit) => [.var [.int .i64 a.op, .int .i64 a.sortf, .str a.name, .int .i64 a.num, .sl false 5 (List.map Node.cells a.kids)], .var [.int .i64 b.op, .int .i64 b.sortf, .str b.name, .int .i64 b.num, .sl false 5 (List.map Node.cells b.kids)]]) hB () (fun _ _ _ _ _ _ _ _ => ?_) fun _ _ => ?_ <;> repeat' (first | (with_reducible (first | apply ier | apply ie | apply ienr | apply ien | apply be | apply ber | apply oer | apply oe)) <;> try intro _ | ((with_reducible (first | refine alr ?_ fun _ _ _ _ => ?_ | refine al ?_ fun _ _ _ _ => ?_)); exact rfl) | simp -implicitDefEqProofs only [push_cast, seval, *] | simp only [bindO_assoc])
theorem ev70 {E : Env} {N : Nat} (hB : NB N) (hty : E.ty = tys) (heq : E.eqt = eqts) (h0 : E.n0 = 0) (hal : E.ali = noAli) (g70_86 : Tb E 86 (plain (t86 N))) (g70_19 : Tb E 19 (plain (t19))) (a : Node) (b : Node) :
   bindO (aPure E Proofs.Tryz.f70 H70 N [.agg (Node.cells a), .agg (Node.cells b)]) (cv sh70) = bindO (F1257 N a b) fun r => some (v70 r) := by
 unfold F1257
 rw [r_pure]
 repeat' (first | (with_reducible (first | apply ier | apply ie | apply ienr | apply ien | apply be | apply ber | apply oer | apply oe)) <;> try intro _ | ((with_reducible (first | refine alr ?_ fun _ _ _ _ => ?_ | refine al ?_ fun _ _ _ _ => ?_)); exact rfl) | simp -implicitDefEqProofs only [push_cast, seval, *] | simp only [bindO_assoc])
theorem ev28 {E : Env} {N : Nat} (hB : NB N) (self28 : Node → Option (Node)) (hty : E.ty = tys) (heq : E.eqt = eqts) (h0 : E.n0 = 0) (hal : E.ali = noAli) (g28_28 : Tb E 28 (plain (ts28 self28))) (n : Node) :
   bindO (aPure E Proofs.Tryz.f28 H28 N [.agg (Node.cells n)]) (cv sh28) = bindO (F83b self28 N n) fun r => some (v28 r) := by
 unfold F83b
 rw [r_pure]
 repeat' (first | (with_reducible (first | apply ier | apply ie | apply ienr | apply ien | apply be | apply ber | apply oer | apply oe)) <;> try intro _ | ((with_reducible (first | refine alr ?_ fun _ _ _ _ => ?_ | refine al ?_ fun _ _ _ _ => ?_)); exact rfl) | simp -implicitDefEqProofs only [push_cast, seval, *] | simp only [bindO_assoc])
 refine fl (S := List Node) Node.cells n.kids (fun (i4 : Nat) (s6 : List Node) => [Z, Z, .ptr 1 0, .ptr 2 0, Z, Z, Z, Z, Z, Z, Z, Z, Z, Z, Z, Z, Z, .sl false 5 (List.map Node.cells n.kids), .int .i64 (n.kids.length : Int), .int .i64 (i4 : Int), Z, Z, Z, Z, Z, Z, Z, Z, Z, Z, Z, Z, Z]) (fun (_ : Nat) (s6 : List Node) => [.var [.int .i64 n.op, .int .i64 n.sortf, .str n.name, .int .i64 n.num, .sl false 5 (List.map Node.cells n.kids)], .var [.int .i64 0, .int .i64 0, .str (⟨#[]⟩ : ByteArray), .int .i64 0, .sl true 5 []], .var [.int .i64 n.op, .int .i64 n.sortf, .str n.name, .int .i64 n.num, .rs 3 0], .row 5 0 (List.map Node.cells s6)]) hB ([]) (fun _ _ _ _ _ _ _ _ => ?_) fun _ _ => ?_ <;> repeat' (first | (with_reducible (first | apply ier | apply ie | apply ienr | apply ien | apply be | apply ber | apply oer | apply oe)) <;> try intro _ | ((with_reducible (first | refine alr ?_ fun _ _ _ _ => ?_ | refine al ?_ fun _ _ _ _ => ?_)); exact rfl) | simp -implicitDefEqProofs only [push_cast, seval, *] | simp only [bindO_assoc])
theorem ev72 {E : Env} {N : Nat} (hB : NB N) (hty : E.ty = tys) (heq : E.eqt = eqts) (h0 : E.n0 = 0) (hal : E.ali = noAli) (g72_28 : Tb E 28 (plain (t28 N))) (g72_19 : Tb E 19 (plain (t19))) (l : List Node) :
   bindO (aPure E Proofs.Tryz.f72 H72 N [.sl false 5 (List.map Node.cells l)]) (cv sh72) = bindO (F53 N l) fun r => some (v72 r) := by
 unfold F53
 rw [r_pure]
 repeat' (first | (with_reducible (first | apply ier | apply ie | apply ienr | apply ien | apply be | apply ber | apply oer | apply oe)) <;> try intro _ | ((with_reducible (first | refine alr ?_ fun _ _ _ _ => ?_ | refine al ?_ fun _ _ _ _ => ?_)); exact rfl) | simp -implicitDefEqProofs only [push_cast, seval, *] | simp only [bindO_assoc])
 rename_i r2 _; refine fl (S := Int × Int × ByteArray × Int × (List Node)) Node.cells (cutL l 1 (l.length : Int)) (fun (i3 : Nat) (s5 : Int × Int × ByteArray × Int × (List Node)) => [Z, Z, .ptr 0 0, .ptr 1 0, Z, Z, Z, Z, Z, Z, Z, Z, Z, Z, Z, .sl false 5 (List.map Node.cells (cutL l 1 (l.length : Int))), .int .i64 ((cutL l 1 (l.length : Int)).length : Int), .int .i64 (i3 : Int), Z, Z, Z, Z, Z, Z, Z, Z, Z]) (fun (_ : Nat) (s5 : Int × Int × ByteArray × Int × (List Node)) => [.var [.int .i64 0, .int .i64 0, .str (⟨#[]⟩ : ByteArray), .int .i64 0, .sl true 5 []], .var [.int .i64 s5.1, .int .i64 s5.2.1, .str s5.2.2.1, .int .i64 s5.2.2.2.1, .sl false 5 (List.map Node.cells s5.2.2.2.2)]]) hB (r2.op, r2.sortf, r2.name, r2.num, r2.kids) (fun _ _ _ _ _ _ _ _ => ?_) fun _ _ => ?_ <;> repeat' (first | (with_reducible (first | apply ier | apply ie | apply ienr | apply ien | apply be | apply ber | apply oer | apply oe)) <;> try intro _ | ((with_reducible (first | refine alr ?_ fun _ _ _ _ => ?_ | refine al ?_ fun _ _ _ _ => ?_)); exact rfl) | simp -implicitDefEqProofs only [push_cast, seval, *] | simp only [bindO_assoc])
theorem ev71 {E : Env} {N : Nat} (hB : NB N) (hty : E.ty = tys) (heq : E.eqt = eqts) (h0 : E.n0 = 0) (hal : E.ali = noAli) (g71_19 : Tb E 19 (plain (t19))) (a : Node) (b : Node) :
   bindO (aPure E Proofs.Tryz.f71 H71 N [.agg (Node.cells a), .agg (Node.cells b)]) (cv sh71) = bindO (F1258 a b) fun r => some (v71 r) := by
 unfold F1258
 rw [r_pure]
 repeat' (first | (with_reducible (first | apply ier | apply ie | apply ienr | apply ien | apply be | apply ber | apply oer | apply oe)) <;> try intro _ | ((with_reducible (first | refine alr ?_ fun _ _ _ _ => ?_ | refine al ?_ fun _ _ _ _ => ?_)); exact rfl) | simp -implicitDefEqProofs only [push_cast, seval, *] | simp only [bindO_assoc])
theorem ev83 {E : Env} {N : Nat} (hB : NB N) (self83 : Node → Option (Int)) (hty : E.ty = tys) (heq : E.eqt = eqts) (h0 : E.n0 = 0) (hal : E.ali = noAli) (g83_83 : Tb E 83 (plain (ts83 self83))) (n : Node) :
   bindO (aPure E Proofs.Tryz.f83 H83 N [.agg (Node.cells n)]) (cv sh83) = bindO (F39b self83 N n) fun r => some (v83 r) := by
 unfold F39b
 rw [r_pure]
 repeat' (first | (with_reducible (first | apply ier | apply ie | apply ienr | apply ien | apply be | apply ber | apply oer | apply oe)) <;> try intro _ | ((with_reducible (first | refine alr ?_ fun _ _ _ _ => ?_ | refine al ?_ fun _ _ _ _ => ?_)); exact rfl) | simp -implicitDefEqProofs only [push_cast, seval, *] | simp only [bindO_assoc])
 refine fl (S := Int) Node.cells n.kids (fun (i1 : Nat) (s3 : Int) => [Z, Z, Z, .int .i64 s3, Z, Z, Z, .sl false 5 (List.map Node.cells n.kids), .int .i64 (n.kids.length : Int), .int .i64 (i1 : Int), Z, Z, Z, Z, Z, Z, Z, Z, Z, Z]) (fun (_ : Nat) (s3 : Int) => [.var [.int .i64 n.op, .int .i64 n.sortf, .str n.name, .int .i64 n.num, .sl false 5 (List.map Node.cells n.kids)]]) hB 0 (fun _ _ _ _ _ _ _ _ => ?_) fun _ _ => ?_ <;> repeat' (first | (with_reducible (first | apply ier | apply ie | apply ienr | apply ien | apply be | apply ber | apply oer | apply oe)) <;> try intro _ | ((with_reducible (first | refine alr ?_ fun _ _ _ _ => ?_ | refine al ?_ fun _ _ _ _ => ?_)); exact rfl) | simp -implicitDefEqProofs only [push_cast, seval, *] | simp only [bindO_assoc])
theorem ev139 {E : Env} {N : Nat} (hB : NB N) (hty : E.ty = tys) (heq : E.eqt = eqts) (h0 : E.n0 = 0) (hal : E.ali = noAli)  (c : Int) :
   bindO (aPure E Proofs.Tryz.f139 H139 N [.int .u8 c]) (cv sh139) = bindO (F75 c) fun r => some (v139 r) := by
 unfold F75
 rw [r_pure]
 repeat' (first | (with_reducible (first | apply ier | apply ie | apply ienr | apply ien | apply be | apply ber | apply oer | apply oe)) <;> try intro _ | ((with_reducible (first | refine alr ?_ fun _ _ _ _ => ?_ | refine al ?_ fun _ _ _ _ => ?_)); exact rfl) | simp -implicitDefEqProofs only [push_cast, seval, *] | simp only [bindO_assoc])
theorem ev161 {E : Env} {N : Nat} (hB : NB N) (hty : E.ty = tys) (heq : E.eqt = eqts) (h0 : E.n0 = 0) (hal : E.ali = noAli)   :
   bindO (aPure E Proofs.Tryz.f161 H161 N []) (cv sh161) = bindO (F121) fun r => some (v161 r) := by
 unfold F121
 rw [r_pure]
 repeat' (first | (with_reducible (first | apply ier | apply ie | apply ienr | apply ien | apply be | apply ber | apply oer | apply oe)) <;> try intro _ | ((with_reducible (first | refine alr ?_ fun _ _ _ _ => ?_ | refine al ?_ fun _ _ _ _ => ?_)); exact rfl) | simp -implicitDefEqProofs only [push_cast, seval, *] | simp only [bindO_assoc])
theorem ev140 {E : Env} {N : Nat} (hB : NB N) (hty : E.ty = tys) (heq : E.eqt = eqts) (h0 : E.n0 = 0) (hal : E.ali = noAli) (g140_161 : Tb E 161 (plain (t161))) (s : ByteArray) :
   bindO (aPure E Proofs.Tryz.f140 H140 N [.str s]) (cv sh140) = bindO (F76 N s) fun r => some (v140 r) := by
 unfold F76
 rw [r_pure]
 repeat' (first | (with_reducible (first | apply ier | apply ie | apply ienr | apply ien | apply be | apply ber | apply oer | apply oe)) <;> try intro _ | ((with_reducible (first | refine alr ?_ fun _ _ _ _ => ?_ | refine al ?_ fun _ _ _ _ => ?_)); exact rfl) | simp -implicitDefEqProofs only [push_cast, seval, *] | simp only [bindO_assoc])
 rename_i r1; refine fl (S := Unit) cS r1 (fun (i2 : Nat) (s4 : Unit) => [.str s, Z, Z, Z, Z, .sl false 1 (List.map cS r1), .int .i64 (r1.length : Int), .int .i64 (i2 : Int), Z, Z, Z, Z, Z, Z, Z]) (fun (_ : Nat) (s4 : Unit) => []) hB () (fun _ _ _ _ _ _ _ _ => ?_) fun _ _ => ?_ <;> repeat' (first | (with_reducible (first | apply ier | apply ie | apply ienr | apply ien | apply be | apply ber | apply oer | apply oe)) <;> try intro _ | ((with_reducible (first | refine alr ?_ fun _ _ _ _ => ?_ | refine al ?_ fun _ _ _ _ => ?_)); exact rfl) | simp -implicitDefEqProofs only [push_cast, seval, *] | simp only [bindO_assoc])
theorem ev141 {E : Env} {N : Nat} (hB : NB N) (hty : E.ty = tys) (heq : E.eqt = eqts) (h0 : E.n0 = 0) (hal : E.ali = noAli)  (c : Int) :
   bindO (aPure E Proofs.Tryz.f141 H141 N [.int .u8 c]) (cv sh141) = bindO (F77 c) fun r => some (v141 r) := by
 unfold F77
 rw [r_pure]
 repeat' (first | (with_reducible (first | apply ier | apply ie | apply ienr | apply ien | apply be | apply ber | apply oer | apply oe)) <;> try intro _ | ((with_reducible (first | refine alr ?_ fun _ _ _ _ => ?_ | refine al ?_ fun _ _ _ _ => ?_)); exact rfl) | simp -implicitDefEqProofs only [push_cast, seval, *] | simp only [bindO_assoc])
theorem ev104 {E : Env} {N : Nat} (hB : NB N) (hty : E.ty = tys) (heq : E.eqt = eqts) (h0 : E.n0 = 0) (hal : E.ali = noAli) (g104_139 : Tb E 139 (plain (t139))) (g104_140 : Tb E 140 (plain (t140 N))) (g104_141 : Tb E 141 (plain (t141))) (s : ByteArray) :
   bindO (aPure E Proofs.Tryz.f104 H104 N [.str s]) (cv sh104) = bindO (F17 N s) fun r => some (v104 r) := by
 unfold F17
 rw [r_pure]
 repeat' (first | (with_reducible (first | apply ier | apply ie | apply ienr | apply ien | apply be | apply ber | apply oer | apply oe)) <;> try intro _ | ((with_reducible (first | refine alr ?_ fun _ _ _ _ => ?_ | refine al ?_ fun _ _ _ _ => ?_)); exact rfl) | simp -implicitDefEqProofs only [push_cast, seval, *] | simp only [bindO_assoc])
 refine wl (S := Int) (fun (s3 : Int) => [.str s, Z, Z, .int .i64 s3, Z, Z, Z, Z, Z, Z, Z, Z, Z, Z, Z, Z, Z, Z, Z, Z, Z, Z, Z, Z, Z, Z, Z, Z, Z, Z, Z, Z, Z, Z, Z, Z, Z, Z, Z, Z, Z, Z, Z, Z, Z, Z]) (fun (s3 : Int) => []) 1 (fun _ => ?_) <;> repeat' (first | (with_reducible (first | apply ier | apply ie | apply ienr | apply ien | apply be | apply ber | apply oer | apply oe)) <;> try intro _ | ((with_reducible (first | refine alr ?_ fun _ _ _ _ => ?_ | refine al ?_ fun _ _ _ _ => ?_)); exact rfl) | simp -implicitDefEqProofs only [push_cast, seval, *] | simp only [bindO_assoc])
end Go.Abs.Try
