import Derived.Test.YtdigpkmbcojpoaaGreatWD
set_option linter.unusedSimpArgs false
set_option linter.unusedVariables false
namespace Go.Abs.Try
open Go.RowKit
set_option maxRecDepth 100000
set_option maxHeartbeats 4000000
attribute [local push_cast] F22_f1 F22_f2 F22_f3 F22_s1 F22_s2 F22_s3 Proofs.Tryz.f116 Proofs.Tryz.f117 Proofs.Tryz.f118 Proofs.Tryz.f22 Proofs.Tryz.f23 Proofs.Tryz.f24 Proofs.Tryz.f59 Proofs.Tryz.f60 Proofs.Tryz.f61 Proofs.Tryz.f62 Proofs.Tryz.f63 Proofs.Tryz.f64 Proofs.Tryz.f65 Proofs.Tryz.f66 Proofs.Tryz.f67 Proofs.Tryz.f68 ty22 ty25 ty3 ty71 ty82 ty9
theorem ev59 {E : Env} {N : Nat} (hB : NB N) (hty : E.ty = tys) (heq : E.eqt = eqts) (h0 : E.n0 = 0) (hal : E.ali = ali59) (g59_113 : Tb E 113 (plain (t113))) (g59_115 : Tb E 115 (plain (t115))) (g59_114 : Tb E 114 (lensRun 2 [.keep,.keep,.keep] (t2002))) (e : Node) (s : Node) :
   bindO (aPure E Proofs.Tryz.f59 H59 N [.agg (Node.cells e),.agg (Node.cells s)]) (cv sh59) = bindO (F1247 e s) fun r => some (v59 r) := by
 unfold F1247
 rw [r_pure]
 repeat' (first | (with_reducible (first | apply ier | apply ie | apply ienr | apply ien | apply be | apply ber | apply oer | apply oe)) <;> try intro _ | ((with_reducible (first | refine alr ?_ fun _ _ _ _ => ?_ | refine al ?_ fun _ _ _ _ => ?_)); exact rfl) | simp -implicitDefEqProofs only [push_cast,seval, *] | simp only [bindO_assoc])
theorem ev60 {E : Env} {N : Nat} (hB : NB N) (hty : E.ty = tys) (heq : E.eqt = eqts) (h0 : E.n0 = 0) (hal : E.ali = noAli) (g60_113 : Tb E 113 (plain (t113))) (e : Node) (f : Node) (s : Node) :
   bindO (aPure E Proofs.Tryz.f60 H60 N [.agg (Node.cells e),.agg (Node.cells f),.agg (Node.cells s)]) (cv sh60) = bindO (F1248 e f s) fun r => some (v60 r) := by
 unfold F1248
 rw [r_pure]
 repeat' (first | (with_reducible (first | apply ier | apply ie | apply ienr | apply ien | apply be | apply ber | apply oer | apply oe)) <;> try intro _ | ((with_reducible (first | refine alr ?_ fun _ _ _ _ => ?_ | refine al ?_ fun _ _ _ _ => ?_)); exact rfl) | simp -implicitDefEqProofs only [push_cast,seval, *] | simp only [bindO_assoc])
theorem ev2003 {E : Env} {N : Nat} (hB : NB N) (hty : E.ty = tys) (heq : E.eqt = eqts) (h0 : E.n0 = 1) (hal : E.ali = noAli) (g2003_113 : Tb E 113 (plain (t113))) (u1 : Node) (h2 : Int) (h3 : Int) (h4 : ByteArray) (h5 : Int) (h6 : List Node) :
   bindO (aLensN E Proofs.Tryz.f116 H2003 N 1 1 1 [.give] [.agg (Node.cells u1),.ptr 0 0] [.var [.int .i64 h2,.int .i64 h3,.str h4,.int .i64 h5,.sl false 5 (List.map Node.cells h6)]]) (cvX sh2003 sw2003) = bindO (F1396 u1 h2 h3 h4 h5 h6) fun r => some (v2003 u1 h2 h3 h4 h5 h6 r,so2003 u1 h2 h3 h4 h5 h6 r) := by
 unfold F1396
 rw [r_lens]
 repeat' (first | (with_reducible (first | apply ier | apply ie | apply ienr | apply ien | apply be | apply ber | apply oer | apply oe)) <;> try intro _ | ((with_reducible (first | refine alr ?_ fun _ _ _ _ => ?_ | refine al ?_ fun _ _ _ _ => ?_)); exact rfl) | simp -implicitDefEqProofs only [push_cast,seval, *] | simp only [bindO_assoc] | exact rfl)
theorem ev61 {E : Env} {N : Nat} (hB : NB N) (hty : E.ty = tys) (heq : E.eqt = eqts) (h0 : E.n0 = 0) (hal : E.ali = ali61) (g61_113 : Tb E 113 (plain (t113))) (g61_116 : Tb E 116 (lensRun 1 [.keep,.keep] (t2003))) (kind : Int) (a : Node) (b : Node) (e : Node) :
   bindO (aPure E Proofs.Tryz.f61 H61 N [.int .i64 kind,.agg (Node.cells a),.agg (Node.cells b),.agg (Node.cells e)]) (cv sh61) = bindO (F1249 kind a b e) fun r => some (v61 r) := by
 unfold F1249
 rw [r_pure]
 repeat' (first | (with_reducible (first | apply ier | apply ie | apply ienr | apply ien | apply be | apply ber | apply oer | apply oe)) <;> try intro _ | ((with_reducible (first | refine alr ?_ fun _ _ _ _ => ?_ | refine al ?_ fun _ _ _ _ => ?_)); exact rfl) | simp -implicitDefEqProofs only [push_cast,seval, *] | simp only [bindO_assoc])
theorem ev62 {E : Env} {N : Nat} (hB : NB N) (hty : E.ty = tys) (heq : E.eqt = eqts) (h0 : E.n0 = 0) (hal : E.ali = noAli)  (n : Node) (op : Int) :
   bindO (aPure E Proofs.Tryz.f62 H62 N [.agg (Node.cells n),.int .i64 op]) (cv sh62) = bindO (F1250 n op) fun r => some (v62 r) := by
 unfold F1250
 rw [r_pure]
 repeat' (first | (with_reducible (first | apply ier | apply ie | apply ienr | apply ien | apply be | apply ber | apply oer | apply oe)) <;> try intro _ | ((with_reducible (first | refine alr ?_ fun _ _ _ _ => ?_ | refine al ?_ fun _ _ _ _ => ?_)); exact rfl) | simp -implicitDefEqProofs only [push_cast,seval, *] | simp only [bindO_assoc])
theorem ev117 {E : Env} {N : Nat} (hB : NB N) (hty : E.ty = tys) (heq : E.eqt = eqts) (h0 : E.n0 = 0) (hal : E.ali = noAli) (g117_113 : Tb E 113 (plain (t113))) (a : Node) (i : Node) :
   bindO (aPure E Proofs.Tryz.f117 H117 N [.agg (Node.cells a),.agg (Node.cells i)]) (cv sh117) = bindO (F1286 a i) fun r => some (v117 r) := by
 unfold F1286
 rw [r_pure]
 repeat' (first | (with_reducible (first | apply ier | apply ie | apply ienr | apply ien | apply be | apply ber | apply oer | apply oe)) <;> try intro _ | ((with_reducible (first | refine alr ?_ fun _ _ _ _ => ?_ | refine al ?_ fun _ _ _ _ => ?_)); exact rfl) | simp -implicitDefEqProofs only [push_cast,seval, *] | simp only [bindO_assoc])
theorem ev118 {E : Env} {N : Nat} (hB : NB N) (hty : E.ty = tys) (heq : E.eqt = eqts) (h0 : E.n0 = 0) (hal : E.ali = noAli) (g118_115 : Tb E 115 (plain (t115))) (a : Node) :
   bindO (aPure E Proofs.Tryz.f118 H118 N [.agg (Node.cells a)]) (cv sh118) = bindO (F1287 a) fun r => some (v118 r) := by
 unfold F1287
 rw [r_pure]
 repeat' (first | (with_reducible (first | apply ier | apply ie | apply ienr | apply ien | apply be | apply ber | apply oer | apply oe)) <;> try intro _ | ((with_reducible (first | refine alr ?_ fun _ _ _ _ => ?_ | refine al ?_ fun _ _ _ _ => ?_)); exact rfl) | simp -implicitDefEqProofs only [push_cast,seval, *] | simp only [bindO_assoc])
theorem ev63 {E : Env} {N : Nat} (hB : NB N) (hty : E.ty = tys) (heq : E.eqt = eqts) (h0 : E.n0 = 0) (hal : E.ali = ali63) (g63_113 : Tb E 113 (plain (t113))) (g63_117 : Tb E 117 (plain (t117))) (g63_118 : Tb E 118 (plain (t118))) (j : Node) (s : Node) :
   bindO (aPure E Proofs.Tryz.f63 H63 N [.agg (Node.cells j),.agg (Node.cells s)]) (cv sh63) = bindO (F1251 j s) fun r => some (v63 r) := by
 unfold F1251
 rw [r_pure]
 repeat' (first | (with_reducible (first | apply ier | apply ie | apply ienr | apply ien | apply be | apply ber | apply oer | apply oe)) <;> try intro _ | ((with_reducible (first | refine alr ?_ fun _ _ _ _ => ?_ | refine al ?_ fun _ _ _ _ => ?_)); exact rfl) | simp -implicitDefEqProofs only [push_cast,seval, *] | simp only [bindO_assoc])
theorem ev64 {E : Env} {N : Nat} (hB : NB N) (hty : E.ty = tys) (heq : E.eqt = eqts) (h0 : E.n0 = 0) (hal : E.ali = noAli) (g64_113 : Tb E 113 (plain (t113))) (g64_117 : Tb E 117 (plain (t117))) (i : Node) (j : Node) (a : Node) :
   bindO (aPure E Proofs.Tryz.f64 H64 N [.agg (Node.cells i),.agg (Node.cells j),.agg (Node.cells a)]) (cv sh64) = bindO (F1252 i j a) fun r => some (v64 r) := by
 unfold F1252
 rw [r_pure]
 repeat' (first | (with_reducible (first | apply ier | apply ie | apply ienr | apply ien | apply be | apply ber | apply oer | apply oe)) <;> try intro _ | ((with_reducible (first | refine alr ?_ fun _ _ _ _ => ?_ | refine al ?_ fun _ _ _ _ => ?_)); exact rfl) | simp -implicitDefEqProofs only [push_cast,seval, *] | simp only [bindO_assoc])
theorem ev65 {E : Env} {N : Nat} (hB : NB N) (hty : E.ty = tys) (heq : E.eqt = eqts) (h0 : E.n0 = 0) (hal : E.ali = noAli) (g65_118 : Tb E 118 (plain (t118))) (g65_113 : Tb E 113 (plain (t113))) (a : Node) :
   bindO (aPure E Proofs.Tryz.f65 H65 N [.agg (Node.cells a)]) (cv sh65) = bindO (F1253 a) fun r => some (v65 r) := by
 unfold F1253
 rw [r_pure]
 repeat' (first | (with_reducible (first | apply ier | apply ie | apply ienr | apply ien | apply be | apply ber | apply oer | apply oe)) <;> try intro _ | ((with_reducible (first | refine alr ?_ fun _ _ _ _ => ?_ | refine al ?_ fun _ _ _ _ => ?_)); exact rfl) | simp -implicitDefEqProofs only [push_cast,seval, *] | simp only [bindO_assoc])
theorem ev66 {E : Env} {N : Nat} (hB : NB N) (hty : E.ty = tys) (heq : E.eqt = eqts) (h0 : E.n0 = 0) (hal : E.ali = noAli) (g66_113 : Tb E 113 (plain (t113))) (g66_118 : Tb E 118 (plain (t118))) (g66_117 : Tb E 117 (plain (t117))) (a : Node) (b : Node) (i : Node) :
   bindO (aPure E Proofs.Tryz.f66 H66 N [.agg (Node.cells a),.agg (Node.cells b),.agg (Node.cells i)]) (cv sh66) = bindO (F1254 a b i) fun r => some (v66 r) := by
 unfold F1254
 rw [r_pure]
 repeat' (first | (with_reducible (first | apply ier | apply ie | apply ienr | apply ien | apply be | apply ber | apply oer | apply oe)) <;> try intro _ | ((with_reducible (first | refine alr ?_ fun _ _ _ _ => ?_ | refine al ?_ fun _ _ _ _ => ?_)); exact rfl) | simp -implicitDefEqProofs only [push_cast,seval, *] | simp only [bindO_assoc])
theorem ev67 {E : Env} {N : Nat} (hB : NB N) (hty : E.ty = tys) (heq : E.eqt = eqts) (h0 : E.n0 = 0) (hal : E.ali = ali67) (g67_113 : Tb E 113 (plain (t113))) (n : Node) :
   bindO (aPure E Proofs.Tryz.f67 H67 N [.agg (Node.cells n)]) (cv sh67) = bindO (F1255 n) fun r => some (v67 r) := by
 unfold F1255
 rw [r_pure]
 repeat' (first | (with_reducible (first | apply ier | apply ie | apply ienr | apply ien | apply be | apply ber | apply oer | apply oe)) <;> try intro _ | ((with_reducible (first | refine alr ?_ fun _ _ _ _ => ?_ | refine al ?_ fun _ _ _ _ => ?_)); exact rfl) | simp -implicitDefEqProofs only [push_cast,seval, *] | simp only [bindO_assoc])
theorem ev22 {E : Env} {N : Nat} (hB : NB N) (hty : E.ty = tys) (heq : E.eqt = eqts) (h0 : E.n0 = 0) (hal : E.ali = noAli) (g22_55 : Tb E 55 (plain (t55 N))) (g22_57 : Tb E 57 (plain (t57 N))) (g22_58 : Tb E 58 (plain (t58 N))) (g22_56 : Tb E 56 (lensRun 1 [.keep,.keep] (t2001 N))) (g22_59 : Tb E 59 (plain (t59))) (g22_60 : Tb E 60 (plain (t60))) (g22_61 : Tb E 61 (plain (t61))) (g22_62 : Tb E 62 (plain (t62))) (g22_63 : Tb E 63 (plain (t63))) (g22_64 : Tb E 64 (plain (t64))) (g22_65 : Tb E 65 (plain (t65))) (g22_66 : Tb E 66 (plain (t66))) (g22_67 : Tb E 67 (plain (t67))) (kind : Int) (p : List Node) :
   bindO (aPure E Proofs.Tryz.f22 H22 N [.int .i64 kind,.sl false 5 (List.map Node.cells p)]) (cv sh22) = bindO (F1225 N kind p) fun r => some (v22 r) := by
 unfold F1225
 rw [r_pure]
 repeat' (first | (with_reducible (first | apply ierq (a := kind) | apply ieq (a := kind) | apply ieqnr (a := kind) | apply ieqn (a := kind)) <;> intro _) | (with_reducible (first | apply ier | apply ie | apply ienr | apply ien | apply be | apply ber | apply oer | apply oe)) <;> try intro _ | ((with_reducible (first | refine alr ?_ fun _ _ _ _ => ?_ | refine al ?_ fun _ _ _ _ => ?_)); exact rfl) | simp -implicitDefEqProofs only [push_cast,seval, *] | simp only [bindO_assoc])
theorem ev23 {E : Env} {N : Nat} (hB : NB N) (hty : E.ty = tys) (heq : E.eqt = eqts) (h0 : E.n0 = 0) (hal : E.ali = noAli) (g23_20 : Tb E 20 (plain (t20 N))) (g23_21 : Tb E 21 (plain (t21))) (n : Node) :
   bindO (aPure E Proofs.Tryz.f23 H23 N [.agg (Node.cells n)]) (cv sh23) = bindO (F1226 N n) fun r => some (v23 r) := by
 unfold F1226
 rw [r_pure]
 repeat' (first | (with_reducible (first | apply ier | apply ie | apply ienr | apply ien | apply be | apply ber | apply oer | apply oe)) <;> try intro _ | ((with_reducible (first | refine alr ?_ fun _ _ _ _ => ?_ | refine al ?_ fun _ _ _ _ => ?_)); exact rfl) | simp -implicitDefEqProofs only [push_cast,seval, *] | simp only [bindO_assoc])
theorem ev68 {E : Env} {N : Nat} (hB : NB N) (self68 : Node → (List ByteArray) → (List Node) → Option (Node)) (hty : E.ty = tys) (heq : E.eqt = eqts) (h0 : E.n0 = 0) (hal : E.ali = noAli) (g68_119 : Tb E 119 (plain (t119 N))) (g68_68 : Tb E 68 (plain (ts68 self68))) (n : Node) (names : List ByteArray) (withq : List Node) :
   bindO (aPure E Proofs.Tryz.f68 H68 N [.agg (Node.cells n),.sl false 1 (List.map cS names),.sl false 5 (List.map Node.cells withq)]) (cv sh68) = bindO (F22b self68 N n names withq) fun r => some (v68 r) := by
 unfold F22b
 rw [r_pure]
 repeat' (first | (with_reducible (first | apply ier | apply ie | apply ienr | apply ien | apply be | apply ber | apply oer | apply oe)) <;> try intro _ | ((with_reducible (first | refine alr ?_ fun _ _ _ _ => ?_ | refine al ?_ fun _ _ _ _ => ?_)); exact rfl) | simp -implicitDefEqProofs only [push_cast,seval, *] | simp only [bindO_assoc])
 refine fc (S := Unit) (min (names.length : Int) (withq.length : Int)) (fun (i1 : Nat) (s3 : Unit) => [Z,.sl false 1 (List.map cS names),.sl false 5 (List.map Node.cells withq),.ptr 0 0,Z,Z,.ptr 1 0,Z,Z,Z,Z,Z,Z,Z,Z,Z,Z,Z,.int .i64 (min (names.length : Int) (withq.length : Int)),.int .i64 (i1 : Int),Z,Z,Z,Z,Z,Z,Z,Z,Z,Z,Z,Z,Z,Z,Z,Z,Z,Z,Z,Z,Z,Z,Z,Z,Z,Z,Z,Z,Z,Z,Z,Z,Z,Z,Z,Z,Z]) (fun (_ : Nat) (s3 : Unit) => [.var [.int .i64 n.op,.int .i64 n.sortf,.str n.name,.int .i64 n.num,.sl false 5 (List.map Node.cells n.kids)],.var [.int .i64 0,.int .i64 0,.str (⟨#[]⟩ : ByteArray),.int .i64 0,.sl true 5 []]]) hB () (fun _ _ _ _ _ => ?_) fun _ _ => ?_ <;> repeat' (first | (with_reducible (first | apply ier | apply ie | apply ienr | apply ien | apply be | apply ber | apply oer | apply oe)) <;> try intro _ | ((with_reducible (first | refine alr ?_ fun _ _ _ _ => ?_ | refine al ?_ fun _ _ _ _ => ?_)); exact rfl) | simp -implicitDefEqProofs only [push_cast,seval, *] | simp only [bindO_assoc])
 refine fl (S := List Node) Node.cells n.kids (fun (i7 : Nat) (s9 : List Node) => [Z,.sl false 1 (List.map cS names),.sl false 5 (List.map Node.cells withq),.ptr 0 0,Z,Z,.ptr 1 0,Z,.rs 2 0,Z,Z,Z,Z,Z,Z,Z,Z,Z,Z,Z,Z,Z,Z,Z,Z,Z,Z,Z,Z,Z,Z,Z,Z,Z,Z,Z,Z,Z,Z,Z,.sl false 5 (List.map Node.cells n.kids),.int .i64 (n.kids.length : Int),.int .i64 (i7 : Int),Z,Z,Z,Z,Z,Z,Z,Z,Z,Z,Z,Z,Z,Z]) (fun (_ : Nat) (s9 : List Node) => [.var [.int .i64 n.op,.int .i64 n.sortf,.str n.name,.int .i64 n.num,.sl false 5 (List.map Node.cells n.kids)],.var [.int .i64 0,.int .i64 0,.str (⟨#[]⟩ : ByteArray),.int .i64 0,.sl true 5 []],.row 5 0 (List.map Node.cells s9)]) hB ([]) (fun _ _ _ _ _ _ _ _ => ?_) fun _ _ => ?_ <;> repeat' (first | (with_reducible (first | apply ier | apply ie | apply ienr | apply ien | apply be | apply ber | apply oer | apply oe)) <;> try intro _ | ((with_reducible (first | refine alr ?_ fun _ _ _ _ => ?_ | refine al ?_ fun _ _ _ _ => ?_)); exact rfl) | simp -implicitDefEqProofs only [push_cast,seval, *] | simp only [bindO_assoc])
 refine fl (S := List Node) Node.cells n.kids (fun (i11 : Nat) (s13 : List Node) => [Z,.sl false 1 (List.map cS names),.sl false 5 (List.map Node.cells withq),.ptr 0 0,Z,Z,.ptr 1 0,Z,.rs 2 0,Z,Z,Z,Z,Z,Z,Z,Z,Z,Z,Z,Z,Z,Z,Z,Z,Z,Z,Z,Z,Z,Z,Z,Z,Z,Z,Z,Z,Z,Z,Z,.sl false 5 (List.map Node.cells n.kids),.int .i64 (n.kids.length : Int),.int .i64 (i11 : Int),Z,Z,Z,Z,Z,Z,Z,Z,Z,Z,Z,Z,Z,Z]) (fun (_ : Nat) (s13 : List Node) => [.var [.int .i64 n.op,.int .i64 n.sortf,.str n.name,.int .i64 n.num,.sl false 5 (List.map Node.cells n.kids)],.var [.int .i64 0,.int .i64 0,.str (⟨#[]⟩ : ByteArray),.int .i64 0,.sl true 5 []],.row 5 0 (List.map Node.cells s13)]) hB ([]) (fun _ _ _ _ _ _ _ _ => ?_) fun _ _ => ?_ <;> repeat' (first | (with_reducible (first | apply ier | apply ie | apply ienr | apply ien | apply be | apply ber | apply oer | apply oe)) <;> try intro _ | ((with_reducible (first | refine alr ?_ fun _ _ _ _ => ?_ | refine al ?_ fun _ _ _ _ => ?_)); exact rfl) | simp -implicitDefEqProofs only [push_cast,seval, *] | simp only [bindO_assoc])
theorem ev24 {E : Env} {N : Nat} (hB : NB N) (hty : E.ty = tys) (heq : E.eqt = eqts) (h0 : E.n0 = 0) (hal : E.ali = noAli) (g24_68 : Tb E 68 (plain (t68 N))) (n : Node) (name : ByteArray) (withq : Node) :
   bindO (aPure E Proofs.Tryz.f24 H24 N [.agg (Node.cells n),.str name,.agg (Node.cells withq)]) (cv sh24) = bindO (F24 N n name withq) fun r => some (v24 r) := by
 unfold F24
 rw [r_pure]
 repeat' (first | (with_reducible (first | apply ier | apply ie | apply ienr | apply ien | apply be | apply ber | apply oer | apply oe)) <;> try intro _ | ((with_reducible (first | refine alr ?_ fun _ _ _ _ => ?_ | refine al ?_ fun _ _ _ _ => ?_)); exact rfl) | simp -implicitDefEqProofs only [push_cast,seval, *] | simp only [bindO_assoc])
end Go.Abs.Try
