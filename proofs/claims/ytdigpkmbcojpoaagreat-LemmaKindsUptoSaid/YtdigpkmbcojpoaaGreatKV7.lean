import Derived.Test.YtdigpkmbcojpoaaGreatKD
set_option linter.unusedSimpArgs false
set_option linter.unusedVariables false
namespace Go.Abs.Try
open Go.RowKit
set_option maxRecDepth 100000
set_option maxHeartbeats 4000000
attribute [local push_cast] F1256_f1 F1256_s1 F1298_f1 F1298_s1 F83_f2 F83_s2 Proofs.Tryz.f100 Proofs.Tryz.f101 Proofs.Tryz.f102 Proofs.Tryz.f120 Proofs.Tryz.f121 Proofs.Tryz.f122 Proofs.Tryz.f123 Proofs.Tryz.f124 Proofs.Tryz.f125 Proofs.Tryz.f126 Proofs.Tryz.f13 Proofs.Tryz.f136 Proofs.Tryz.f28 Proofs.Tryz.f40 Proofs.Tryz.f69 Proofs.Tryz.f70 Proofs.Tryz.f97 Proofs.Tryz.f98 Proofs.Tryz.f99 ty2 ty22 ty25 ty3 ty71 ty9
theorem ev97 {E : Env} {N : Nat} (hB : NB N) (hty : E.ty = tys) (heq : E.eqt = eqts) (h0 : E.n0 = 0) (hal : E.ali = noAli) (g97_135 : Tb E 135 (plain (t135 N))) (w : Node) (a : Node) (b : Node) :
   bindO (aPure E Proofs.Tryz.f97 H97 N [.agg (Node.cells w), .agg (Node.cells a), .agg (Node.cells b)]) (cv sh97) = bindO (F1276 N w a b) fun r => some (v97 r) := by
 unfold F1276
 rw [r_pure]
 repeat' (first | (with_reducible (first | apply ier | apply ie | apply ienr | apply ien | apply be | apply ber | apply oer | apply oe)) <;> try intro _ | ((with_reducible (first | refine alr ?_ fun _ _ _ _ => ?_ | refine al ?_ fun _ _ _ _ => ?_)); exact rfl) | simp -implicitDefEqProofs only [push_cast, seval, *] | simp only [bindO_assoc])
theorem ev120 {E : Env} {N : Nat} (hB : NB N) (hty : E.ty = tys) (heq : E.eqt = eqts) (h0 : E.n0 = 0) (hal : E.ali = noAli) (g120_19 : Tb E 19 (plain (t19))) (a : Node) (b : Node) :
   bindO (aPure E Proofs.Tryz.f120 H120 N [.agg (Node.cells a), .agg (Node.cells b)]) (cv sh120) = bindO (F1288 a b) fun r => some (v120 r) := by
 unfold F1288
 rw [r_pure]
 repeat' (first | (with_reducible (first | apply ier | apply ie | apply ienr | apply ien | apply be | apply ber | apply oer | apply oe)) <;> try intro _ | ((with_reducible (first | refine alr ?_ fun _ _ _ _ => ?_ | refine al ?_ fun _ _ _ _ => ?_)); exact rfl) | simp -implicitDefEqProofs only [push_cast, seval, *] | simp only [bindO_assoc])
theorem ev121 {E : Env} {N : Nat} (hB : NB N) (hty : E.ty = tys) (heq : E.eqt = eqts) (h0 : E.n0 = 0) (hal : E.ali = noAli) (g121_18 : Tb E 18 (plain (t18))) (a : Node) :
   bindO (aPure E Proofs.Tryz.f121 H121 N [.agg (Node.cells a)]) (cv sh121) = bindO (F1289 a) fun r => some (v121 r) := by
 unfold F1289
 rw [r_pure]
 repeat' (first | (with_reducible (first | apply ier | apply ie | apply ienr | apply ien | apply be | apply ber | apply oer | apply oe)) <;> try intro _ | ((with_reducible (first | refine alr ?_ fun _ _ _ _ => ?_ | refine al ?_ fun _ _ _ _ => ?_)); exact rfl) | simp -implicitDefEqProofs only [push_cast, seval, *] | simp only [bindO_assoc])
theorem ev124 {E : Env} {N : Nat} (hB : NB N) (hty : E.ty = tys) (heq : E.eqt = eqts) (h0 : E.n0 = 0) (hal : E.ali = noAli) (g124_19 : Tb E 19 (plain (t19))) (a : Node) (b : Node) :
   bindO (aPure E Proofs.Tryz.f124 H124 N [.agg (Node.cells a), .agg (Node.cells b)]) (cv sh124) = bindO (F1292 a b) fun r => some (v124 r) := by
 unfold F1292
 rw [r_pure]
 repeat' (first | (with_reducible (first | apply ier | apply ie | apply ienr | apply ien | apply be | apply ber | apply oer | apply oe)) <;> try intro _ | ((with_reducible (first | refine alr ?_ fun _ _ _ _ => ?_ | refine al ?_ fun _ _ _ _ => ?_)); exact rfl) | simp -implicitDefEqProofs only [push_cast, seval, *] | simp only [bindO_assoc])
theorem ev123 {E : Env} {N : Nat} (hB : NB N) (hty : E.ty = tys) (heq : E.eqt = eqts) (h0 : E.n0 = 0) (hal : E.ali = noAli) (g123_19 : Tb E 19 (plain (t19))) (a : Node) (b : Node) :
   bindO (aPure E Proofs.Tryz.f123 H123 N [.agg (Node.cells a), .agg (Node.cells b)]) (cv sh123) = bindO (F1291 a b) fun r => some (v123 r) := by
 unfold F1291
 rw [r_pure]
 repeat' (first | (with_reducible (first | apply ier | apply ie | apply ienr | apply ien | apply be | apply ber | apply oer | apply oe)) <;> try intro _ | ((with_reducible (first | refine alr ?_ fun _ _ _ _ => ?_ | refine al ?_ fun _ _ _ _ => ?_)); exact rfl) | simp -implicitDefEqProofs only [push_cast, seval, *] | simp only [bindO_assoc])
theorem ev99 {E : Env} {N : Nat} (hB : NB N) (hty : E.ty = tys) (heq : E.eqt = eqts) (h0 : E.n0 = 0) (hal : E.ali = noAli) (g99_19 : Tb E 19 (plain (t19))) (g99_120 : Tb E 120 (plain (t120))) (g99_121 : Tb E 121 (plain (t121))) (g99_124 : Tb E 124 (plain (t124))) (g99_123 : Tb E 123 (plain (t123))) (a : Node) (b : Node) (w : Node) :
   bindO (aPure E Proofs.Tryz.f99 H99 N [.agg (Node.cells a), .agg (Node.cells b), .agg (Node.cells w)]) (cv sh99) = bindO (F1278 a b w) fun r => some (v99 r) := by
 unfold F1278
 rw [r_pure]
 repeat' (first | (with_reducible (first | apply ier | apply ie | apply ienr | apply ien | apply be | apply ber | apply oer | apply oe)) <;> try intro _ | ((with_reducible (first | refine alr ?_ fun _ _ _ _ => ?_ | refine al ?_ fun _ _ _ _ => ?_)); exact rfl) | simp -implicitDefEqProofs only [push_cast, seval, *] | simp only [bindO_assoc])
theorem ev136 {E : Env} {N : Nat} (hB : NB N) (hty : E.ty = tys) (heq : E.eqt = eqts) (h0 : E.n0 = 0) (hal : E.ali = noAli) (g136_10 : Tb E 10 (plain (t10 N))) (l : List Node) (n : Node) :
   bindO (aPure E Proofs.Tryz.f136 H136 N [.sl false 5 (List.map Node.cells l), .agg (Node.cells n)]) (cv sh136) = bindO (F1298 N l n) fun r => some (v136 r) := by
 unfold F1298
 rw [r_pure]
 repeat' (first | (with_reducible (first | apply ier | apply ie | apply ienr | apply ien | apply be | apply ber | apply oer | apply oe)) <;> try intro _ | ((with_reducible (first | refine alr ?_ fun _ _ _ _ => ?_ | refine al ?_ fun _ _ _ _ => ?_)); exact rfl) | simp -implicitDefEqProofs only [push_cast, seval, *] | simp only [bindO_assoc])
 refine fl (S := Unit) Node.cells l (fun (i1 : Nat) (s3 : Unit) => [Z, Z, Z, .ptr 0 0, Z, Z, Z, .sl false 5 (List.map Node.cells l), .int .i64 (l.length : Int), .int .i64 (i1 : Int), Z, Z, Z, Z, Z, Z, Z]) (fun (_ : Nat) (s3 : Unit) => [.var [.int .i64 n.op, .int .i64 n.sortf, .str n.name, .int .i64 n.num, .sl false 5 (List.map Node.cells n.kids)]]) hB () (fun _ _ _ _ _ _ _ _ => ?_) fun _ _ => ?_ <;> repeat' (first | (with_reducible (first | apply ier | apply ie | apply ienr | apply ien | apply be | apply ber | apply oer | apply oe)) <;> try intro _ | ((with_reducible (first | refine alr ?_ fun _ _ _ _ => ?_ | refine al ?_ fun _ _ _ _ => ?_)); exact rfl) | simp -implicitDefEqProofs only [push_cast, seval, *] | simp only [bindO_assoc])
theorem ev98 {E : Env} {N : Nat} (hB : NB N) (hty : E.ty = tys) (heq : E.eqt = eqts) (h0 : E.n0 = 0) (hal : E.ali = noAli) (g98_136 : Tb E 136 (plain (t136 N))) (n : Node) (l : List Node) :
   bindO (aPure E Proofs.Tryz.f98 H98 N [.agg (Node.cells n), .sl false 5 (List.map Node.cells l)]) (cv sh98) = bindO (F1277 N n l) fun r => some (v98 r) := by
 unfold F1277
 rw [r_pure]
 repeat' (first | (with_reducible (first | apply ier | apply ie | apply ienr | apply ien | apply be | apply ber | apply oer | apply oe)) <;> try intro _ | ((with_reducible (first | refine alr ?_ fun _ _ _ _ => ?_ | refine al ?_ fun _ _ _ _ => ?_)); exact rfl) | simp -implicitDefEqProofs only [push_cast, seval, *] | simp only [bindO_assoc])
theorem ev70 {E : Env} {N : Nat} (hB : NB N) (hty : E.ty = tys) (heq : E.eqt = eqts) (h0 : E.n0 = 0) (hal : E.ali = noAli) (g70_86 : Tb E 86 (plain (t86 N))) (g70_19 : Tb E 19 (plain (t19))) (a : Node) (b : Node) :
   bindO (aPure E Proofs.Tryz.f70 H70 N [.agg (Node.cells a), .agg (Node.cells b)]) (cv sh70) = bindO (F1257 N a b) fun r => some (v70 r) := by
 unfold F1257
 rw [r_pure]
 repeat' (first | (with_reducible (first | apply ier | apply ie | apply ienr | apply ien | apply be | apply ber | apply oer | apply oe)) <;> try intro _ | ((with_reducible (first | refine alr ?_ fun _ _ _ _ => ?_ | refine al ?_ fun _ _ _ _ => ?_)); exact rfl) | simp -implicitDefEqProofs only [push_cast, seval, *] | simp only [bindO_assoc])
theorem ev122 {E : Env} {N : Nat} (hB : NB N) (hty : E.ty = tys) (heq : E.eqt = eqts) (h0 : E.n0 = 0) (hal : E.ali = noAli) (g122_19 : Tb E 19 (plain (t19))) (a : Node) (b : Node) :
   bindO (aPure E Proofs.Tryz.f122 H122 N [.agg (Node.cells a), .agg (Node.cells b)]) (cv sh122) = bindO (F1290 a b) fun r => some (v122 r) := by
 unfold F1290
 rw [r_pure]
 repeat' (first | (with_reducible (first | apply ier | apply ie | apply ienr | apply ien | apply be | apply ber | apply oer | apply oe)) <;> try intro _ | ((with_reducible (first | refine alr ?_ fun _ _ _ _ => ?_ | refine al ?_ fun _ _ _ _ => ?_)); exact rfl) | simp -implicitDefEqProofs only [push_cast, seval, *] | simp only [bindO_assoc])
theorem ev100 {E : Env} {N : Nat} (hB : NB N) (hty : E.ty = tys) (heq : E.eqt = eqts) (h0 : E.n0 = 0) (hal : E.ali = noAli) (g100_70 : Tb E 70 (plain (t70 N))) (g100_120 : Tb E 120 (plain (t120))) (g100_122 : Tb E 122 (plain (t122))) (g100_121 : Tb E 121 (plain (t121))) (g100_123 : Tb E 123 (plain (t123))) (a : Node) (b : Node) (w : Node) :
   bindO (aPure E Proofs.Tryz.f100 H100 N [.agg (Node.cells a), .agg (Node.cells b), .agg (Node.cells w)]) (cv sh100) = bindO (F1279 N a b w) fun r => some (v100 r) := by
 unfold F1279
 rw [r_pure]
 repeat' (first | (with_reducible (first | apply ier | apply ie | apply ienr | apply ien | apply be | apply ber | apply oer | apply oe)) <;> try intro _ | ((with_reducible (first | refine alr ?_ fun _ _ _ _ => ?_ | refine al ?_ fun _ _ _ _ => ?_)); exact rfl) | simp -implicitDefEqProofs only [push_cast, seval, *] | simp only [bindO_assoc])
theorem ev126 {E : Env} {N : Nat} (hB : NB N) (hty : E.ty = tys) (heq : E.eqt = eqts) (h0 : E.n0 = 0) (hal : E.ali = noAli) (g126_18 : Tb E 18 (plain (t18))) (a : Node) :
   bindO (aPure E Proofs.Tryz.f126 H126 N [.agg (Node.cells a)]) (cv sh126) = bindO (F1294 a) fun r => some (v126 r) := by
 unfold F1294
 rw [r_pure]
 repeat' (first | (with_reducible (first | apply ier | apply ie | apply ienr | apply ien | apply be | apply ber | apply oer | apply oe)) <;> try intro _ | ((with_reducible (first | refine alr ?_ fun _ _ _ _ => ?_ | refine al ?_ fun _ _ _ _ => ?_)); exact rfl) | simp -implicitDefEqProofs only [push_cast, seval, *] | simp only [bindO_assoc])
theorem ev125 {E : Env} {N : Nat} (hB : NB N) (hty : E.ty = tys) (heq : E.eqt = eqts) (h0 : E.n0 = 0) (hal : E.ali = noAli) (g125_19 : Tb E 19 (plain (t19))) (a : Node) (b : Node) :
   bindO (aPure E Proofs.Tryz.f125 H125 N [.agg (Node.cells a), .agg (Node.cells b)]) (cv sh125) = bindO (F1293 a b) fun r => some (v125 r) := by
 unfold F1293
 rw [r_pure]
 repeat' (first | (with_reducible (first | apply ier | apply ie | apply ienr | apply ien | apply be | apply ber | apply oer | apply oe)) <;> try intro _ | ((with_reducible (first | refine alr ?_ fun _ _ _ _ => ?_ | refine al ?_ fun _ _ _ _ => ?_)); exact rfl) | simp -implicitDefEqProofs only [push_cast, seval, *] | simp only [bindO_assoc])
theorem ev101 {E : Env} {N : Nat} (hB : NB N) (hty : E.ty = tys) (heq : E.eqt = eqts) (h0 : E.n0 = 0) (hal : E.ali = noAli) (g101_70 : Tb E 70 (plain (t70 N))) (g101_126 : Tb E 126 (plain (t126))) (g101_121 : Tb E 121 (plain (t121))) (g101_125 : Tb E 125 (plain (t125))) (g101_123 : Tb E 123 (plain (t123))) (a : Node) (b : Node) (w : Node) :
   bindO (aPure E Proofs.Tryz.f101 H101 N [.agg (Node.cells a), .agg (Node.cells b), .agg (Node.cells w)]) (cv sh101) = bindO (F1280 N a b w) fun r => some (v101 r) := by
 unfold F1280
 rw [r_pure]
 repeat' (first | (with_reducible (first | apply ier | apply ie | apply ienr | apply ien | apply be | apply ber | apply oer | apply oe)) <;> try intro _ | ((with_reducible (first | refine alr ?_ fun _ _ _ _ => ?_ | refine al ?_ fun _ _ _ _ => ?_)); exact rfl) | simp -implicitDefEqProofs only [push_cast, seval, *] | simp only [bindO_assoc])
theorem ev40 {E : Env} {N : Nat} (hB : NB N) (hty : E.ty = tys) (heq : E.eqt = eqts) (h0 : E.n0 = 0) (hal : E.ali = ali40) (g40_96 : Tb E 96 (plain (t96 N))) (g40_97 : Tb E 97 (plain (t97 N))) (g40_99 : Tb E 99 (plain (t99))) (g40_98 : Tb E 98 (plain (t98 N))) (g40_86 : Tb E 86 (plain (t86 N))) (g40_100 : Tb E 100 (plain (t100 N))) (g40_101 : Tb E 101 (plain (t101 N))) (n : Node) :
   bindO (aPure E Proofs.Tryz.f40 H40 N [.agg (Node.cells n)]) (cv sh40) = bindO (F1238 N n) fun r => some (v40 r) := by
 unfold F1238
 rw [r_pure]
 repeat' (first | (with_reducible (first | apply ier | apply ie | apply ienr | apply ien | apply be | apply ber | apply oer | apply oe)) <;> try intro _ | ((with_reducible (first | refine alr ?_ fun _ _ _ _ => ?_ | refine al ?_ fun _ _ _ _ => ?_)); exact rfl) | simp -implicitDefEqProofs only [push_cast, seval, *] | simp only [bindO_assoc])
theorem ev13 {E : Env} {N : Nat} (hB : NB N) (hty : E.ty = tys) (heq : E.eqt = eqts) (h0 : E.n0 = 0) (hal : E.ali = noAli) (g13_27 : Tb E 27 (plain (t27 N))) (g13_26 : Tb E 26 (plain (t26 N))) (g13_40 : Tb E 40 (plain (t40 N))) (n : Node) :
   bindO (aPure E Proofs.Tryz.f13 H13 N [.agg (Node.cells n)]) (cv sh13) = bindO (F1218 N n) fun r => some (v13 r) := by
 unfold F1218
 rw [r_pure]
 repeat' (first | (with_reducible (first | apply ier | apply ie | apply ienr | apply ien | apply be | apply ber | apply oer | apply oe)) <;> try intro _ | ((with_reducible (first | refine alr ?_ fun _ _ _ _ => ?_ | refine al ?_ fun _ _ _ _ => ?_)); exact rfl) | simp -implicitDefEqProofs only [push_cast, seval, *] | simp only [bindO_assoc])
theorem ev69 {E : Env} {N : Nat} (hB : NB N) (hty : E.ty = tys) (heq : E.eqt = eqts) (h0 : E.n0 = 0) (hal : E.ali = noAli) (g69_86 : Tb E 86 (plain (t86 N))) (a : Node) (b : Node) :
   bindO (aPure E Proofs.Tryz.f69 H69 N [.agg (Node.cells a), .agg (Node.cells b)]) (cv sh69) = bindO (F1256 N a b) fun r => some (v69 r) := by
 unfold F1256
 rw [r_pure]
 repeat' (first | (with_reducible (first | apply ier | apply ie | apply ienr | apply ien | apply be | apply ber | apply oer | apply oe)) <;> try intro _ | ((with_reducible (first | refine alr ?_ fun _ _ _ _ => ?_ | refine al ?_ fun _ _ _ _ => ?_)); exact rfl) | simp -implicitDefEqProofs only [push_cast, seval, *] | simp only [bindO_assoc])
 refine fl (S := Unit) Node.cells a.kids (fun (i1 : Nat) (s3 : Unit) => [Z, Z, .ptr 0 0, .ptr 1 0, Z, Z, Z, Z, Z, Z, Z, Z, Z, Z, Z, Z, Z, Z, Z, Z, Z, Z, Z, Z, Z, Z, Z, Z, Z, Z, Z, Z, Z, Z, Z, Z, Z, Z, Z, Z, Z, Z, Z, Z, Z, .int .i64 (a.kids.length : Int), .int .i64 (i1 : Int), Z, Z, Z, Z, Z, Z, Z, Z, Z, Z, Z, Z, Z, Z, Z, Z]) (fun (_ : Nat) (s3 : Unit) => [.var [.int .i64 a.op, .int .i64 a.sortf, .str a.name, .int .i64 a.num, .sl false 5 (List.map Node.cells a.kids)], .var [.int .i64 b.op, .int .i64 b.sortf, .str b.name, .int .i64 b.num, .sl false 5 (List.map Node.cells b.kids)]]) hB () (fun _ _ _ _ _ _ _ _ => ?_) fun _ _ => ?_ <;> repeat' (first | (with_reducible (first | apply ier | apply ie | apply ienr | apply ien | apply be | apply ber | apply oer | apply oe)) <;> try intro _ | ((with_reducible (first | refine alr ?_ fun _ _ _ _ => ?_ | refine al ?_ fun _ _ _ _ => ?_)); exact rfl) | simp -implicitDefEqProofs only [push_cast, seval, *] | simp only [bindO_assoc])
theorem ev2005 {E : Env} {N : Nat} (hB : NB N) (self2005 : Node → Option (List Node)) (hty : E.ty = tys) (heq : E.eqt = eqts) (h0 : E.n0 = 0) (hal : E.ali = ali2005) (g2005_102 : Tb E 102 (lensRun 0 [.keep] (ts2005 self2005))) (u1 : Node) :
   bindO (aLensN E Proofs.Tryz.f102 H2005 N 0 0 0 [.app 5] [.agg (Node.cells u1)] []) (cvX sh2005 sw2005) = bindO (F1393b self2005 N u1) fun r => some (v2005 u1 r, so2005 u1 r) := by
 unfold F1393b
 rw [r_lens]
 repeat' (first | (with_reducible (first | apply ier | apply ie | apply ienr | apply ien | apply be | apply ber | apply oer | apply oe)) <;> try intro _ | ((with_reducible (first | refine alr ?_ fun _ _ _ _ => ?_ | refine al ?_ fun _ _ _ _ => ?_)); exact rfl) | simp -implicitDefEqProofs only [push_cast, seval, *] | simp only [bindO_assoc] | exact rfl)
theorem ev28 {E : Env} {N : Nat} (hB : NB N) (self28 : Node → Option (Node)) (hty : E.ty = tys) (heq : E.eqt = eqts) (h0 : E.n0 = 0) (hal : E.ali = noAli) (g28_28 : Tb E 28 (plain (ts28 self28))) (n : Node) :
   bindO (aPure E Proofs.Tryz.f28 H28 N [.agg (Node.cells n)]) (cv sh28) = bindO (F83b self28 N n) fun r => some (v28 r) := by
 unfold F83b
 rw [r_pure]
 repeat' (first | (with_reducible (first | apply ier | apply ie | apply ienr | apply ien | apply be | apply ber | apply oer | apply oe)) <;> try intro _ | ((with_reducible (first | refine alr ?_ fun _ _ _ _ => ?_ | refine al ?_ fun _ _ _ _ => ?_)); exact rfl) | simp -implicitDefEqProofs only [push_cast, seval, *] | simp only [bindO_assoc])
 refine fl (S := List Node) Node.cells n.kids (fun (i4 : Nat) (s6 : List Node) => [Z, Z, .ptr 1 0, .ptr 2 0, Z, Z, Z, Z, Z, Z, Z, Z, Z, Z, Z, Z, Z, .sl false 5 (List.map Node.cells n.kids), .int .i64 (n.kids.length : Int), .int .i64 (i4 : Int), Z, Z, Z, Z, Z, Z, Z, Z, Z, Z, Z, Z, Z]) (fun (_ : Nat) (s6 : List Node) => [.var [.int .i64 n.op, .int .i64 n.sortf, .str n.name, .int .i64 n.num, .sl false 5 (List.map Node.cells n.kids)], .var [.int .i64 0, .int .i64 0, .str (⟨#[]⟩ : ByteArray), .int .i64 0, .sl true 5 []], .var [.int .i64 n.op, .int .i64 n.sortf, .str n.name, .int .i64 n.num, .rs 3 0], .row 5 0 (List.map Node.cells s6)]) hB ([]) (fun _ _ _ _ _ _ _ _ => ?_) fun _ _ => ?_ <;> repeat' (first | (with_reducible (first | apply ier | apply ie | apply ienr | apply ien | apply be | apply ber | apply oer | apply oe)) <;> try intro _ | ((with_reducible (first | refine alr ?_ fun _ _ _ _ => ?_ | refine al ?_ fun _ _ _ _ => ?_)); exact rfl) | simp -implicitDefEqProofs only [push_cast, seval, *] | simp only [bindO_assoc])
end Go.Abs.Try
