import Derived.Test.YtdigpkmbcojpoaaGreatMD
set_option linter.unusedSimpArgs false
set_option linter.unusedVariables false
namespace Go.Abs.Try
open Go.RowKit
set_option maxRecDepth 100000
set_option maxHeartbeats 4000000
attribute [local push_cast] F1227_f1 F1227_s1 F1259_f1 F1259_s1 Proofs.Tryz.f120 Proofs.Tryz.f121 Proofs.Tryz.f122 Proofs.Tryz.f123 Proofs.Tryz.f124 Proofs.Tryz.f125 Proofs.Tryz.f126 Proofs.Tryz.f25 Proofs.Tryz.f27 Proofs.Tryz.f73 Proofs.Tryz.f74 Proofs.Tryz.f75 Proofs.Tryz.f76 Proofs.Tryz.f77 Proofs.Tryz.f78 Proofs.Tryz.f79 Proofs.Tryz.f80 Proofs.Tryz.f81 Proofs.Tryz.f82 ty22 ty25 ty3 ty71
theorem ev27 {E : Env} {N : Nat} (hB : NB N) (hty : E.ty = tys) (heq : E.eqt = eqts) (h0 : E.n0 = 0) (hal : E.ali = noAli) (g27_7 : Tb E 7 (plain (t7 N))) (g27_83 : Tb E 83 (plain (t83 N))) (g27_84 : Tb E 84 (plain (t84 N))) (g27_85 : Tb E 85 (plain (t85 N))) (g27_86 : Tb E 86 (plain (t86 N))) (n : Node) (sortq : Int) :
   bindO (aPure E Proofs.Tryz.f27 H27 N [.agg (Node.cells n), .int .i64 sortq]) (cv sh27) = bindO (F15 N n sortq) fun r => some (v27 r) := by
 unfold F15
 rw [r_pure]
 repeat' (first | (with_reducible (first | apply ier | apply ie | apply ienr | apply ien | apply be | apply ber | apply oer | apply oe)) <;> try intro _ | ((with_reducible (first | refine alr ?_ fun _ _ _ _ => ?_ | refine al ?_ fun _ _ _ _ => ?_)); exact rfl) | simp -implicitDefEqProofs only [push_cast, seval, *] | simp only [bindO_assoc])
theorem ev73 {E : Env} {N : Nat} (hB : NB N) (hty : E.ty = tys) (heq : E.eqt = eqts) (h0 : E.n0 = 0) (hal : E.ali = noAli) (g73_27 : Tb E 27 (plain (t27 N))) (g73_86 : Tb E 86 (plain (t86 N))) (parts : List Node) (sorts : List Int) :
   bindO (aPure E Proofs.Tryz.f73 H73 N [.sl false 5 (List.map Node.cells parts), .sl false 1 (List.map (cI .i64) sorts)]) (cv sh73) = bindO (F1259 N parts sorts) fun r => some (v73 r) := by
 unfold F1259
 rw [r_pure]
 repeat' (first | (with_reducible (first | apply ier | apply ie | apply ienr | apply ien | apply be | apply ber | apply oer | apply oe)) <;> try intro _ | ((with_reducible (first | refine alr ?_ fun _ _ _ _ => ?_ | refine al ?_ fun _ _ _ _ => ?_)); exact rfl) | simp -implicitDefEqProofs only [push_cast, seval, *] | simp only [bindO_assoc])
 refine fl (S := Unit) (cI .i64) sorts (fun (i1 : Nat) (s3 : Unit) => [.sl false 5 (List.map Node.cells parts), Z, Z, Z, Z, Z, Z, Z, Z, Z, Z, Z, .sl false 1 (List.map (cI .i64) sorts), .int .i64 (sorts.length : Int), .int .i64 (i1 : Int), Z, Z, Z, Z, Z, Z, Z, Z, Z, Z, Z, Z, Z, Z, Z, Z, Z, Z, Z, Z]) (fun (_ : Nat) (s3 : Unit) => []) hB () (fun _ _ _ _ _ _ _ _ => ?_) fun _ _ => ?_ <;> repeat' (first | (with_reducible (first | apply ier | apply ie | apply ienr | apply ien | apply be | apply ber | apply oer | apply oe)) <;> try intro _ | ((with_reducible (first | refine alr ?_ fun _ _ _ _ => ?_ | refine al ?_ fun _ _ _ _ => ?_)); exact rfl) | simp -implicitDefEqProofs only [push_cast, seval, *] | simp only [bindO_assoc])
theorem ev120 {E : Env} {N : Nat} (hB : NB N) (hty : E.ty = tys) (heq : E.eqt = eqts) (h0 : E.n0 = 0) (hal : E.ali = noAli) (g120_19 : Tb E 19 (plain (t19))) (a : Node) (b : Node) :
   bindO (aPure E Proofs.Tryz.f120 H120 N [.agg (Node.cells a), .agg (Node.cells b)]) (cv sh120) = bindO (F1288 a b) fun r => some (v120 r) := by
 unfold F1288
 rw [r_pure]
 repeat' (first | (with_reducible (first | apply ier | apply ie | apply ienr | apply ien | apply be | apply ber | apply oer | apply oe)) <;> try intro _ | ((with_reducible (first | refine alr ?_ fun _ _ _ _ => ?_ | refine al ?_ fun _ _ _ _ => ?_)); exact rfl) | simp -implicitDefEqProofs only [push_cast, seval, *] | simp only [bindO_assoc])
theorem ev121 {E : Env} {N : Nat} (hB : NB N) (hty : E.ty = tys) (heq : E.eqt = eqts) (h0 : E.n0 = 0) (hal : E.ali = noAli) (g121_18 : Tb E 18 (plain (t18))) (a : Node) :
   bindO (aPure E Proofs.Tryz.f121 H121 N [.agg (Node.cells a)]) (cv sh121) = bindO (F1289 a) fun r => some (v121 r) := by
 unfold F1289
 rw [r_pure]
 repeat' (first | (with_reducible (first | apply ier | apply ie | apply ienr | apply ien | apply be | apply ber | apply oer | apply oe)) <;> try intro _ | ((with_reducible (first | refine alr ?_ fun _ _ _ _ => ?_ | refine al ?_ fun _ _ _ _ => ?_)); exact rfl) | simp -implicitDefEqProofs only [push_cast, seval, *] | simp only [bindO_assoc])
theorem ev122 {E : Env} {N : Nat} (hB : NB N) (hty : E.ty = tys) (heq : E.eqt = eqts) (h0 : E.n0 = 0) (hal : E.ali = noAli) (g122_19 : Tb E 19 (plain (t19))) (a : Node) (b : Node) :
   bindO (aPure E Proofs.Tryz.f122 H122 N [.agg (Node.cells a), .agg (Node.cells b)]) (cv sh122) = bindO (F1290 a b) fun r => some (v122 r) := by
 unfold F1290
 rw [r_pure]
 repeat' (first | (with_reducible (first | apply ier | apply ie | apply ienr | apply ien | apply be | apply ber | apply oer | apply oe)) <;> try intro _ | ((with_reducible (first | refine alr ?_ fun _ _ _ _ => ?_ | refine al ?_ fun _ _ _ _ => ?_)); exact rfl) | simp -implicitDefEqProofs only [push_cast, seval, *] | simp only [bindO_assoc])
theorem ev123 {E : Env} {N : Nat} (hB : NB N) (hty : E.ty = tys) (heq : E.eqt = eqts) (h0 : E.n0 = 0) (hal : E.ali = noAli) (g123_19 : Tb E 19 (plain (t19))) (a : Node) (b : Node) :
   bindO (aPure E Proofs.Tryz.f123 H123 N [.agg (Node.cells a), .agg (Node.cells b)]) (cv sh123) = bindO (F1291 a b) fun r => some (v123 r) := by
 unfold F1291
 rw [r_pure]
 repeat' (first | (with_reducible (first | apply ier | apply ie | apply ienr | apply ien | apply be | apply ber | apply oer | apply oe)) <;> try intro _ | ((with_reducible (first | refine alr ?_ fun _ _ _ _ => ?_ | refine al ?_ fun _ _ _ _ => ?_)); exact rfl) | simp -implicitDefEqProofs only [push_cast, seval, *] | simp only [bindO_assoc])
theorem ev124 {E : Env} {N : Nat} (hB : NB N) (hty : E.ty = tys) (heq : E.eqt = eqts) (h0 : E.n0 = 0) (hal : E.ali = noAli) (g124_19 : Tb E 19 (plain (t19))) (a : Node) (b : Node) :
   bindO (aPure E Proofs.Tryz.f124 H124 N [.agg (Node.cells a), .agg (Node.cells b)]) (cv sh124) = bindO (F1292 a b) fun r => some (v124 r) := by
 unfold F1292
 rw [r_pure]
 repeat' (first | (with_reducible (first | apply ier | apply ie | apply ienr | apply ien | apply be | apply ber | apply oer | apply oe)) <;> try intro _ | ((with_reducible (first | refine alr ?_ fun _ _ _ _ => ?_ | refine al ?_ fun _ _ _ _ => ?_)); exact rfl) | simp -implicitDefEqProofs only [push_cast, seval, *] | simp only [bindO_assoc])
theorem ev74 {E : Env} {N : Nat} (hB : NB N) (hty : E.ty = tys) (heq : E.eqt = eqts) (h0 : E.n0 = 0) (hal : E.ali = noAli) (g74_120 : Tb E 120 (plain (t120))) (g74_121 : Tb E 121 (plain (t121))) (g74_70 : Tb E 70 (plain (t70 N))) (g74_122 : Tb E 122 (plain (t122))) (g74_123 : Tb E 123 (plain (t123))) (g74_124 : Tb E 124 (plain (t124))) (e : Node) (s : Node) :
   bindO (aPure E Proofs.Tryz.f74 H74 N [.agg (Node.cells e), .agg (Node.cells s)]) (cv sh74) = bindO (F1260 N e s) fun r => some (v74 r) := by
 unfold F1260
 rw [r_pure]
 repeat' (first | (with_reducible (first | apply ier | apply ie | apply ienr | apply ien | apply be | apply ber | apply oer | apply oe)) <;> try intro _ | ((with_reducible (first | refine alr ?_ fun _ _ _ _ => ?_ | refine al ?_ fun _ _ _ _ => ?_)); exact rfl) | simp -implicitDefEqProofs only [push_cast, seval, *] | simp only [bindO_assoc])
theorem ev75 {E : Env} {N : Nat} (hB : NB N) (hty : E.ty = tys) (heq : E.eqt = eqts) (h0 : E.n0 = 0) (hal : E.ali = noAli) (g75_70 : Tb E 70 (plain (t70 N))) (g75_120 : Tb E 120 (plain (t120))) (g75_122 : Tb E 122 (plain (t122))) (g75_71 : Tb E 71 (plain (t71))) (e : Node) (f : Node) (s : Node) :
   bindO (aPure E Proofs.Tryz.f75 H75 N [.agg (Node.cells e), .agg (Node.cells f), .agg (Node.cells s)]) (cv sh75) = bindO (F1261 N e f s) fun r => some (v75 r) := by
 unfold F1261
 rw [r_pure]
 repeat' (first | (with_reducible (first | apply ier | apply ie | apply ienr | apply ien | apply be | apply ber | apply oer | apply oe)) <;> try intro _ | ((with_reducible (first | refine alr ?_ fun _ _ _ _ => ?_ | refine al ?_ fun _ _ _ _ => ?_)); exact rfl) | simp -implicitDefEqProofs only [push_cast, seval, *] | simp only [bindO_assoc])
theorem ev76 {E : Env} {N : Nat} (hB : NB N) (hty : E.ty = tys) (heq : E.eqt = eqts) (h0 : E.n0 = 0) (hal : E.ali = noAli) (g76_19 : Tb E 19 (plain (t19))) (g76_120 : Tb E 120 (plain (t120))) (g76_71 : Tb E 71 (plain (t71))) (a : Node) (b : Node) (e : Node) :
   bindO (aPure E Proofs.Tryz.f76 H76 N [.agg (Node.cells a), .agg (Node.cells b), .agg (Node.cells e)]) (cv sh76) = bindO (F1262 a b e) fun r => some (v76 r) := by
 unfold F1262
 rw [r_pure]
 repeat' (first | (with_reducible (first | apply ier | apply ie | apply ienr | apply ien | apply be | apply ber | apply oer | apply oe)) <;> try intro _ | ((with_reducible (first | refine alr ?_ fun _ _ _ _ => ?_ | refine al ?_ fun _ _ _ _ => ?_)); exact rfl) | simp -implicitDefEqProofs only [push_cast, seval, *] | simp only [bindO_assoc])
theorem ev77 {E : Env} {N : Nat} (hB : NB N) (hty : E.ty = tys) (heq : E.eqt = eqts) (h0 : E.n0 = 0) (hal : E.ali = noAli) (g77_70 : Tb E 70 (plain (t70 N))) (g77_120 : Tb E 120 (plain (t120))) (g77_122 : Tb E 122 (plain (t122))) (g77_71 : Tb E 71 (plain (t71))) (a : Node) (b : Node) (e : Node) :
   bindO (aPure E Proofs.Tryz.f77 H77 N [.agg (Node.cells a), .agg (Node.cells b), .agg (Node.cells e)]) (cv sh77) = bindO (F1263 N a b e) fun r => some (v77 r) := by
 unfold F1263
 rw [r_pure]
 repeat' (first | (with_reducible (first | apply ier | apply ie | apply ienr | apply ien | apply be | apply ber | apply oer | apply oe)) <;> try intro _ | ((with_reducible (first | refine alr ?_ fun _ _ _ _ => ?_ | refine al ?_ fun _ _ _ _ => ?_)); exact rfl) | simp -implicitDefEqProofs only [push_cast, seval, *] | simp only [bindO_assoc])
theorem ev125 {E : Env} {N : Nat} (hB : NB N) (hty : E.ty = tys) (heq : E.eqt = eqts) (h0 : E.n0 = 0) (hal : E.ali = noAli) (g125_19 : Tb E 19 (plain (t19))) (a : Node) (b : Node) :
   bindO (aPure E Proofs.Tryz.f125 H125 N [.agg (Node.cells a), .agg (Node.cells b)]) (cv sh125) = bindO (F1293 a b) fun r => some (v125 r) := by
 unfold F1293
 rw [r_pure]
 repeat' (first | (with_reducible (first | apply ier | apply ie | apply ienr | apply ien | apply be | apply ber | apply oer | apply oe)) <;> try intro _ | ((with_reducible (first | refine alr ?_ fun _ _ _ _ => ?_ | refine al ?_ fun _ _ _ _ => ?_)); exact rfl) | simp -implicitDefEqProofs only [push_cast, seval, *] | simp only [bindO_assoc])
theorem ev126 {E : Env} {N : Nat} (hB : NB N) (hty : E.ty = tys) (heq : E.eqt = eqts) (h0 : E.n0 = 0) (hal : E.ali = noAli) (g126_18 : Tb E 18 (plain (t18))) (a : Node) :
   bindO (aPure E Proofs.Tryz.f126 H126 N [.agg (Node.cells a)]) (cv sh126) = bindO (F1294 a) fun r => some (v126 r) := by
 unfold F1294
 rw [r_pure]
 repeat' (first | (with_reducible (first | apply ier | apply ie | apply ienr | apply ien | apply be | apply ber | apply oer | apply oe)) <;> try intro _ | ((with_reducible (first | refine alr ?_ fun _ _ _ _ => ?_ | refine al ?_ fun _ _ _ _ => ?_)); exact rfl) | simp -implicitDefEqProofs only [push_cast, seval, *] | simp only [bindO_assoc])
theorem ev78 {E : Env} {N : Nat} (hB : NB N) (hty : E.ty = tys) (heq : E.eqt = eqts) (h0 : E.n0 = 0) (hal : E.ali = ali78) (g78_70 : Tb E 70 (plain (t70 N))) (g78_125 : Tb E 125 (plain (t125))) (g78_71 : Tb E 71 (plain (t71))) (g78_123 : Tb E 123 (plain (t123))) (g78_126 : Tb E 126 (plain (t126))) (j : Node) (s : Node) :
   bindO (aPure E Proofs.Tryz.f78 H78 N [.agg (Node.cells j), .agg (Node.cells s)]) (cv sh78) = bindO (F1264 N j s) fun r => some (v78 r) := by
 unfold F1264
 rw [r_pure]
 repeat' (first | (with_reducible (first | apply ier | apply ie | apply ienr | apply ien | apply be | apply ber | apply oer | apply oe)) <;> try intro _ | ((with_reducible (first | refine alr ?_ fun _ _ _ _ => ?_ | refine al ?_ fun _ _ _ _ => ?_)); exact rfl) | simp -implicitDefEqProofs only [push_cast, seval, *] | simp only [bindO_assoc])
theorem ev79 {E : Env} {N : Nat} (hB : NB N) (hty : E.ty = tys) (heq : E.eqt = eqts) (h0 : E.n0 = 0) (hal : E.ali = noAli) (g79_70 : Tb E 70 (plain (t70 N))) (g79_125 : Tb E 125 (plain (t125))) (g79_71 : Tb E 71 (plain (t71))) (i : Node) (j : Node) (a : Node) :
   bindO (aPure E Proofs.Tryz.f79 H79 N [.agg (Node.cells i), .agg (Node.cells j), .agg (Node.cells a)]) (cv sh79) = bindO (F1265 N i j a) fun r => some (v79 r) := by
 unfold F1265
 rw [r_pure]
 repeat' (first | (with_reducible (first | apply ier | apply ie | apply ienr | apply ien | apply be | apply ber | apply oer | apply oe)) <;> try intro _ | ((with_reducible (first | refine alr ?_ fun _ _ _ _ => ?_ | refine al ?_ fun _ _ _ _ => ?_)); exact rfl) | simp -implicitDefEqProofs only [push_cast, seval, *] | simp only [bindO_assoc])
theorem ev80 {E : Env} {N : Nat} (hB : NB N) (hty : E.ty = tys) (heq : E.eqt = eqts) (h0 : E.n0 = 0) (hal : E.ali = noAli) (g80_126 : Tb E 126 (plain (t126))) (g80_19 : Tb E 19 (plain (t19))) (a : Node) :
   bindO (aPure E Proofs.Tryz.f80 H80 N [.agg (Node.cells a)]) (cv sh80) = bindO (F1266 a) fun r => some (v80 r) := by
 unfold F1266
 rw [r_pure]
 repeat' (first | (with_reducible (first | apply ier | apply ie | apply ienr | apply ien | apply be | apply ber | apply oer | apply oe)) <;> try intro _ | ((with_reducible (first | refine alr ?_ fun _ _ _ _ => ?_ | refine al ?_ fun _ _ _ _ => ?_)); exact rfl) | simp -implicitDefEqProofs only [push_cast, seval, *] | simp only [bindO_assoc])
theorem ev81 {E : Env} {N : Nat} (hB : NB N) (hty : E.ty = tys) (heq : E.eqt = eqts) (h0 : E.n0 = 0) (hal : E.ali = noAli) (g81_70 : Tb E 70 (plain (t70 N))) (g81_126 : Tb E 126 (plain (t126))) (g81_125 : Tb E 125 (plain (t125))) (g81_124 : Tb E 124 (plain (t124))) (g81_71 : Tb E 71 (plain (t71))) (a : Node) (b : Node) (i : Node) :
   bindO (aPure E Proofs.Tryz.f81 H81 N [.agg (Node.cells a), .agg (Node.cells b), .agg (Node.cells i)]) (cv sh81) = bindO (F1267 N a b i) fun r => some (v81 r) := by
 unfold F1267
 rw [r_pure]
 repeat' (first | (with_reducible (first | apply ier | apply ie | apply ienr | apply ien | apply be | apply ber | apply oer | apply oe)) <;> try intro _ | ((with_reducible (first | refine alr ?_ fun _ _ _ _ => ?_ | refine al ?_ fun _ _ _ _ => ?_)); exact rfl) | simp -implicitDefEqProofs only [push_cast, seval, *] | simp only [bindO_assoc])
theorem ev82 {E : Env} {N : Nat} (hB : NB N) (hty : E.ty = tys) (heq : E.eqt = eqts) (h0 : E.n0 = 0) (hal : E.ali = ali82) (g82_70 : Tb E 70 (plain (t70 N))) (g82_71 : Tb E 71 (plain (t71))) (g82_123 : Tb E 123 (plain (t123))) (n : Node) :
   bindO (aPure E Proofs.Tryz.f82 H82 N [.agg (Node.cells n)]) (cv sh82) = bindO (F1268 N n) fun r => some (v82 r) := by
 unfold F1268
 rw [r_pure]
 repeat' (first | (with_reducible (first | apply ier | apply ie | apply ienr | apply ien | apply be | apply ber | apply oer | apply oe)) <;> try intro _ | ((with_reducible (first | refine alr ?_ fun _ _ _ _ => ?_ | refine al ?_ fun _ _ _ _ => ?_)); exact rfl) | simp -implicitDefEqProofs only [push_cast, seval, *] | simp only [bindO_assoc])
theorem ev25 {E : Env} {N : Nat} (hB : NB N) (hty : E.ty = tys) (heq : E.eqt = eqts) (h0 : E.n0 = 0) (hal : E.ali = ali25) (g25_69 : Tb E 69 (plain (t69 N))) (g25_70 : Tb E 70 (plain (t70 N))) (g25_72 : Tb E 72 (given (t72 N))) (g25_71 : Tb E 71 (plain (t71))) (g25_73 : Tb E 73 (plain (t73 N))) (g25_74 : Tb E 74 (plain (t74 N))) (g25_75 : Tb E 75 (plain (t75 N))) (g25_76 : Tb E 76 (plain (t76))) (g25_77 : Tb E 77 (plain (t77 N))) (g25_78 : Tb E 78 (plain (t78 N))) (g25_79 : Tb E 79 (plain (t79 N))) (g25_80 : Tb E 80 (plain (t80))) (g25_81 : Tb E 81 (plain (t81 N))) (g25_27 : Tb E 27 (plain (t27 N))) (g25_82 : Tb E 82 (plain (t82 N))) (kind : Int) (p : List Node) :
   bindO (aPure E Proofs.Tryz.f25 H25 N [.int .i64 kind, .sl false 5 (List.map Node.cells p)]) (cv sh25) = bindO (F1227 N kind p) fun r => some (v25 r) := by
 unfold F1227
 rw [r_pure]
 repeat' (first | (with_reducible (first | apply ierq (a := kind) | apply ieq (a := kind) | apply ieqnr (a := kind) | apply ieqn (a := kind)) <;> intro _) | (with_reducible (first | apply ier | apply ie | apply ienr | apply ien | apply be | apply ber | apply oer | apply oe)) <;> try intro _ | ((with_reducible (first | refine alr ?_ fun _ _ _ _ => ?_ | refine al ?_ fun _ _ _ _ => ?_)); exact rfl) | simp (maxSteps := 2000000) -implicitDefEqProofs only [push_cast, seval, *] | simp only [bindO_assoc])
 rename_i x1 _ _ _ _ _ _ _ _ _; refine fl (S := List Node) Node.cells x1.kids (fun (i4 : Nat) (s6 : List Node) => [Z, .sl false 5 (List.map Node.cells p), Z, Z, Z, Z, Z, Z, Z, .rs 1 0, Z, Z, Z, Z, Z, Z, Z, Z, Z, Z, Z, Z, Z, Z, Z, Z, Z, Z, Z, Z, Z, Z, Z, Z, .int .i64 (x1.kids.length : Int), .int .i64 (i4 : Int), Z, Z, Z, Z, Z, Z, Z, Z, Z, Z, Z, Z, Z, Z, Z, Z, Z, Z, Z, Z, Z, Z, Z, Z, Z, Z, Z, Z, Z, Z, Z, Z, Z, Z, Z, Z, Z, Z, Z, Z, Z, Z, Z, Z, Z, Z, Z, Z, Z, Z, Z, Z, Z, Z, Z, Z, Z, Z, Z, Z, Z, Z, Z, Z, Z, Z, Z, Z, Z, Z, Z, Z, Z, Z, Z, Z, Z, Z, Z, Z, Z, Z, Z, Z, Z, Z, Z, Z, Z, Z, Z, Z, Z, Z, Z, Z, Z, Z, Z, Z, Z, Z, Z, Z, Z, Z, Z, Z, Z, Z, Z, Z, Z, Z, Z, Z, Z, Z, Z, Z, Z, Z, Z, Z, Z, Z, Z, Z, Z, Z, Z, Z, Z, Z, Z, Z, Z, Z, Z, Z, Z, Z, Z, Z, Z, Z, Z, Z, Z, Z, Z, Z, Z, Z, Z, Z, Z, Z, Z, Z, Z, Z, Z, Z, Z, Z, Z, Z, Z, Z, Z, Z, Z, Z, Z, Z, Z, Z, Z, Z, Z, Z, Z, Z, Z, Z, Z, Z, Z, Z, Z, Z, Z, Z, Z, Z, Z, Z, Z, Z, Z, Z, Z, Z, Z, Z, Z, Z, Z, Z, Z, Z, Z, Z, Z, Z, Z, Z, Z, Z, Z, Z, Z, Z, Z, Z, Z, Z, Z]) (fun (_ : Nat) (s6 : List Node) => [.row 5 0 [], .row 5 0 (List.map Node.cells s6)]) hB ([]) (fun _ _ _ _ _ _ _ _ => ?_) fun _ _ => ?_ <;> repeat' (first | (with_reducible (first | apply ierq (a := kind) | apply ieq (a := kind) | apply ieqnr (a := kind) | apply ieqn (a := kind)) <;> intro _) | (with_reducible (first | apply ier | apply ie | apply ienr | apply ien | apply be | apply ber | apply oer | apply oe)) <;> try intro _ | ((with_reducible (first | refine alr ?_ fun _ _ _ _ => ?_ | refine al ?_ fun _ _ _ _ => ?_)); exact rfl) | simp (maxSteps := 2000000) -implicitDefEqProofs only [push_cast, seval, *] | simp only [bindO_assoc])
end Go.Abs.Try
