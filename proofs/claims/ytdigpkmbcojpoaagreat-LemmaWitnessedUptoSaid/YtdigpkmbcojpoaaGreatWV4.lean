import Derived.Test.YtdigpkmbcojpoaaGreatWD
set_option linter.unusedSimpArgs false
set_option linter.unusedVariables false
namespace Go.Abs.Try
open Go.RowKit
set_option maxRecDepth 100000
set_option maxHeartbeats 4000000
attribute [local push_cast] F19_s1 F19_s2 F19_s3 F19_s4 F19_s5 F19_s6 Proofs.Tryz.f11 Proofs.Tryz.f133 Proofs.Tryz.f154 Proofs.Tryz.f29 Proofs.Tryz.f33 Proofs.Tryz.f34 Proofs.Tryz.f35 Proofs.Tryz.f36 Proofs.Tryz.f37 Proofs.Tryz.f38 Proofs.Tryz.f87 Proofs.Tryz.f93 Proofs.Tryz.f94 Proofs.Tryz.f95 ty2 ty22 ty25 ty3 ty34 ty57 ty9
theorem ev94 {E : Env} {N : Nat} (hB : NB N) (hty : E.ty = tys) (heq : E.eqt = eqts) (h0 : E.n0 = 0) (hal : E.ali = noAli) (g94_134 : Tb E 134 (plain (t134 N))) (w : Node) (n : Node) :
   bindO (aPure E Proofs.Tryz.f94 H94 N [.agg (Node.cells w),.agg (Node.cells n)]) (cv sh94) = bindO (F1273 N w n) fun r => some (v94 r) := by
 unfold F1273
 rw [r_pure]
 repeat' (first | (with_reducible (first | apply ier | apply ie | apply ienr | apply ien | apply be | apply ber | apply oer | apply oe)) <;> try intro _ | ((with_reducible (first | refine alr ?_ fun _ _ _ _ => ?_ | refine al ?_ fun _ _ _ _ => ?_)); exact rfl) | simp -implicitDefEqProofs only [push_cast,seval, *] | simp only [bindO_assoc])
theorem ev2005 {E : Env} {N : Nat} (hB : NB N) (hty : E.ty = tys) (heq : E.eqt = eqts) (h0 : E.n0 = 1) (hal : E.ali = noAli) (g2005_113 : Tb E 113 (plain (t113))) (u1 : Node) (h2 : Int) (h3 : Int) (h4 : ByteArray) (h5 : Int) (h6 : List Node) :
   bindO (aLensN E Proofs.Tryz.f154 H2005 N 1 1 1 [.give] [.agg (Node.cells u1),.ptr 0 0] [.var [.int .i64 h2,.int .i64 h3,.str h4,.int .i64 h5,.sl false 5 (List.map Node.cells h6)]]) (cvX sh2005 sw2005) = bindO (F1397 u1 h2 h3 h4 h5 h6) fun r => some (v2005 u1 h2 h3 h4 h5 h6 r,so2005 u1 h2 h3 h4 h5 h6 r) := by
 unfold F1397
 rw [r_lens]
 repeat' (first | (with_reducible (first | apply ier | apply ie | apply ienr | apply ien | apply be | apply ber | apply oer | apply oe)) <;> try intro _ | ((with_reducible (first | refine alr ?_ fun _ _ _ _ => ?_ | refine al ?_ fun _ _ _ _ => ?_)); exact rfl) | simp -implicitDefEqProofs only [push_cast,seval, *] | simp only [bindO_assoc] | exact rfl)
theorem ev133 {E : Env} {N : Nat} (hB : NB N) (hty : E.ty = tys) (heq : E.eqt = eqts) (h0 : E.n0 = 0) (hal : E.ali = ali133) (g133_113 : Tb E 113 (plain (t113))) (g133_154 : Tb E 154 (lensRun 1 [.keep,.keep] (t2005))) (g133_115 : Tb E 115 (plain (t115))) (kind : Int) (a : Node) (b : Node) (w : Node) :
   bindO (aPure E Proofs.Tryz.f133 H133 N [.int .i64 kind,.agg (Node.cells a),.agg (Node.cells b),.agg (Node.cells w)]) (cv sh133) = bindO (F1295 kind a b w) fun r => some (v133 r) := by
 unfold F1295
 rw [r_pure]
 repeat' (first | (with_reducible (first | apply ier | apply ie | apply ienr | apply ien | apply be | apply ber | apply oer | apply oe)) <;> try intro _ | ((with_reducible (first | refine alr ?_ fun _ _ _ _ => ?_ | refine al ?_ fun _ _ _ _ => ?_)); exact rfl) | simp -implicitDefEqProofs only [push_cast,seval, *] | simp only [bindO_assoc])
theorem ev93 {E : Env} {N : Nat} (hB : NB N) (hty : E.ty = tys) (heq : E.eqt = eqts) (h0 : E.n0 = 0) (hal : E.ali = noAli) (g93_92 : Tb E 92 (plain (t92 N))) (g93_39 : Tb E 39 (plain (t39 N))) (g93_94 : Tb E 94 (plain (t94 N))) (g93_133 : Tb E 133 (plain (t133))) (g93_89 : Tb E 89 (plain (t89 N))) (g93_61 : Tb E 61 (plain (t61))) (n : Node) (kind : Int) :
   bindO (aPure E Proofs.Tryz.f93 H93 N [.agg (Node.cells n),.int .i64 kind]) (cv sh93) = bindO (F1272 N n kind) fun r => some (v93 r) := by
 unfold F1272
 rw [r_pure]
 repeat' (first | (with_reducible (first | apply ier | apply ie | apply ienr | apply ien | apply be | apply ber | apply oer | apply oe)) <;> try intro _ | ((with_reducible (first | refine alr ?_ fun _ _ _ _ => ?_ | refine al ?_ fun _ _ _ _ => ?_)); exact rfl) | simp -implicitDefEqProofs only [push_cast,seval, *] | simp only [bindO_assoc])
theorem ev33 {E : Env} {N : Nat} (hB : NB N) (hty : E.ty = tys) (heq : E.eqt = eqts) (h0 : E.n0 = 0) (hal : E.ali = noAli) (g33_93 : Tb E 93 (plain (t93 N))) (n : Node) :
   bindO (aPure E Proofs.Tryz.f33 H33 N [.agg (Node.cells n)]) (cv sh33) = bindO (F1231 N n) fun r => some (v33 r) := by
 unfold F1231
 rw [r_pure]
 repeat' (first | (with_reducible (first | apply ier | apply ie | apply ienr | apply ien | apply be | apply ber | apply oer | apply oe)) <;> try intro _ | ((with_reducible (first | refine alr ?_ fun _ _ _ _ => ?_ | refine al ?_ fun _ _ _ _ => ?_)); exact rfl) | simp -implicitDefEqProofs only [push_cast,seval, *] | simp only [bindO_assoc])
theorem ev34 {E : Env} {N : Nat} (hB : NB N) (hty : E.ty = tys) (heq : E.eqt = eqts) (h0 : E.n0 = 0) (hal : E.ali = noAli) (g34_93 : Tb E 93 (plain (t93 N))) (n : Node) :
   bindO (aPure E Proofs.Tryz.f34 H34 N [.agg (Node.cells n)]) (cv sh34) = bindO (F1232 N n) fun r => some (v34 r) := by
 unfold F1232
 rw [r_pure]
 repeat' (first | (with_reducible (first | apply ier | apply ie | apply ienr | apply ien | apply be | apply ber | apply oer | apply oe)) <;> try intro _ | ((with_reducible (first | refine alr ?_ fun _ _ _ _ => ?_ | refine al ?_ fun _ _ _ _ => ?_)); exact rfl) | simp -implicitDefEqProofs only [push_cast,seval, *] | simp only [bindO_assoc])
theorem ev35 {E : Env} {N : Nat} (hB : NB N) (hty : E.ty = tys) (heq : E.eqt = eqts) (h0 : E.n0 = 0) (hal : E.ali = ali35) (g35_65 : Tb E 65 (plain (t65))) (g35_89 : Tb E 89 (plain (t89 N))) (g35_63 : Tb E 63 (plain (t63))) (g35_92 : Tb E 92 (plain (t92 N))) (g35_64 : Tb E 64 (plain (t64))) (n : Node) :
   bindO (aPure E Proofs.Tryz.f35 H35 N [.agg (Node.cells n)]) (cv sh35) = bindO (F1233 N n) fun r => some (v35 r) := by
 unfold F1233
 rw [r_pure]
 repeat' (first | (with_reducible (first | apply ier | apply ie | apply ienr | apply ien | apply be | apply ber | apply oer | apply oe)) <;> try intro _ | ((with_reducible (first | refine alr ?_ fun _ _ _ _ => ?_ | refine al ?_ fun _ _ _ _ => ?_)); exact rfl) | simp -implicitDefEqProofs only [push_cast,seval, *] | simp only [bindO_assoc])
theorem ev38 {E : Env} {N : Nat} (hB : NB N) (hty : E.ty = tys) (heq : E.eqt = eqts) (h0 : E.n0 = 0) (hal : E.ali = noAli)  (n : Node) :
   bindO (aPure E Proofs.Tryz.f38 H38 N [.agg (Node.cells n)]) (cv sh38) = bindO (F1236 n) fun r => some (v38 r) := by
 unfold F1236
 rw [r_pure]
 repeat' (first | (with_reducible (first | apply ier | apply ie | apply ienr | apply ien | apply be | apply ber | apply oer | apply oe)) <;> try intro _ | ((with_reducible (first | refine alr ?_ fun _ _ _ _ => ?_ | refine al ?_ fun _ _ _ _ => ?_)); exact rfl) | simp -implicitDefEqProofs only [push_cast,seval, *] | simp only [bindO_assoc])
theorem ev95 {E : Env} {N : Nat} (hB : NB N) (hty : E.ty = tys) (heq : E.eqt = eqts) (h0 : E.n0 = 0) (hal : E.ali = noAli) (g95_113 : Tb E 113 (plain (t113))) (g95_118 : Tb E 118 (plain (t118))) (g95_115 : Tb E 115 (plain (t115))) (g95_117 : Tb E 117 (plain (t117))) (a : Node) (b : Node) (w : Node) :
   bindO (aPure E Proofs.Tryz.f95 H95 N [.agg (Node.cells a),.agg (Node.cells b),.agg (Node.cells w)]) (cv sh95) = bindO (F1274 a b w) fun r => some (v95 r) := by
 unfold F1274
 rw [r_pure]
 repeat' (first | (with_reducible (first | apply ier | apply ie | apply ienr | apply ien | apply be | apply ber | apply oer | apply oe)) <;> try intro _ | ((with_reducible (first | refine alr ?_ fun _ _ _ _ => ?_ | refine al ?_ fun _ _ _ _ => ?_)); exact rfl) | simp -implicitDefEqProofs only [push_cast,seval, *] | simp only [bindO_assoc])
theorem ev36 {E : Env} {N : Nat} (hB : NB N) (hty : E.ty = tys) (heq : E.eqt = eqts) (h0 : E.n0 = 0) (hal : E.ali = ali36) (g36_92 : Tb E 92 (plain (t92 N))) (g36_38 : Tb E 38 (plain (t38))) (g36_94 : Tb E 94 (plain (t94 N))) (g36_95 : Tb E 95 (plain (t95))) (g36_89 : Tb E 89 (plain (t89 N))) (g36_66 : Tb E 66 (plain (t66))) (n : Node) :
   bindO (aPure E Proofs.Tryz.f36 H36 N [.agg (Node.cells n)]) (cv sh36) = bindO (F1234 N n) fun r => some (v36 r) := by
 unfold F1234
 rw [r_pure]
 repeat' (first | (with_reducible (first | apply ier | apply ie | apply ienr | apply ien | apply be | apply ber | apply oer | apply oe)) <;> try intro _ | ((with_reducible (first | refine alr ?_ fun _ _ _ _ => ?_ | refine al ?_ fun _ _ _ _ => ?_)); exact rfl) | simp -implicitDefEqProofs only [push_cast,seval, *] | simp only [bindO_assoc])
theorem ev37 {E : Env} {N : Nat} (hB : NB N) (hty : E.ty = tys) (heq : E.eqt = eqts) (h0 : E.n0 = 0) (hal : E.ali = noAli) (g37_67 : Tb E 67 (plain (t67))) (g37_89 : Tb E 89 (plain (t89 N))) (n : Node) :
   bindO (aPure E Proofs.Tryz.f37 H37 N [.agg (Node.cells n)]) (cv sh37) = bindO (F1235 N n) fun r => some (v37 r) := by
 unfold F1235
 rw [r_pure]
 repeat' (first | (with_reducible (first | apply ier | apply ie | apply ienr | apply ien | apply be | apply ber | apply oer | apply oe)) <;> try intro _ | ((with_reducible (first | refine alr ?_ fun _ _ _ _ => ?_ | refine al ?_ fun _ _ _ _ => ?_)); exact rfl) | simp -implicitDefEqProofs only [push_cast,seval, *] | simp only [bindO_assoc])
theorem ev11 {E : Env} {N : Nat} (hU : 10 ≤ N) (hB : NB N) (hty : E.ty = tys) (heq : E.eqt = eqts) (h0 : E.n0 = 0) (hal : E.ali = noAli) (g11_23 : Tb E 23 (plain (t23 N))) (g11_30 : Tb E 30 (plain (t30 N))) (g11_31 : Tb E 31 (plain (t31 N))) (g11_32 : Tb E 32 (plain (t32 N))) (g11_33 : Tb E 33 (plain (t33 N))) (g11_34 : Tb E 34 (plain (t34 N))) (g11_35 : Tb E 35 (plain (t35 N))) (g11_36 : Tb E 36 (plain (t36 N))) (g11_37 : Tb E 37 (plain (t37 N))) (n : Node) :
   bindO (aPure E Proofs.Tryz.f11 H11 N [.agg (Node.cells n)]) (cv sh11) = bindO (F1216 N n) fun r => some (v11 r) := by
 obtain ⟨M,rfl⟩ : ∃ M,N = M + 10 := ⟨N - 10,by omega⟩
 have hU2 : decide (10 ≤ M + 10) = true := decide_eq_true hU
 unfold F1216
 rw [r_pure]
 repeat' (first | (with_reducible (first | apply ier | apply ie | apply ienr | apply ien | apply be | apply ber | apply oer | apply oe)) <;> try intro _ | ((with_reducible (first | refine alr ?_ fun _ _ _ _ => ?_ | refine al ?_ fun _ _ _ _ => ?_)); exact rfl) | simp -implicitDefEqProofs only [push_cast,seval,r_round,inB, *] | simp only [bindO_assoc])
theorem ev87 {E : Env} {N : Nat} (hB : NB N) (hty : E.ty = tys) (heq : E.eqt = eqts) (h0 : E.n0 = 0) (hal : E.ali = noAli)  (a : Int) (b : Int) :
   bindO (aPure E Proofs.Tryz.f87 H87 N [.int .i64 a,.int .i64 b]) (cv sh87) = bindO (F81 a b) fun r => some (v87 r) := by
 unfold F81
 rw [r_pure]
 repeat' (first | (with_reducible (first | apply ier | apply ie | apply ienr | apply ien | apply be | apply ber | apply oer | apply oe)) <;> try intro _ | ((with_reducible (first | refine alr ?_ fun _ _ _ _ => ?_ | refine al ?_ fun _ _ _ _ => ?_)); exact rfl) | simp -implicitDefEqProofs only [push_cast,seval, *] | simp only [bindO_assoc])
theorem ev29 {E : Env} {N : Nat} (hB : NB N) (self29 : Node → Node → Option (Int)) (hty : E.ty = tys) (heq : E.eqt = eqts) (h0 : E.n0 = 0) (hal : E.ali = noAli) (g29_87 : Tb E 87 (plain (t87))) (g29_29 : Tb E 29 (plain (ts29 self29))) (a : Node) (b : Node) :
   bindO (aPure E Proofs.Tryz.f29 H29 N [.agg (Node.cells a),.agg (Node.cells b)]) (cv sh29) = bindO (F19b self29 N a b) fun r => some (v29 r) := by
 unfold F19b
 rw [r_pure]
 repeat' (first | (with_reducible (first | apply ier | apply ie | apply ienr | apply ien | apply be | apply ber | apply oer | apply oe)) <;> try intro _ | ((with_reducible (first | refine alr ?_ fun _ _ _ _ => ?_ | refine al ?_ fun _ _ _ _ => ?_)); exact rfl) | simp -implicitDefEqProofs only [push_cast,seval, *] | simp only [bindO_assoc])
 refine wl (S := Unit) (fun (s3 : Unit) => [Z,Z,.ptr 0 0,.ptr 1 0,Z,.int .i64 (-1),.int .i64 0,Z,Z,Z,Z,Z,Z,Z,Z,Z,Z,Z,Z,Z,Z,Z,Z,Z,Z,Z,Z,Z,Z,Z,Z,Z,Z,Z,Z,Z,Z,Z,Z,Z,Z,Z,Z,Z,Z,Z,Z,Z,Z,Z,Z,Z,Z,Z,Z,Z,Z,Z,Z,Z,Z,Z,Z,Z,Z,Z,Z,Z,Z,Z,Z,Z,Z,Z,Z,Z]) (fun (s3 : Unit) => [.var [.int .i64 a.op,.int .i64 a.sortf,.str a.name,.int .i64 a.num,.sl false 5 (List.map Node.cells a.kids)],.var [.int .i64 b.op,.int .i64 b.sortf,.str b.name,.int .i64 b.num,.sl false 5 (List.map Node.cells b.kids)]]) () (fun _ => ?_) <;> repeat' (first | (with_reducible (first | apply ier | apply ie | apply ienr | apply ien | apply be | apply ber | apply oer | apply oe)) <;> try intro _ | ((with_reducible (first | refine alr ?_ fun _ _ _ _ => ?_ | refine al ?_ fun _ _ _ _ => ?_)); exact rfl) | simp -implicitDefEqProofs only [push_cast,seval, *] | simp only [bindO_assoc])
 rename_i r6; refine wl (S := Int × Int) (fun (s7 : Int × Int) => [Z,Z,.ptr 0 0,.ptr 1 0,Z,.int .i64 s7.1,.int .i64 s7.2,Z,Z,Z,Z,Z,Z,Z,Z,Z,Z,Z,Z,Z,Z,Z,Z,Z,Z,Z,Z,Z,Z,Z,Z,Z,Z,Z,Z,Z,Z,Z,Z,Z,Z,Z,Z,Z,Z,Z,Z,Z,Z,Z,Z,Z,Z,Z,Z,Z,Z,Z,Z,Z,Z,Z,Z,Z,Z,Z,Z,Z,Z,Z,Z,Z,Z,Z,Z,Z]) (fun (s7 : Int × Int) => [.var [.int .i64 a.op,.int .i64 a.sortf,.str a.name,.int .i64 a.num,.sl false 5 (List.map Node.cells a.kids)],.var [.int .i64 b.op,.int .i64 b.sortf,.str b.name,.int .i64 b.num,.sl false 5 (List.map Node.cells b.kids)]]) (r6,0) (fun _ => ?_) <;> repeat' (first | (with_reducible (first | apply ier | apply ie | apply ienr | apply ien | apply be | apply ber | apply oer | apply oe)) <;> try intro _ | ((with_reducible (first | refine alr ?_ fun _ _ _ _ => ?_ | refine al ?_ fun _ _ _ _ => ?_)); exact rfl) | simp -implicitDefEqProofs only [push_cast,seval, *] | simp only [bindO_assoc])
 rename_i r5 _; refine wl (S := Unit) (fun (s11 : Unit) => [Z,Z,.ptr 0 0,.ptr 1 0,Z,.int .i64 r5,.int .i64 0,Z,Z,Z,Z,Z,Z,Z,Z,Z,Z,Z,Z,Z,Z,Z,Z,Z,Z,Z,Z,Z,Z,Z,Z,Z,Z,Z,Z,Z,Z,Z,Z,Z,Z,Z,Z,Z,Z,Z,Z,Z,Z,Z,Z,Z,Z,Z,Z,Z,Z,Z,Z,Z,Z,Z,Z,Z,Z,Z,Z,Z,Z,Z,Z,Z,Z,Z,Z,Z]) (fun (s11 : Unit) => [.var [.int .i64 a.op,.int .i64 a.sortf,.str a.name,.int .i64 a.num,.sl false 5 (List.map Node.cells a.kids)],.var [.int .i64 b.op,.int .i64 b.sortf,.str b.name,.int .i64 b.num,.sl false 5 (List.map Node.cells b.kids)]]) () (fun _ => ?_) <;> repeat' (first | (with_reducible (first | apply ier | apply ie | apply ienr | apply ien | apply be | apply ber | apply oer | apply oe)) <;> try intro _ | ((with_reducible (first | refine alr ?_ fun _ _ _ _ => ?_ | refine al ?_ fun _ _ _ _ => ?_)); exact rfl) | simp -implicitDefEqProofs only [push_cast,seval, *] | simp only [bindO_assoc])
 refine wl (S := Unit) (fun (s4 : Unit) => [Z,Z,.ptr 0 0,.ptr 1 0,Z,.int .i64 1,.int .i64 0,Z,Z,Z,Z,Z,Z,Z,Z,Z,Z,Z,Z,Z,Z,Z,Z,Z,Z,Z,Z,Z,Z,Z,Z,Z,Z,Z,Z,Z,Z,Z,Z,Z,Z,Z,Z,Z,Z,Z,Z,Z,Z,Z,Z,Z,Z,Z,Z,Z,Z,Z,Z,Z,Z,Z,Z,Z,Z,Z,Z,Z,Z,Z,Z,Z,Z,Z,Z,Z]) (fun (s4 : Unit) => [.var [.int .i64 a.op,.int .i64 a.sortf,.str a.name,.int .i64 a.num,.sl false 5 (List.map Node.cells a.kids)],.var [.int .i64 b.op,.int .i64 b.sortf,.str b.name,.int .i64 b.num,.sl false 5 (List.map Node.cells b.kids)]]) () (fun _ => ?_) <;> repeat' (first | (with_reducible (first | apply ier | apply ie | apply ienr | apply ien | apply be | apply ber | apply oer | apply oe)) <;> try intro _ | ((with_reducible (first | refine alr ?_ fun _ _ _ _ => ?_ | refine al ?_ fun _ _ _ _ => ?_)); exact rfl) | simp -implicitDefEqProofs only [push_cast,seval, *] | simp only [bindO_assoc])
 rename_i r2 _; refine wl (S := Unit) (fun (s12 : Unit) => [Z,Z,.ptr 0 0,.ptr 1 0,Z,.int .i64 r2,.int .i64 0,Z,Z,Z,Z,Z,Z,Z,Z,Z,Z,Z,Z,Z,Z,Z,Z,Z,Z,Z,Z,Z,Z,Z,Z,Z,Z,Z,Z,Z,Z,Z,Z,Z,Z,Z,Z,Z,Z,Z,Z,Z,Z,Z,Z,Z,Z,Z,Z,Z,Z,Z,Z,Z,Z,Z,Z,Z,Z,Z,Z,Z,Z,Z,Z,Z,Z,Z,Z,Z]) (fun (s12 : Unit) => [.var [.int .i64 a.op,.int .i64 a.sortf,.str a.name,.int .i64 a.num,.sl false 5 (List.map Node.cells a.kids)],.var [.int .i64 b.op,.int .i64 b.sortf,.str b.name,.int .i64 b.num,.sl false 5 (List.map Node.cells b.kids)]]) () (fun _ => ?_) <;> repeat' (first | (with_reducible (first | apply ier | apply ie | apply ienr | apply ien | apply be | apply ber | apply oer | apply oe)) <;> try intro _ | ((with_reducible (first | refine alr ?_ fun _ _ _ _ => ?_ | refine al ?_ fun _ _ _ _ => ?_)); exact rfl) | simp -implicitDefEqProofs only [push_cast,seval, *] | simp only [bindO_assoc])
 rename_i r1 _; refine wl (S := Unit) (fun (s13 : Unit) => [Z,Z,.ptr 0 0,.ptr 1 0,Z,.int .i64 r1,.int .i64 0,Z,Z,Z,Z,Z,Z,Z,Z,Z,Z,Z,Z,Z,Z,Z,Z,Z,Z,Z,Z,Z,Z,Z,Z,Z,Z,Z,Z,Z,Z,Z,Z,Z,Z,Z,Z,Z,Z,Z,Z,Z,Z,Z,Z,Z,Z,Z,Z,Z,Z,Z,Z,Z,Z,Z,Z,Z,Z,Z,Z,Z,Z,Z,Z,Z,Z,Z,Z,Z]) (fun (s13 : Unit) => [.var [.int .i64 a.op,.int .i64 a.sortf,.str a.name,.int .i64 a.num,.sl false 5 (List.map Node.cells a.kids)],.var [.int .i64 b.op,.int .i64 b.sortf,.str b.name,.int .i64 b.num,.sl false 5 (List.map Node.cells b.kids)]]) () (fun _ => ?_) <;> repeat' (first | (with_reducible (first | apply ier | apply ie | apply ienr | apply ien | apply be | apply ber | apply oer | apply oe)) <;> try intro _ | ((with_reducible (first | refine alr ?_ fun _ _ _ _ => ?_ | refine al ?_ fun _ _ _ _ => ?_)); exact rfl) | simp -implicitDefEqProofs only [push_cast,seval, *] | simp only [bindO_assoc])
end Go.Abs.Try
