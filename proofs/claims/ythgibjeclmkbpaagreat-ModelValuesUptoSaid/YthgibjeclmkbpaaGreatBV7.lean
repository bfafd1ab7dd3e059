import Derived.Test.YthgibjeclmkbpaaGreatBD
set_option linter.unusedSimpArgs false
set_option linter.unusedVariables false
namespace Go.Abs.Try
open Go.RowKit
set_option maxRecDepth 100000
set_option maxHeartbeats 40000000
attribute [local push_cast] Proofs.Tryz.f10 Proofs.Tryz.f12 Proofs.Tryz.f13 Proofs.Tryz.f3 Proofs.Tryz.f31 ty2 ty24 ty32 ty4
theorem ev31 {E : Env} {N : Nat} (hB : NB N) (hty : E.ty = tys) (heq : E.eqt = eqts) (h0 : E.n0 = 0) (hal : E.ali = noAli) (g31_53 : Tb E 53 (plain (t53 N))) (g31_54 : Tb E 54 (plain (t54 N))) (g31_26 : Tb E 26 (plain (t26 N))) (g31_55 : Tb E 55 (plain (t55 N))) (n : Node) (m : List Entry) (sortq : Int) :
   bindO (aPure E Proofs.Tryz.f31 H31 N [.agg (Node.cells n), .sl false 7 (List.map Entry.cells m), .int .i64 sortq]) (cv sh31) = bindO (F87 N n m sortq) fun r => some (v31 r) := by
 unfold F87
 rw [r_pure]
 repeat' (first | (with_reducible (first | apply ier | apply ie | apply ienr | apply ien | apply be | apply ber | apply oer | apply oe)) <;> try intro _ | ((with_reducible (first | refine alr ?_ fun _ _ _ _ => ?_ | refine al ?_ fun _ _ _ _ => ?_)); exact rfl) | simp -implicitDefEqProofs only [push_cast, seval, *] | simp only [bindO_assoc])
theorem ev10 {E : Env} {N : Nat} (hB : NB N) (hty : E.ty = tys) (heq : E.eqt = eqts) (h0 : E.n0 = 0) (hal : E.ali = noAli) (g10_31 : Tb E 31 (plain (t31 N))) (n : Node) (m : List Entry) :
   bindO (aPure E Proofs.Tryz.f10 H10 N [.agg (Node.cells n), .sl false 7 (List.map Entry.cells m)]) (cv sh10) = bindO (F30 N n m) fun r => some (v10 r) := by
 unfold F30
 rw [r_pure]
 repeat' (first | (with_reducible (first | apply ier | apply ie | apply ienr | apply ien | apply be | apply ber | apply oer | apply oe)) <;> try intro _ | ((with_reducible (first | refine alr ?_ fun _ _ _ _ => ?_ | refine al ?_ fun _ _ _ _ => ?_)); exact rfl) | simp -implicitDefEqProofs only [push_cast, seval, *] | simp only [bindO_assoc])
theorem ev12 {E : Env} {N : Nat} (hB : NB N) (hty : E.ty = tys) (heq : E.eqt = eqts) (h0 : E.n0 = 0) (hal : E.ali = noAli) (g12_30 : Tb E 30 (plain (t30 N))) (n : Node) (m : List Entry) :
   bindO (aPure E Proofs.Tryz.f12 H12 N [.agg (Node.cells n), .sl false 7 (List.map Entry.cells m)]) (cv sh12) = bindO (F1223 N n m) fun r => some (v12 r) := by
 unfold F1223
 rw [r_pure]
 repeat' (first | (with_reducible (first | apply ier | apply ie | apply ienr | apply ien | apply be | apply ber | apply oer | apply oe)) <;> try intro _ | ((with_reducible (first | refine alr ?_ fun _ _ _ _ => ?_ | refine al ?_ fun _ _ _ _ => ?_)); exact rfl) | simp -implicitDefEqProofs only [push_cast, seval, *] | simp only [bindO_assoc])
theorem ev13 {E : Env} {N : Nat} (hB : NB N) (hty : E.ty = tys) (heq : E.eqt = eqts) (h0 : E.n0 = 0) (hal : E.ali = noAli) (g13_31 : Tb E 31 (plain (t31 N))) (n : Node) (m : List Entry) :
   bindO (aPure E Proofs.Tryz.f13 H13 N [.agg (Node.cells n), .sl false 7 (List.map Entry.cells m)]) (cv sh13) = bindO (F1220 N n m) fun r => some (v13 r) := by
 unfold F1220
 rw [r_pure]
 repeat' (first | (with_reducible (first | apply ier | apply ie | apply ienr | apply ien | apply be | apply ber | apply oer | apply oe)) <;> try intro _ | ((with_reducible (first | refine alr ?_ fun _ _ _ _ => ?_ | refine al ?_ fun _ _ _ _ => ?_)); exact rfl) | simp -implicitDefEqProofs only [push_cast, seval, *] | simp only [bindO_assoc])
theorem ev3 {E : Env} {N : Nat} (hB : NB N) (hty : E.ty = tys) (heq : E.eqt = eqts) (h0 : E.n0 = 0) (hal : E.ali = noAli) (g3_6 : Tb E 6 (plain (t6 N))) (g3_7 : Tb E 7 (plain (t7 N))) (g3_8 : Tb E 8 (plain (t8 N))) (g3_9 : Tb E 9 (plain (t9 N))) (g3_10 : Tb E 10 (plain (t10 N))) (g3_11 : Tb E 11 (plain (t11 N))) (g3_12 : Tb E 12 (plain (t12 N))) (g3_13 : Tb E 13 (plain (t13 N))) (n : Node) (m : List Entry) :
   bindO (aPure E Proofs.Tryz.f3 H3 N [.agg (Node.cells n), .sl false 7 (List.map Entry.cells m)]) (cv sh3) = bindO (F1212 N n m) fun r => some (v3 r) := by
 unfold F1212
 rw [r_pure]
 repeat' (first | (with_reducible (first | apply ier | apply ie | apply ienr | apply ien | apply be | apply ber | apply oer | apply oe)) <;> try intro _ | ((with_reducible (first | refine alr ?_ fun _ _ _ _ => ?_ | refine al ?_ fun _ _ _ _ => ?_)); exact rfl) | simp -implicitDefEqProofs only [push_cast, seval, *] | simp only [bindO_assoc])
end Go.Abs.Try
