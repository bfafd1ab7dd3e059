import Derived.Test.YtdigpkmbcojpoaaGreatKD
set_option linter.unusedSimpArgs false
set_option linter.unusedVariables false
namespace Go.Abs.Try
open Go.RowKit
set_option maxRecDepth 100000
set_option maxHeartbeats 4000000
attribute [local push_cast] Proofs.Tryz.f14 Proofs.Tryz.f4 Proofs.Tryz.f44 ty22 ty25 ty3 ty4 ty71
theorem ev44 {E : Env} {N : Nat} (hB : NB N) (hty : E.ty = tys) (heq : E.eqt = eqts) (h0 : E.n0 = 0) (hal : E.ali = noAli) (g44_96 : Tb E 96 (plain (t96 N))) (g44_82 : Tb E 82 (plain (t82 N))) (g44_98 : Tb E 98 (plain (t98 N))) (n : Node) :
   bindO (aPure E Proofs.Tryz.f44 H44 N [.agg (Node.cells n)]) (cv sh44) = bindO (F1242 N n) fun r => some (v44 r) := by
 unfold F1242
 rw [r_pure]
 repeat' (first | (with_reducible (first | apply ier | apply ie | apply ienr | apply ien | apply be | apply ber | apply oer | apply oe)) <;> try intro _ | ((with_reducible (first | refine alr ?_ fun _ _ _ _ => ?_ | refine al ?_ fun _ _ _ _ => ?_)); exact rfl) | simp -implicitDefEqProofs only [push_cast, seval, *] | simp only [bindO_assoc])
theorem ev14 {E : Env} {N : Nat} (hB : NB N) (hty : E.ty = tys) (heq : E.eqt = eqts) (h0 : E.n0 = 0) (hal : E.ali = noAli) (g14_27 : Tb E 27 (plain (t27 N))) (g14_26 : Tb E 26 (plain (t26 N))) (g14_41 : Tb E 41 (plain (t41 N))) (g14_42 : Tb E 42 (plain (t42 N))) (g14_40 : Tb E 40 (plain (t40 N))) (g14_43 : Tb E 43 (plain (t43 N))) (g14_44 : Tb E 44 (plain (t44 N))) (n : Node) :
   bindO (aPure E Proofs.Tryz.f14 H14 N [.agg (Node.cells n)]) (cv sh14) = bindO (F1219 N n) fun r => some (v14 r) := by
 unfold F1219
 rw [r_pure]
 repeat' (first | (with_reducible (first | apply ier | apply ie | apply ienr | apply ien | apply be | apply ber | apply oer | apply oe)) <;> try intro _ | ((with_reducible (first | refine alr ?_ fun _ _ _ _ => ?_ | refine al ?_ fun _ _ _ _ => ?_)); exact rfl) | simp -implicitDefEqProofs only [push_cast, seval, *] | simp only [bindO_assoc])
theorem ev4 {E : Env} {N : Nat} (hB : NB N) (hty : E.ty = tys) (heq : E.eqt = eqts) (h0 : E.n0 = 0) (hal : E.ali = noAli) (g4_6 : Tb E 6 (plain (t6 N))) (g4_7 : Tb E 7 (plain (t7 N))) (g4_12 : Tb E 12 (plain (t12 N))) (g4_13 : Tb E 13 (plain (t13 N))) (g4_11 : Tb E 11 (plain (t11 N))) (g4_14 : Tb E 14 (plain (t14 N))) (n : Node) :
   bindO (aPure E Proofs.Tryz.f4 H4 N [.agg (Node.cells n)]) (cv sh4) = bindO (F1210 N n) fun r => some (v4 r) := by
 unfold F1210
 rw [r_pure]
 repeat' (first | (with_reducible (first | apply ier | apply ie | apply ienr | apply ien | apply be | apply ber | apply oer | apply oe)) <;> try intro _ | ((with_reducible (first | refine alr ?_ fun _ _ _ _ => ?_ | refine al ?_ fun _ _ _ _ => ?_)); exact rfl) | simp -implicitDefEqProofs only [push_cast, seval, *] | simp only [bindO_assoc])
end Go.Abs.Try
