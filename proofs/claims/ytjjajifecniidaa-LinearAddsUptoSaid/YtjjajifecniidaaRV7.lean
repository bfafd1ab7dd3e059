import Derived.Test.YtjjajifecniidaaRD
namespace Go.Abs.Try
open Go.RowKit
set_option linter.unusedSimpArgs false
set_option linter.unusedVariables false
set_option maxRecDepth 100000
set_option maxHeartbeats 4000000
attribute [local push_cast] F35_f1 F35_s1 Proofs.Try.f34 Proofs.Try.f35 Proofs.Try.f7 ty2 ty24 ty41 ty43 ty46 ty52 ty92
theorem ev34 {E : Env} {N : Nat} (hB : NB N) (hty : E.ty = tys) (heq : E.eqt = eqts) (h0 : E.n0 = 0) (g34_89 : Tb E 89 (plain (t89 N))) (g34_90 : Tb E 90 (plain (t90 N))) (a : Lin) (b : Lin) (p : Int) (q : Int) :
    bindO (aPure E Proofs.Try.f34 H34 N [.agg (Lin.cells a), .agg (Lin.cells b), .int .i64 p, .int .i64 q]) (cv sh34) = bindO (F34 N a b p q) fun r => some (v34 r) := by
  unfold F34
  rw [r_pure]
  repeat' (first | with_reducible (first | refine ier (fun _ => ?_) fun _ => ?_ | refine ie (fun _ => ?_) fun _ => ?_ | refine ienr (fun _ => ?_) fun _ => ?_ | refine ien (fun _ => ?_) fun _ => ?_ | refine be fun _ => ?_ | refine ber fun _ => ?_ | refine oer (fun _ => ?_) ?_ | refine oe (fun _ => ?_) ?_) | ((with_reducible (first | refine alr ?_ fun _ _ _ _ => ?_ | refine al ?_ fun _ _ _ _ => ?_)); exact rfl) | simp -implicitDefEqProofs only [push_cast, seval, *] | simp only [bindO_assoc])

theorem ev35 {E : Env} {N : Nat} (hB : NB N) (hty : E.ty = tys) (heq : E.eqt = eqts) (h0 : E.n0 = 0) (g35_21 : Tb E 21 (plain (t21 N))) (a : Lin) (b : Lin) :
    bindO (aPure E Proofs.Try.f35 H35 N [.agg (Lin.cells a), .agg (Lin.cells b)]) (cv sh35) = bindO (F35 N a b) fun r => some (v35 r) := by
  unfold F35
  rw [r_pure]
  repeat' (first | with_reducible (first | refine ier (fun _ => ?_) fun _ => ?_ | refine ie (fun _ => ?_) fun _ => ?_ | refine ienr (fun _ => ?_) fun _ => ?_ | refine ien (fun _ => ?_) fun _ => ?_ | refine be fun _ => ?_ | refine ber fun _ => ?_ | refine oer (fun _ => ?_) ?_ | refine oe (fun _ => ?_) ?_) | ((with_reducible (first | refine alr ?_ fun _ _ _ _ => ?_ | refine al ?_ fun _ _ _ _ => ?_)); exact rfl) | simp -implicitDefEqProofs only [push_cast, seval, *] | simp only [bindO_assoc])
  refine fl (S := Unit) Mono.cells a.linMonos (fun (i1 : Nat) (s3 : Unit) => [.top, .top, .ptr 0 0, .ptr 1 0, .top, .top, .top, .top, .top, .top, .top, .top, .top, .top, .top, .top, .top, .top, .top, .top, .top, .top, .int .i64 (a.linMonos.length : Int), .int .i64 (i1 : Int), .top, .top, .top, .top, .top, .top, .top, .top, .top, .top, .top, .top, .top, .top, .top, .top, .top, .top, .top, .top, .top, .top, .top, .top, .top, .top, .top, .top, .top, .top, .top, .top]) (fun (_ : Nat) (s3 : Unit) => [.var [.sl false 6 (List.map Mono.cells a.linMonos), .int .i64 a.linConst], .var [.sl false 6 (List.map Mono.cells b.linMonos), .int .i64 b.linConst]]) hB () (fun _ _ _ _ _ _ _ _ => ?_) fun _ _ => ?_ <;> repeat' (first | with_reducible (first | refine ier (fun _ => ?_) fun _ => ?_ | refine ie (fun _ => ?_) fun _ => ?_ | refine ienr (fun _ => ?_) fun _ => ?_ | refine ien (fun _ => ?_) fun _ => ?_ | refine be fun _ => ?_ | refine ber fun _ => ?_ | refine oer (fun _ => ?_) ?_ | refine oe (fun _ => ?_) ?_) | ((with_reducible (first | refine alr ?_ fun _ _ _ _ => ?_ | refine al ?_ fun _ _ _ _ => ?_)); exact rfl) | simp -implicitDefEqProofs only [push_cast, seval, *] | simp only [bindO_assoc])
theorem ev7 {E : Env} {N : Nat} (hB : NB N) (hty : E.ty = tys) (heq : E.eqt = eqts) (h0 : E.n0 = 0) (g7_26 : Tb E 26 (plain (t26 N))) (g7_32 : Tb E 32 (plain (t32 N))) (g7_33 : Tb E 33 (plain (t33 N))) (g7_34 : Tb E 34 (plain (t34 N))) (g7_35 : Tb E 35 (plain (t35 N))) (a : Lin) (b : Lin) (p : Int) (q : Int) :
    bindO (aPure E Proofs.Try.f7 H7 N [.agg (Lin.cells a), .agg (Lin.cells b), .int .i64 p, .int .i64 q]) (cv sh7) = bindO (F7 N a b p q) fun r => some (v7 r) := by
  unfold F7
  rw [r_pure]
  repeat' (first | with_reducible (first | refine ier (fun _ => ?_) fun _ => ?_ | refine ie (fun _ => ?_) fun _ => ?_ | refine ienr (fun _ => ?_) fun _ => ?_ | refine ien (fun _ => ?_) fun _ => ?_ | refine be fun _ => ?_ | refine ber fun _ => ?_ | refine oer (fun _ => ?_) ?_ | refine oe (fun _ => ?_) ?_) | ((with_reducible (first | refine alr ?_ fun _ _ _ _ => ?_ | refine al ?_ fun _ _ _ _ => ?_)); exact rfl) | simp -implicitDefEqProofs only [push_cast, seval, *] | simp only [bindO_assoc])

end Go.Abs.Try
