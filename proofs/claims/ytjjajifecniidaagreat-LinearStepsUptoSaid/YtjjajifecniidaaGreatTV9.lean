import Derived.Test.YtjjajifecniidaaGreatTD
namespace Go.Abs.Try
open Go.RowKit
set_option linter.unusedSimpArgs false
set_option linter.unusedVariables false
set_option maxRecDepth 100000
set_option maxHeartbeats 4000000
attribute [local push_cast] F1013_f1 F1013_s1 F35_f1 F35_s1 Proofs.Tryz.f10 Proofs.Tryz.f11 Proofs.Tryz.f26 Proofs.Tryz.f27 Proofs.Tryz.f3 ty2 ty22 ty23 ty26 ty28 ty3 ty30 ty32 ty52 ty54 ty55 ty79
theorem ev26 {E : Env} {N : Nat} (hB : NB N) (hty : E.ty = tys) (heq : E.eqt = eqts) (h0 : E.n0 = 0) (hal : E.ali = noAli) (g26_43 : Tb E 43 (given (t43 N))) (g26_44 : Tb E 44 (plain (t44 N))) (cons : List Con) (s : List Mult) :
    bindO (aPure E Proofs.Tryz.f26 H26 N [.sl false 3 (List.map Con.cells cons), .sl false 2 (List.map Mult.cells s)]) (cv sh26) = bindO (F1013 N cons s) fun r => some (v26 r) := by
  unfold F1013
  rw [r_pure]
  repeat' (first | with_reducible (first | refine ier (fun _ => ?_) fun _ => ?_ | refine ie (fun _ => ?_) fun _ => ?_ | refine ienr (fun _ => ?_) fun _ => ?_ | refine ien (fun _ => ?_) fun _ => ?_ | refine be fun _ => ?_ | refine ber fun _ => ?_ | refine oer (fun _ => ?_) ?_ | refine oe (fun _ => ?_) ?_) | ((with_reducible (first | refine alr ?_ fun _ _ _ _ => ?_ | refine al ?_ fun _ _ _ _ => ?_)); exact rfl) | simp -implicitDefEqProofs only [push_cast, seval, *] | simp only [bindO_assoc])
  refine fl (S := (List Lin) × (List Int) × Int) Mult.cells s (fun (i1 : Nat) (s3 : (List Lin) × (List Int) × Int) => [.sl false 3 (List.map Con.cells cons), .top, .top, .top, .ptr 0 0, .top, .rs 1 0, .rs 2 0, .int .i64 s3.2.2, .top, .top, .top, .top, .sl false 2 (List.map Mult.cells s), .int .i64 (s.length : Int), .int .i64 (i1 : Int), .top, .top, .top, .top, .top, .top, .top, .top, .top, .top, .top, .top, .top, .top, .top, .top, .top, .top, .top, .top, .top, .top, .top, .top, .top, .top, .top, .top, .top, .top, .top, .top, .top, .top, .top, .top, .top, .top]) (fun (_ : Nat) (s3 : (List Lin) × (List Int) × Int) => [.var [.sl true 6 [], .int .i64 0, .int .i64 0], .row 2 0 (List.map Lin.cells s3.1), .row 1 0 (List.map (cI .i64) s3.2.1)]) hB ([], [], 0) (fun _ _ _ _ _ _ _ _ => ?_) fun _ _ => ?_ <;> repeat' (first | with_reducible (first | refine ier (fun _ => ?_) fun _ => ?_ | refine ie (fun _ => ?_) fun _ => ?_ | refine ienr (fun _ => ?_) fun _ => ?_ | refine ien (fun _ => ?_) fun _ => ?_ | refine be fun _ => ?_ | refine ber fun _ => ?_ | refine oer (fun _ => ?_) ?_ | refine oe (fun _ => ?_) ?_) | ((with_reducible (first | refine alr ?_ fun _ _ _ _ => ?_ | refine al ?_ fun _ _ _ _ => ?_)); exact rfl) | simp -implicitDefEqProofs only [push_cast, seval, *] | simp only [bindO_assoc])
theorem ev10 {E : Env} {N : Nat} (hB : NB N) (hty : E.ty = tys) (heq : E.eqt = eqts) (h0 : E.n0 = 0) (hal : E.ali = noAli) (g10_24 : Tb E 24 (plain (t24 N))) (g10_25 : Tb E 25 (plain (t25 N))) (g10_26 : Tb E 26 (plain (t26 N))) (cons : List Con) (s : List Mult) :
    bindO (aPure E Proofs.Tryz.f10 H10 N [.sl false 3 (List.map Con.cells cons), .sl false 2 (List.map Mult.cells s)]) (cv sh10) = bindO (F1005 N cons s) fun r => some (v10 r) := by
  unfold F1005
  rw [r_pure]
  repeat' (first | with_reducible (first | refine ier (fun _ => ?_) fun _ => ?_ | refine ie (fun _ => ?_) fun _ => ?_ | refine ienr (fun _ => ?_) fun _ => ?_ | refine ien (fun _ => ?_) fun _ => ?_ | refine be fun _ => ?_ | refine ber fun _ => ?_ | refine oer (fun _ => ?_) ?_ | refine oe (fun _ => ?_) ?_) | ((with_reducible (first | refine alr ?_ fun _ _ _ _ => ?_ | refine al ?_ fun _ _ _ _ => ?_)); exact rfl) | simp -implicitDefEqProofs only [push_cast, seval, *] | simp only [bindO_assoc])

theorem ev27 {E : Env} {N : Nat} (hB : NB N) (hty : E.ty = tys) (heq : E.eqt = eqts) (h0 : E.n0 = 0) (hal : E.ali = noAli) (g27_45 : Tb E 45 (plain (t45 N))) (a : Lin) (b : Lin) :
    bindO (aPure E Proofs.Tryz.f27 H27 N [.agg (Lin.cells a), .agg (Lin.cells b)]) (cv sh27) = bindO (F35 N a b) fun r => some (v27 r) := by
  unfold F35
  rw [r_pure]
  repeat' (first | with_reducible (first | refine ier (fun _ => ?_) fun _ => ?_ | refine ie (fun _ => ?_) fun _ => ?_ | refine ienr (fun _ => ?_) fun _ => ?_ | refine ien (fun _ => ?_) fun _ => ?_ | refine be fun _ => ?_ | refine ber fun _ => ?_ | refine oer (fun _ => ?_) ?_ | refine oe (fun _ => ?_) ?_) | ((with_reducible (first | refine alr ?_ fun _ _ _ _ => ?_ | refine al ?_ fun _ _ _ _ => ?_)); exact rfl) | simp -implicitDefEqProofs only [push_cast, seval, *] | simp only [bindO_assoc])
  refine fl (S := Unit) Mono.cells a.linMonos (fun (i1 : Nat) (s3 : Unit) => [.top, .top, .ptr 0 0, .ptr 1 0, .top, .top, .top, .top, .top, .top, .top, .top, .top, .top, .top, .top, .top, .top, .top, .top, .top, .top, .int .i64 (a.linMonos.length : Int), .int .i64 (i1 : Int), .top, .top, .top, .top, .top, .top, .top, .top, .top, .top, .top, .top, .top, .top, .top, .top, .top, .top, .top, .top, .top, .top, .top, .top, .top, .top, .top, .top, .top, .top, .top, .top]) (fun (_ : Nat) (s3 : Unit) => [.var [.sl false 6 (List.map Mono.cells a.linMonos), .int .i64 a.linConst], .var [.sl false 6 (List.map Mono.cells b.linMonos), .int .i64 b.linConst]]) hB () (fun _ _ _ _ _ _ _ _ => ?_) fun _ _ => ?_ <;> repeat' (first | with_reducible (first | refine ier (fun _ => ?_) fun _ => ?_ | refine ie (fun _ => ?_) fun _ => ?_ | refine ienr (fun _ => ?_) fun _ => ?_ | refine ien (fun _ => ?_) fun _ => ?_ | refine be fun _ => ?_ | refine ber fun _ => ?_ | refine oer (fun _ => ?_) ?_ | refine oe (fun _ => ?_) ?_) | ((with_reducible (first | refine alr ?_ fun _ _ _ _ => ?_ | refine al ?_ fun _ _ _ _ => ?_)); exact rfl) | simp -implicitDefEqProofs only [push_cast, seval, *] | simp only [bindO_assoc])
theorem ev11 {E : Env} {N : Nat} (hB : NB N) (hty : E.ty = tys) (heq : E.eqt = eqts) (h0 : E.n0 = 0) (hal : E.ali = noAli) (g11_27 : Tb E 27 (plain (t27 N))) (a : Con) (b : Con) :
    bindO (aPure E Proofs.Tryz.f11 H11 N [.agg (Con.cells a), .agg (Con.cells b)]) (cv sh11) = bindO (F58 N a b) fun r => some (v11 r) := by
  unfold F58
  rw [r_pure]
  repeat' (first | with_reducible (first | refine ier (fun _ => ?_) fun _ => ?_ | refine ie (fun _ => ?_) fun _ => ?_ | refine ienr (fun _ => ?_) fun _ => ?_ | refine ien (fun _ => ?_) fun _ => ?_ | refine be fun _ => ?_ | refine ber fun _ => ?_ | refine oer (fun _ => ?_) ?_ | refine oe (fun _ => ?_) ?_) | ((with_reducible (first | refine alr ?_ fun _ _ _ _ => ?_ | refine al ?_ fun _ _ _ _ => ?_)); exact rfl) | simp -implicitDefEqProofs only [push_cast, seval, *] | simp only [bindO_assoc])

theorem ev3 {E : Env} {N : Nat} (hB : NB N) (hty : E.ty = tys) (heq : E.eqt = eqts) (h0 : E.n0 = 0) (hal : E.ali = noAli) (g3_6 : Tb E 6 (plain (t6 N))) (g3_8 : Tb E 8 (plain (t8 N))) (g3_7 : Tb E 7 (plain (t7 N))) (g3_9 : Tb E 9 (plain (t9 N))) (g3_10 : Tb E 10 (plain (t10 N))) (g3_11 : Tb E 11 (plain (t11 N))) (cons : List Con) (s : List Mult) :
    bindO (aPure E Proofs.Tryz.f3 H3 N [.sl false 3 (List.map Con.cells cons), .sl false 2 (List.map Mult.cells s)]) (cv sh3) = bindO (F1000 N cons s) fun r => some (v3 r) := by
  unfold F1000
  rw [r_pure]
  repeat' (first | with_reducible (first | refine ier (fun _ => ?_) fun _ => ?_ | refine ie (fun _ => ?_) fun _ => ?_ | refine ienr (fun _ => ?_) fun _ => ?_ | refine ien (fun _ => ?_) fun _ => ?_ | refine be fun _ => ?_ | refine ber fun _ => ?_ | refine oer (fun _ => ?_) ?_ | refine oe (fun _ => ?_) ?_) | ((with_reducible (first | refine alr ?_ fun _ _ _ _ => ?_ | refine al ?_ fun _ _ _ _ => ?_)); exact rfl) | simp -implicitDefEqProofs only [push_cast, seval, *] | simp only [bindO_assoc])

end Go.Abs.Try
