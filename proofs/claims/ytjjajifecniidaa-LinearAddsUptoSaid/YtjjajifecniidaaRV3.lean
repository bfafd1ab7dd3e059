import Derived.Test.YtjjajifecniidaaRD
namespace Go.Abs.Try
open Go.RowKit
set_option linter.unusedSimpArgs false
set_option linter.unusedVariables false
set_option maxRecDepth 100000
set_option maxHeartbeats 4000000
attribute [local push_cast] F17_s1 F39_f1 F39_s1 F72_f1 F72_f2 F72_s1 F72_s2 F76_f1 F76_s1 Proofs.Try.f118 Proofs.Try.f119 Proofs.Try.f120 Proofs.Try.f121 Proofs.Try.f130 Proofs.Try.f17 Proofs.Try.f28 Proofs.Try.f33 Proofs.Try.f39 Proofs.Try.f72 Proofs.Try.f75 Proofs.Try.f76 Proofs.Try.f77 ty117 ty2 ty22 ty24 ty3 ty34 ty43 ty9
theorem ev33 {E : Env} {N : Nat} (hB : NB N) (hty : E.ty = tys) (heq : E.eqt = eqts) (h0 : E.n0 = 0) (g33_64 : Tb E 64 (plain (t64 N))) (g33_88 : Tb E 88 (plain (t88 N))) (g33_86 : Tb E 86 (plain (t86 N))) (a : Lin) (b : Lin) (p : Int) (q : Int) :
    bindO (aPure E Proofs.Try.f33 H33 N [.agg (Lin.cells a), .agg (Lin.cells b), .int .i64 p, .int .i64 q]) (cv sh33) = bindO (F33 N a b p q) fun r => some (v33 r) := by
  unfold F33
  rw [r_pure]
  repeat' (first | with_reducible (first | refine ier (fun _ => ?_) fun _ => ?_ | refine ie (fun _ => ?_) fun _ => ?_ | refine ienr (fun _ => ?_) fun _ => ?_ | refine ien (fun _ => ?_) fun _ => ?_ | refine be fun _ => ?_ | refine ber fun _ => ?_ | refine oer (fun _ => ?_) ?_ | refine oe (fun _ => ?_) ?_) | ((with_reducible (first | refine alr ?_ fun _ _ _ _ => ?_ | refine al ?_ fun _ _ _ _ => ?_)); exact rfl) | simp -implicitDefEqProofs only [push_cast, seval, *] | simp only [bindO_assoc])

theorem ev130 {E : Env} {N : Nat} (hB : NB N) (hty : E.ty = tys) (heq : E.eqt = eqts) (h0 : E.n0 = 0)  (n : Int) :
    bindO (aPure E Proofs.Try.f130 H130 N [.int .i64 n]) (cv sh130) = bindO (F130 n) fun r => some (v130 r) := by
  unfold F130
  rw [r_pure]
  repeat' (first | with_reducible (first | refine ier (fun _ => ?_) fun _ => ?_ | refine ie (fun _ => ?_) fun _ => ?_ | refine ienr (fun _ => ?_) fun _ => ?_ | refine ien (fun _ => ?_) fun _ => ?_ | refine be fun _ => ?_ | refine ber fun _ => ?_ | refine oer (fun _ => ?_) ?_ | refine oe (fun _ => ?_) ?_) | ((with_reducible (first | refine alr ?_ fun _ _ _ _ => ?_ | refine al ?_ fun _ _ _ _ => ?_)); exact rfl) | simp -implicitDefEqProofs only [push_cast, seval, *] | simp only [bindO_assoc])

theorem ev28 {E : Env} {N : Nat} (hB : NB N) (self28 : Node → Option (Int)) (hty : E.ty = tys) (heq : E.eqt = eqts) (h0 : E.n0 = 0) (g28_28 : Tb E 28 (plain (ts28 self28))) (n : Node) :
    bindO (aPure E Proofs.Try.f28 H28 N [.agg (Node.cells n)]) (cv sh28) = bindO (F28b self28 N n) fun r => some (v28 r) := by
  unfold F28b
  rw [r_pure]
  repeat' (first | with_reducible (first | refine ier (fun _ => ?_) fun _ => ?_ | refine ie (fun _ => ?_) fun _ => ?_ | refine ienr (fun _ => ?_) fun _ => ?_ | refine ien (fun _ => ?_) fun _ => ?_ | refine be fun _ => ?_ | refine ber fun _ => ?_ | refine oer (fun _ => ?_) ?_ | refine oe (fun _ => ?_) ?_) | ((with_reducible (first | refine alr ?_ fun _ _ _ _ => ?_ | refine al ?_ fun _ _ _ _ => ?_)); exact rfl) | simp -implicitDefEqProofs only [push_cast, seval, *] | simp only [bindO_assoc])

theorem ev39 {E : Env} {N : Nat} (hB : NB N) (self39 : Node → Option (Int)) (hty : E.ty = tys) (heq : E.eqt = eqts) (h0 : E.n0 = 0) (g39_39 : Tb E 39 (plain (ts39 self39))) (n : Node) :
    bindO (aPure E Proofs.Try.f39 H39 N [.agg (Node.cells n)]) (cv sh39) = bindO (F39b self39 N n) fun r => some (v39 r) := by
  unfold F39b
  rw [r_pure]
  repeat' (first | with_reducible (first | refine ier (fun _ => ?_) fun _ => ?_ | refine ie (fun _ => ?_) fun _ => ?_ | refine ienr (fun _ => ?_) fun _ => ?_ | refine ien (fun _ => ?_) fun _ => ?_ | refine be fun _ => ?_ | refine ber fun _ => ?_ | refine oer (fun _ => ?_) ?_ | refine oe (fun _ => ?_) ?_) | ((with_reducible (first | refine alr ?_ fun _ _ _ _ => ?_ | refine al ?_ fun _ _ _ _ => ?_)); exact rfl) | simp -implicitDefEqProofs only [push_cast, seval, *] | simp only [bindO_assoc])
  refine fl (S := Int) Node.cells n.kids (fun (i1 : Nat) (s3 : Int) => [.top, .top, .top, .int .i64 s3, .top, .top, .top, .sl false 5 (List.map Node.cells n.kids), .int .i64 (n.kids.length : Int), .int .i64 (i1 : Int), .top, .top, .top, .top, .top, .top, .top, .top, .top, .top]) (fun (_ : Nat) (s3 : Int) => [.var [.int .i64 n.op, .int .i64 n.sortf, .str n.name, .int .i64 n.num, .sl false 5 (List.map Node.cells n.kids)]]) hB 0 (fun _ _ _ _ _ _ _ _ => ?_) fun _ _ => ?_ <;> repeat' (first | with_reducible (first | refine ier (fun _ => ?_) fun _ => ?_ | refine ie (fun _ => ?_) fun _ => ?_ | refine ienr (fun _ => ?_) fun _ => ?_ | refine ien (fun _ => ?_) fun _ => ?_ | refine be fun _ => ?_ | refine ber fun _ => ?_ | refine oer (fun _ => ?_) ?_ | refine oe (fun _ => ?_) ?_) | ((with_reducible (first | refine alr ?_ fun _ _ _ _ => ?_ | refine al ?_ fun _ _ _ _ => ?_)); exact rfl) | simp -implicitDefEqProofs only [push_cast, seval, *] | simp only [bindO_assoc])
theorem ev75 {E : Env} {N : Nat} (hB : NB N) (hty : E.ty = tys) (heq : E.eqt = eqts) (h0 : E.n0 = 0)  (c : Int) :
    bindO (aPure E Proofs.Try.f75 H75 N [.int .u8 c]) (cv sh75) = bindO (F75 c) fun r => some (v75 r) := by
  unfold F75
  rw [r_pure]
  repeat' (first | with_reducible (first | refine ier (fun _ => ?_) fun _ => ?_ | refine ie (fun _ => ?_) fun _ => ?_ | refine ienr (fun _ => ?_) fun _ => ?_ | refine ien (fun _ => ?_) fun _ => ?_ | refine be fun _ => ?_ | refine ber fun _ => ?_ | refine oer (fun _ => ?_) ?_ | refine oe (fun _ => ?_) ?_) | ((with_reducible (first | refine alr ?_ fun _ _ _ _ => ?_ | refine al ?_ fun _ _ _ _ => ?_)); exact rfl) | simp -implicitDefEqProofs only [push_cast, seval, *] | simp only [bindO_assoc])

theorem ev121 {E : Env} {N : Nat} (hB : NB N) (hty : E.ty = tys) (heq : E.eqt = eqts) (h0 : E.n0 = 0)   :
    bindO (aPure E Proofs.Try.f121 H121 N []) (cv sh121) = bindO (F121) fun r => some (v121 r) := by
  unfold F121
  rw [r_pure]
  repeat' (first | with_reducible (first | refine ier (fun _ => ?_) fun _ => ?_ | refine ie (fun _ => ?_) fun _ => ?_ | refine ienr (fun _ => ?_) fun _ => ?_ | refine ien (fun _ => ?_) fun _ => ?_ | refine be fun _ => ?_ | refine ber fun _ => ?_ | refine oer (fun _ => ?_) ?_ | refine oe (fun _ => ?_) ?_) | ((with_reducible (first | refine alr ?_ fun _ _ _ _ => ?_ | refine al ?_ fun _ _ _ _ => ?_)); exact rfl) | simp -implicitDefEqProofs only [push_cast, seval, *] | simp only [bindO_assoc])

theorem ev76 {E : Env} {N : Nat} (hB : NB N) (hty : E.ty = tys) (heq : E.eqt = eqts) (h0 : E.n0 = 0) (g76_121 : Tb E 121 (plain (t121))) (s : ByteArray) :
    bindO (aPure E Proofs.Try.f76 H76 N [.str s]) (cv sh76) = bindO (F76 N s) fun r => some (v76 r) := by
  unfold F76
  rw [r_pure]
  repeat' (first | with_reducible (first | refine ier (fun _ => ?_) fun _ => ?_ | refine ie (fun _ => ?_) fun _ => ?_ | refine ienr (fun _ => ?_) fun _ => ?_ | refine ien (fun _ => ?_) fun _ => ?_ | refine be fun _ => ?_ | refine ber fun _ => ?_ | refine oer (fun _ => ?_) ?_ | refine oe (fun _ => ?_) ?_) | ((with_reducible (first | refine alr ?_ fun _ _ _ _ => ?_ | refine al ?_ fun _ _ _ _ => ?_)); exact rfl) | simp -implicitDefEqProofs only [push_cast, seval, *] | simp only [bindO_assoc])
  rename_i r1; refine fl (S := Unit) cS r1 (fun (i2 : Nat) (s4 : Unit) => [.str s, .top, .top, .top, .top, .sl false 1 (List.map cS r1), .int .i64 (r1.length : Int), .int .i64 (i2 : Int), .top, .top, .top, .top, .top, .top, .top]) (fun (_ : Nat) (s4 : Unit) => []) hB () (fun _ _ _ _ _ _ _ _ => ?_) fun _ _ => ?_ <;> repeat' (first | with_reducible (first | refine ier (fun _ => ?_) fun _ => ?_ | refine ie (fun _ => ?_) fun _ => ?_ | refine ienr (fun _ => ?_) fun _ => ?_ | refine ien (fun _ => ?_) fun _ => ?_ | refine be fun _ => ?_ | refine ber fun _ => ?_ | refine oer (fun _ => ?_) ?_ | refine oe (fun _ => ?_) ?_) | ((with_reducible (first | refine alr ?_ fun _ _ _ _ => ?_ | refine al ?_ fun _ _ _ _ => ?_)); exact rfl) | simp -implicitDefEqProofs only [push_cast, seval, *] | simp only [bindO_assoc])
theorem ev77 {E : Env} {N : Nat} (hB : NB N) (hty : E.ty = tys) (heq : E.eqt = eqts) (h0 : E.n0 = 0)  (c : Int) :
    bindO (aPure E Proofs.Try.f77 H77 N [.int .u8 c]) (cv sh77) = bindO (F77 c) fun r => some (v77 r) := by
  unfold F77
  rw [r_pure]
  repeat' (first | with_reducible (first | refine ier (fun _ => ?_) fun _ => ?_ | refine ie (fun _ => ?_) fun _ => ?_ | refine ienr (fun _ => ?_) fun _ => ?_ | refine ien (fun _ => ?_) fun _ => ?_ | refine be fun _ => ?_ | refine ber fun _ => ?_ | refine oer (fun _ => ?_) ?_ | refine oe (fun _ => ?_) ?_) | ((with_reducible (first | refine alr ?_ fun _ _ _ _ => ?_ | refine al ?_ fun _ _ _ _ => ?_)); exact rfl) | simp -implicitDefEqProofs only [push_cast, seval, *] | simp only [bindO_assoc])

theorem ev17 {E : Env} {N : Nat} (hB : NB N) (hty : E.ty = tys) (heq : E.eqt = eqts) (h0 : E.n0 = 0) (g17_75 : Tb E 75 (plain (t75))) (g17_76 : Tb E 76 (plain (t76 N))) (g17_77 : Tb E 77 (plain (t77))) (s : ByteArray) :
    bindO (aPure E Proofs.Try.f17 H17 N [.str s]) (cv sh17) = bindO (F17 N s) fun r => some (v17 r) := by
  unfold F17
  rw [r_pure]
  repeat' (first | with_reducible (first | refine ier (fun _ => ?_) fun _ => ?_ | refine ie (fun _ => ?_) fun _ => ?_ | refine ienr (fun _ => ?_) fun _ => ?_ | refine ien (fun _ => ?_) fun _ => ?_ | refine be fun _ => ?_ | refine ber fun _ => ?_ | refine oer (fun _ => ?_) ?_ | refine oe (fun _ => ?_) ?_) | ((with_reducible (first | refine alr ?_ fun _ _ _ _ => ?_ | refine al ?_ fun _ _ _ _ => ?_)); exact rfl) | simp -implicitDefEqProofs only [push_cast, seval, *] | simp only [bindO_assoc])
  refine wl (S := Int) (fun (s3 : Int) => [.str s, .top, .top, .int .i64 s3, .top, .top, .top, .top, .top, .top, .top, .top, .top, .top, .top, .top, .top, .top, .top, .top, .top, .top, .top, .top, .top, .top, .top, .top, .top, .top, .top, .top, .top, .top, .top, .top, .top, .top, .top, .top, .top, .top, .top, .top, .top, .top]) (fun (s3 : Int) => []) 1 (fun _ => ?_) <;> repeat' (first | with_reducible (first | refine ier (fun _ => ?_) fun _ => ?_ | refine ie (fun _ => ?_) fun _ => ?_ | refine ienr (fun _ => ?_) fun _ => ?_ | refine ien (fun _ => ?_) fun _ => ?_ | refine be fun _ => ?_ | refine ber fun _ => ?_ | refine oer (fun _ => ?_) ?_ | refine oe (fun _ => ?_) ?_) | ((with_reducible (first | refine alr ?_ fun _ _ _ _ => ?_ | refine al ?_ fun _ _ _ _ => ?_)); exact rfl) | simp -implicitDefEqProofs only [push_cast, seval, *] | simp only [bindO_assoc])
theorem ev118 {E : Env} {N : Nat} (hB : NB N) (hty : E.ty = tys) (heq : E.eqt = eqts) (h0 : E.n0 = 0) (g118_17 : Tb E 17 (plain (t17 N))) (n : Node) :
    bindO (aPure E Proofs.Try.f118 H118 N [.agg (Node.cells n)]) (cv sh118) = bindO (F118 N n) fun r => some (v118 r) := by
  unfold F118
  rw [r_pure]
  repeat' (first | with_reducible (first | refine ier (fun _ => ?_) fun _ => ?_ | refine ie (fun _ => ?_) fun _ => ?_ | refine ienr (fun _ => ?_) fun _ => ?_ | refine ien (fun _ => ?_) fun _ => ?_ | refine be fun _ => ?_ | refine ber fun _ => ?_ | refine oer (fun _ => ?_) ?_ | refine oe (fun _ => ?_) ?_) | ((with_reducible (first | refine alr ?_ fun _ _ _ _ => ?_ | refine al ?_ fun _ _ _ _ => ?_)); exact rfl) | simp -implicitDefEqProofs only [push_cast, seval, *] | simp only [bindO_assoc])

theorem ev119 {E : Env} {N : Nat} (hB : NB N) (hty : E.ty = tys) (heq : E.eqt = eqts) (h0 : E.n0 = 0)  (s : Int) :
    bindO (aPure E Proofs.Try.f119 H119 N [.int .i64 s]) (cv sh119) = bindO (F119 s) fun r => some (v119 r) := by
  unfold F119
  rw [r_pure]
  repeat' (first | with_reducible (first | refine ier (fun _ => ?_) fun _ => ?_ | refine ie (fun _ => ?_) fun _ => ?_ | refine ienr (fun _ => ?_) fun _ => ?_ | refine ien (fun _ => ?_) fun _ => ?_ | refine be fun _ => ?_ | refine ber fun _ => ?_ | refine oer (fun _ => ?_) ?_ | refine oe (fun _ => ?_) ?_) | ((with_reducible (first | refine alr ?_ fun _ _ _ _ => ?_ | refine al ?_ fun _ _ _ _ => ?_)); exact rfl) | simp -implicitDefEqProofs only [push_cast, seval, *] | simp only [bindO_assoc])

theorem ev120 {E : Env} {N : Nat} (hB : NB N) (hty : E.ty = tys) (heq : E.eqt = eqts) (h0 : E.n0 = 0)  (op : Int) :
    bindO (aPure E Proofs.Try.f120 H120 N [.int .i64 op]) (cv sh120) = bindO (F120 op) fun r => some (v120 r) := by
  unfold F120
  rw [r_pure]
  repeat' (first | with_reducible (first | refine ier (fun _ => ?_) fun _ => ?_ | refine ie (fun _ => ?_) fun _ => ?_ | refine ienr (fun _ => ?_) fun _ => ?_ | refine ien (fun _ => ?_) fun _ => ?_ | refine be fun _ => ?_ | refine ber fun _ => ?_ | refine oer (fun _ => ?_) ?_ | refine oe (fun _ => ?_) ?_) | ((with_reducible (first | refine alr ?_ fun _ _ _ _ => ?_ | refine al ?_ fun _ _ _ _ => ?_)); exact rfl) | simp -implicitDefEqProofs only [push_cast, seval, *] | simp only [bindO_assoc])

theorem ev72 {E : Env} {N : Nat} (hB : NB N) (self72 : Node → Option (Bool)) (hty : E.ty = tys) (heq : E.eqt = eqts) (h0 : E.n0 = 0) (g72_118 : Tb E 118 (plain (t118 N))) (g72_72 : Tb E 72 (plain (ts72 self72))) (g72_28 : Tb E 28 (plain (t28 N))) (g72_119 : Tb E 119 (plain (t119))) (g72_120 : Tb E 120 (plain (t120))) (n : Node) :
    bindO (aPure E Proofs.Try.f72 H72 N [.agg (Node.cells n)]) (cv sh72) = bindO (F72b self72 N n) fun r => some (v72 r) := by
  unfold F72b
  rw [r_pure]
  repeat' (first | with_reducible (first | refine ier (fun _ => ?_) fun _ => ?_ | refine ie (fun _ => ?_) fun _ => ?_ | refine ienr (fun _ => ?_) fun _ => ?_ | refine ien (fun _ => ?_) fun _ => ?_ | refine be fun _ => ?_ | refine ber fun _ => ?_ | refine oer (fun _ => ?_) ?_ | refine oe (fun _ => ?_) ?_) | ((with_reducible (first | refine alr ?_ fun _ _ _ _ => ?_ | refine al ?_ fun _ _ _ _ => ?_)); exact rfl) | simp -implicitDefEqProofs only [push_cast, seval, *] | simp only [bindO_assoc])
  refine fl (S := Unit) Node.cells n.kids (fun (i2 : Nat) (s4 : Unit) => [.top, .ptr 0 0, .top, .top, .top, .top, .top, .top, .top, .top, .top, .top, .top, .sl false 5 (List.map Node.cells n.kids), .int .i64 (n.kids.length : Int), .int .i64 (i2 : Int), .top, .top, .top, .top, .top, .top, .top, .top, .top, .top, .top, .top, .top, .top, .top, .top, .top, .top, .top, .top, .top, .top, .top, .top, .top, .top, .top, .top, .top, .top, .top, .top, .top, .top, .top, .top, .top, .top, .top, .top, .top, .top, .top, .top, .top, .top, .top, .top, .top, .top, .top, .top, .top, .top, .top, .top, .top, .top, .top, .top, .top, .top, .top, .top, .top, .top, .top, .top, .top, .top, .top, .top, .top, .top, .top, .top, .top, .top, .top, .top, .top, .top, .top, .top, .top, .top, .top, .top, .top, .top, .top, .top, .top, .top, .top, .top, .top, .top, .top, .top, .top, .top, .top, .top, .top, .top, .top, .top, .top, .top, .top, .top, .top, .top, .top, .top, .top, .top, .top, .top, .top]) (fun (_ : Nat) (s4 : Unit) => [.var [.int .i64 n.op, .int .i64 n.sortf, .str n.name, .int .i64 n.num, .sl false 5 (List.map Node.cells n.kids)]]) hB () (fun _ _ _ _ _ _ _ _ => ?_) fun _ _ => ?_ <;> repeat' (first | with_reducible (first | refine ier (fun _ => ?_) fun _ => ?_ | refine ie (fun _ => ?_) fun _ => ?_ | refine ienr (fun _ => ?_) fun _ => ?_ | refine ien (fun _ => ?_) fun _ => ?_ | refine be fun _ => ?_ | refine ber fun _ => ?_ | refine oer (fun _ => ?_) ?_ | refine oe (fun _ => ?_) ?_) | ((with_reducible (first | refine alr ?_ fun _ _ _ _ => ?_ | refine al ?_ fun _ _ _ _ => ?_)); exact rfl) | simp -implicitDefEqProofs only [push_cast, seval, *] | simp only [bindO_assoc])
  rename_i r20 _ _; refine fl (S := Unit) (cI .i64) r20.1 (fun (i21 : Nat) (s23 : Unit) => [.top, .ptr 0 0, .top, .top, .top, .top, .top, .top, .top, .top, .top, .top, .top, .top, .top, .top, .top, .top, .top, .top, .top, .top, .top, .top, .top, .top, .top, .top, .top, .top, .top, .top, .top, .top, .top, .top, .top, .top, .top, .top, .top, .top, .top, .top, .top, .top, .top, .top, .top, .top, .top, .top, .top, .top, .top, .top, .top, .top, .top, .top, .top, .top, .top, .top, .top, .top, .top, .top, .top, .top, .top, .top, .top, .top, .top, .top, .top, .top, .top, .top, .top, .top, .top, .top, .top, .top, .top, .top, .top, .top, .top, .top, .top, .top, .top, .top, .top, .top, .top, .top, .top, .top, .top, .top, .top, .top, .top, .top, .top, .top, .top, .top, .top, .top, .top, .top, .top, .top, .top, .top, .top, .sl false 1 (List.map (cI .i64) r20.1), .int .i64 (r20.1.length : Int), .int .i64 (i21 : Int), .top, .top, .top, .top, .top, .top, .top, .top, .top, .top, .top, .top, .top]) (fun (_ : Nat) (s23 : Unit) => [.var [.int .i64 n.op, .int .i64 n.sortf, .str n.name, .int .i64 n.num, .sl false 5 (List.map Node.cells n.kids)]]) hB () (fun _ _ _ _ _ _ _ _ => ?_) fun _ _ => ?_ <;> repeat' (first | with_reducible (first | refine ier (fun _ => ?_) fun _ => ?_ | refine ie (fun _ => ?_) fun _ => ?_ | refine ienr (fun _ => ?_) fun _ => ?_ | refine ien (fun _ => ?_) fun _ => ?_ | refine be fun _ => ?_ | refine ber fun _ => ?_ | refine oer (fun _ => ?_) ?_ | refine oe (fun _ => ?_) ?_) | ((with_reducible (first | refine alr ?_ fun _ _ _ _ => ?_ | refine al ?_ fun _ _ _ _ => ?_)); exact rfl) | simp -implicitDefEqProofs only [push_cast, seval, *] | simp only [bindO_assoc])
end Go.Abs.Try
