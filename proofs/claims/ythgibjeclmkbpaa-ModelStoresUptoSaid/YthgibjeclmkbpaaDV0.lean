import Derived.Test.YthgibjeclmkbpaaDD
set_option linter.unusedSimpArgs false
set_option linter.unusedVariables false
namespace Go.Abs.Try
open Go.RowKit
set_option maxRecDepth 100000
set_option maxHeartbeats 40000000
attribute [local push_cast] F117_f1 F117_s1 F154_f1 F154_s1 F16_f1 F16_s1 F36_s1 F37_f1 F37_s1 F38_f1 F38_s1 F40_f1 F40_s1 F71_f1 F71_s1 Proofs.Try.f14 Proofs.Try.f19 Proofs.Try.f20 Proofs.Try.f21 Proofs.Try.f22 Proofs.Try.f35 Proofs.Try.f36 Proofs.Try.f37 Proofs.Try.f38 Proofs.Try.f41 Proofs.Try.f55 Proofs.Try.f56 Proofs.Try.f57 Proofs.Try.f58 Proofs.Try.f59 ty2 ty22 ty24 ty3 ty4 ty56 ty67 ty9
theorem ev35 {E : Env} {N : Nat} (hB : NB N) (hty : E.ty = tys) (heq : E.eqt = eqts) (h0 : E.n0 = 0) (hal : E.ali = noAli) (g35_23 : Tb E 23 (plain (t23))) (q35_39 : ∀ cs, E.seq (.fn 39 cs) = sq39 cs) (n : Node) :
   bindO (aPure E Proofs.Try.f35 H35 N [.agg (Node.cells n)]) (cv sh35) = bindO (F37 n) fun r => some (v35 r) := by
 unfold F37
 rw [r_pure]
 repeat' (first | (with_reducible (first | apply ier | apply ie | apply ienr | apply ien | apply be | apply ber | apply oer | apply oe)) <;> try intro _ | ((with_reducible (first | refine alr ?_ fun _ _ _ _ => ?_ | refine al ?_ fun _ _ _ _ => ?_)); exact rfl) | simp -implicitDefEqProofs only [push_cast, seval, *] | simp only [bindO_assoc])
 rename_i l1; refine rl (S := Int) e39 (fun (s3 : Int) => [.var [.int .i64 n.op, .int .i64 n.sortf, .str n.name, .int .i64 n.num, .sl false 5 (List.map Node.cells n.kids)], .var [.int .i64 s3]]) l1 0 (fun _ _ => ?_) (fun _ => ?_) <;> repeat' (first | (with_reducible (first | apply ier | apply ie | apply ienr | apply ien | apply be | apply ber | apply oer | apply oe)) <;> try intro _ | ((with_reducible (first | refine alr ?_ fun _ _ _ _ => ?_ | refine al ?_ fun _ _ _ _ => ?_)); exact rfl) | simp -implicitDefEqProofs only [push_cast, seval, *] | simp only [bindO_assoc])
theorem ev36 {E : Env} {N : Nat} (hB : NB N) (self36 : Node → Option (Int)) (hty : E.ty = tys) (heq : E.eqt = eqts) (h0 : E.n0 = 0) (hal : E.ali = noAli) (g36_36 : Tb E 36 (plain (ts36 self36))) (n : Node) :
   bindO (aPure E Proofs.Try.f36 H36 N [.agg (Node.cells n)]) (cv sh36) = bindO (F38b self36 N n) fun r => some (v36 r) := by
 unfold F38b
 rw [r_pure]
 repeat' (first | (with_reducible (first | apply ier | apply ie | apply ienr | apply ien | apply be | apply ber | apply oer | apply oe)) <;> try intro _ | ((with_reducible (first | refine alr ?_ fun _ _ _ _ => ?_ | refine al ?_ fun _ _ _ _ => ?_)); exact rfl) | simp -implicitDefEqProofs only [push_cast, seval, *] | simp only [bindO_assoc])
 refine fl (S := Int) Node.cells n.kids (fun (i1 : Nat) (s3 : Int) => [Z, Z, Z, .int .i64 s3, Z, Z, Z, .sl false 5 (List.map Node.cells n.kids), .int .i64 (n.kids.length : Int), .int .i64 (i1 : Int), Z, Z, Z, Z, Z, Z, Z, Z, Z, Z]) (fun (_ : Nat) (s3 : Int) => [.var [.int .i64 n.op, .int .i64 n.sortf, .str n.name, .int .i64 n.num, .sl false 5 (List.map Node.cells n.kids)]]) hB 0 (fun _ _ _ _ _ _ _ _ => ?_) fun _ _ => ?_ <;> repeat' (first | (with_reducible (first | apply ier | apply ie | apply ienr | apply ien | apply be | apply ber | apply oer | apply oe)) <;> try intro _ | ((with_reducible (first | refine alr ?_ fun _ _ _ _ => ?_ | refine al ?_ fun _ _ _ _ => ?_)); exact rfl) | simp -implicitDefEqProofs only [push_cast, seval, *] | simp only [bindO_assoc])
theorem ev19 {E : Env} {N : Nat} (hB : NB N) (hty : E.ty = tys) (heq : E.eqt = eqts) (h0 : E.n0 = 0) (hal : E.ali = noAli) (g19_35 : Tb E 35 (plain (t35))) (g19_36 : Tb E 36 (plain (t36 N))) (n : Node) :
   bindO (aPure E Proofs.Try.f19 H19 N [.agg (Node.cells n)]) (cv sh19) = bindO (F70 N n) fun r => some (v19 r) := by
 unfold F70
 rw [r_pure]
 repeat' (first | (with_reducible (first | apply ier | apply ie | apply ienr | apply ien | apply be | apply ber | apply oer | apply oe)) <;> try intro _ | ((with_reducible (first | refine alr ?_ fun _ _ _ _ => ?_ | refine al ?_ fun _ _ _ _ => ?_)); exact rfl) | simp -implicitDefEqProofs only [push_cast, seval, *] | simp only [bindO_assoc])
theorem ev58 {E : Env} {N : Nat} (hB : NB N) (hty : E.ty = tys) (heq : E.eqt = eqts) (h0 : E.n0 = 0) (hal : E.ali = noAli)  (c : Int) :
   bindO (aPure E Proofs.Try.f58 H58 N [.int .u8 c]) (cv sh58) = bindO (F73 c) fun r => some (v58 r) := by
 unfold F73
 rw [r_pure]
 repeat' (first | (with_reducible (first | apply ier | apply ie | apply ienr | apply ien | apply be | apply ber | apply oer | apply oe)) <;> try intro _ | ((with_reducible (first | refine alr ?_ fun _ _ _ _ => ?_ | refine al ?_ fun _ _ _ _ => ?_)); exact rfl) | simp -implicitDefEqProofs only [push_cast, seval, *] | simp only [bindO_assoc])
theorem ev59 {E : Env} {N : Nat} (hB : NB N) (hty : E.ty = tys) (heq : E.eqt = eqts) (h0 : E.n0 = 0) (hal : E.ali = noAli)  (s : ByteArray) :
   bindO (aPure E Proofs.Try.f59 H59 N [.str s]) (cv sh59) = bindO (F74 s) fun r => some (v59 r) := by
 unfold F74
 rw [r_pure]
 repeat' (first | (with_reducible (first | apply ier | apply ie | apply ienr | apply ien | apply be | apply ber | apply oer | apply oe)) <;> try intro _ | ((with_reducible (first | refine alr ?_ fun _ _ _ _ => ?_ | refine al ?_ fun _ _ _ _ => ?_)); exact rfl) | simp -implicitDefEqProofs only [push_cast, seval, *] | simp only [bindO_assoc])
theorem ev41 {E : Env} {N : Nat} (hB : NB N) (hty : E.ty = tys) (heq : E.eqt = eqts) (h0 : E.n0 = 0) (hal : E.ali = noAli) (g41_58 : Tb E 58 (plain (t58))) (g41_59 : Tb E 59 (plain (t59))) (s : ByteArray) :
   bindO (aPure E Proofs.Try.f41 H41 N [.str s]) (cv sh41) = bindO (F16 N s) fun r => some (v41 r) := by
 unfold F16
 rw [r_pure]
 repeat' (first | (with_reducible (first | apply ier | apply ie | apply ienr | apply ien | apply be | apply ber | apply oer | apply oe)) <;> try intro _ | ((with_reducible (first | refine alr ?_ fun _ _ _ _ => ?_ | refine al ?_ fun _ _ _ _ => ?_)); exact rfl) | simp -implicitDefEqProofs only [push_cast, seval, *] | simp only [bindO_assoc])
 refine fs (S := Unit) s.size (fun (i3 : Nat) (s5 : Unit) => [.str s, Z, Z, Z, Z, Z, Z, Z, Z, Z, Z, Z, Z, Z, Z, Z, Z, Z, Z, Z, Z, Z, Z, Z, .int .i64 (s.size : Int), .int .i64 (i3 : Int), Z, Z, Z, Z, Z, Z, Z, Z, Z, Z, Z, Z, Z, Z, Z, Z, Z, Z, Z, Z, Z]) (fun (_ : Nat) (s5 : Unit) => []) hB () (fun _ _ _ _ _ _ => ?_) fun _ _ => ?_ <;> repeat' (first | (with_reducible (first | apply ier | apply ie | apply ienr | apply ien | apply be | apply ber | apply oer | apply oe)) <;> try intro _ | ((with_reducible (first | refine alr ?_ fun _ _ _ _ => ?_ | refine al ?_ fun _ _ _ _ => ?_)); exact rfl) | simp -implicitDefEqProofs only [push_cast, seval, *] | simp only [bindO_assoc])
theorem ev37 {E : Env} {N : Nat} (hB : NB N) (hty : E.ty = tys) (heq : E.eqt = eqts) (h0 : E.n0 = 0) (hal : E.ali = noAli) (g37_41 : Tb E 41 (plain (t41 N))) (n : Node) :
   bindO (aPure E Proofs.Try.f37 H37 N [.agg (Node.cells n)]) (cv sh37) = bindO (F116 N n) fun r => some (v37 r) := by
 unfold F116
 rw [r_pure]
 repeat' (first | (with_reducible (first | apply ier | apply ie | apply ienr | apply ien | apply be | apply ber | apply oer | apply oe)) <;> try intro _ | ((with_reducible (first | refine alr ?_ fun _ _ _ _ => ?_ | refine al ?_ fun _ _ _ _ => ?_)); exact rfl) | simp -implicitDefEqProofs only [push_cast, seval, *] | simp only [bindO_assoc])
theorem ev22 {E : Env} {N : Nat} (hB : NB N) (hty : E.ty = tys) (heq : E.eqt = eqts) (h0 : E.n0 = 0) (hal : E.ali = noAli)  (n : Node) :
   bindO (aPure E Proofs.Try.f22 H22 N [.agg (Node.cells n)]) (cv sh22) = bindO (F36 N n) fun r => some (v22 r) := by
 unfold F36
 rw [r_pure]
 repeat' (first | (with_reducible (first | apply ier | apply ie | apply ienr | apply ien | apply be | apply ber | apply oer | apply oe)) <;> try intro _ | ((with_reducible (first | refine alr ?_ fun _ _ _ _ => ?_ | refine al ?_ fun _ _ _ _ => ?_)); exact rfl) | simp -implicitDefEqProofs only [push_cast, seval, *] | simp only [bindO_assoc])
 refine wl (S := Int × Int × ByteArray × Int × (List Node)) (fun (s1 : Int × Int × ByteArray × Int × (List Node)) => [Z, .ptr 0 0, Z, Z, Z, Z, Z, Z, Z, Z, Z, Z, Z, Z, Z, Z, Z, Z, Z, Z, Z, Z, Z, Z, Z, Z, Z, Z, Z, Z, Z, Z, Z, Z, Z, Z, Z, Z, Z, Z, Z, Z, Z, Z, Z]) (fun (s1 : Int × Int × ByteArray × Int × (List Node)) => [.var [.int .i64 s1.1, .int .i64 s1.2.1, .str s1.2.2.1, .int .i64 s1.2.2.2.1, .sl false 5 (List.map Node.cells s1.2.2.2.2)]]) (n.op, n.sortf, n.name, n.num, n.kids) (fun _ => ?_) <;> repeat' (first | (with_reducible (first | apply ier | apply ie | apply ienr | apply ien | apply be | apply ber | apply oer | apply oe)) <;> try intro _ | ((with_reducible (first | refine alr ?_ fun _ _ _ _ => ?_ | refine al ?_ fun _ _ _ _ => ?_)); exact rfl) | simp -implicitDefEqProofs only [push_cast, seval, *] | simp only [bindO_assoc])
theorem ev55 {E : Env} {N : Nat} (hB : NB N) (hty : E.ty = tys) (heq : E.eqt = eqts) (h0 : E.n0 = 0) (hal : E.ali = noAli)  (op : Int) :
   bindO (aPure E Proofs.Try.f55 H55 N [.int .i64 op]) (cv sh55) = bindO (F153 op) fun r => some (v55 r) := by
 unfold F153
 rw [r_pure]
 repeat' (first | (with_reducible (first | apply ier | apply ie | apply ienr | apply ien | apply be | apply ber | apply oer | apply oe)) <;> try intro _ | ((with_reducible (first | refine alr ?_ fun _ _ _ _ => ?_ | refine al ?_ fun _ _ _ _ => ?_)); exact rfl) | simp -implicitDefEqProofs only [push_cast, seval, *] | simp only [bindO_assoc])
theorem ev56 {E : Env} {N : Nat} (hB : NB N) (hty : E.ty = tys) (heq : E.eqt = eqts) (h0 : E.n0 = 0) (hal : E.ali = noAli)  (s1q : List Int) (s2q : List Int) :
   bindO (aPure E Proofs.Try.f56 H56 N [.sl false 1 (List.map (cI .i64) s1q), .sl false 1 (List.map (cI .i64) s2q)]) (cv sh56) = bindO (F154 N s1q s2q) fun r => some (v56 r) := by
 unfold F154
 rw [r_pure]
 repeat' (first | (with_reducible (first | apply ier | apply ie | apply ienr | apply ien | apply be | apply ber | apply oer | apply oe)) <;> try intro _ | ((with_reducible (first | refine alr ?_ fun _ _ _ _ => ?_ | refine al ?_ fun _ _ _ _ => ?_)); exact rfl) | simp -implicitDefEqProofs only [push_cast, seval, *] | simp only [bindO_assoc])
 refine fl (S := Unit) (cI .i64) s1q (fun (i1 : Nat) (s3 : Unit) => [.sl false 1 (List.map (cI .i64) s1q), .sl false 1 (List.map (cI .i64) s2q), Z, Z, Z, Z, Z, Z, Z, Z, Z, Z, .int .i64 (s1q.length : Int), .int .i64 (i1 : Int), Z, Z, Z, Z, Z, Z, Z, Z, Z, Z, Z, Z]) (fun (_ : Nat) (s3 : Unit) => []) hB () (fun _ _ _ _ _ _ _ _ => ?_) fun _ _ => ?_ <;> repeat' (first | (with_reducible (first | apply ier | apply ie | apply ienr | apply ien | apply be | apply ber | apply oer | apply oe)) <;> try intro _ | ((with_reducible (first | refine alr ?_ fun _ _ _ _ => ?_ | refine al ?_ fun _ _ _ _ => ?_)); exact rfl) | simp -implicitDefEqProofs only [push_cast, seval, *] | simp only [bindO_assoc])
theorem ev38 {E : Env} {E57 : Nat → Env} {N : Nat} (hB : NB N) (hty : E.ty = tys) (heq : E.eqt = eqts) (h0 : E.n0 = 0) (hal : E.ali = noAli) (g38_22 : Tb E 22 (plain (t22 N))) (g38_55 : Tb E 55 (plain (t55))) (g38_56 : Tb E 56 (lent (t56 N))) (g38_57 : Tb E 57 (inl E57 Proofs.Try.f57 H57 N)) (hty57 : ∀ n, (E57 n).ty = tys) (heq57 : ∀ n, (E57 n).eqt = eqts) (h057 : ∀ n, (E57 n).n0 = n) (hal57 : ∀ n, (E57 n).ali = noAli) (n : Node) :
   bindO (aPure E Proofs.Try.f38 H38 N [.agg (Node.cells n)]) (cv sh38) = bindO (F117 N n) fun r => some (v38 r) := by
 unfold F117
 rw [r_pure]
 repeat' (first | (with_reducible (first | apply ier | apply ie | apply ienr | apply ien | apply be | apply ber | apply oer | apply oe)) <;> try intro _ | ((with_reducible (first | refine alr ?_ fun _ _ _ _ => ?_ | refine al ?_ fun _ _ _ _ => ?_)); exact rfl) | simp -implicitDefEqProofs only [push_cast, seval, *] | simp only [bindO_assoc] | ((first | refine arr (c := (cI .i64)) fun _ _ _ _ => ?_ | refine ar (c := (cI .i64)) fun _ _ _ _ => ?_); try simp only [Int.reduceToNat, Int.toNat_natCast] at *))
 refine fl (S := List Int) Node.cells n.kids (fun (i1 : Nat) (s3 : List Int) => [Z, .ptr 0 0, Z, .ptr 2 0, Z, Z, Z, Z, Z, Z, Z, Z, Z, Z, .sl false 5 (List.map Node.cells n.kids), .int .i64 (n.kids.length : Int), .int .i64 (i1 : Int), Z, Z, Z, Z, Z, Z, Z, Z, Z, Z, Z, Z, Z, Z, Z, Z, Z, Z, Z, Z, Z, Z, Z, Z, Z, Z, Z, Z, Z, Z, Z, Z, Z, Z, Z, Z, Z, Z, Z, Z, Z, Z, Z, Z, Z, Z, Z, Z, Z, Z, Z, Z, Z, Z, Z, Z, Z]) (fun (_ : Nat) (s3 : List Int) => [.var [.int .i64 n.op, .int .i64 n.sortf, .str n.name, .int .i64 n.num, .sl false 5 (List.map Node.cells n.kids)], .row 1 0 (List.map (cI .i64) s3), .var [.rs 1 0]]) hB (List.replicate n.kids.length 0) (fun _ _ _ _ _ _ _ _ => ?_) fun _ _ => ?_ <;> repeat' (first | (with_reducible (first | apply ier | apply ie | apply ienr | apply ien | apply be | apply ber | apply oer | apply oe)) <;> try intro _ | ((with_reducible (first | refine alr ?_ fun _ _ _ _ => ?_ | refine al ?_ fun _ _ _ _ => ?_)); exact rfl) | simp -implicitDefEqProofs only [push_cast, seval, *] | simp only [bindO_assoc] | ((first | refine arr (c := (cI .i64)) fun _ _ _ _ => ?_ | refine ar (c := (cI .i64)) fun _ _ _ _ => ?_); try simp only [Int.reduceToNat, Int.toNat_natCast] at *))
theorem ev20 {E : Env} {N : Nat} (hB : NB N) (hty : E.ty = tys) (heq : E.eqt = eqts) (h0 : E.n0 = 0) (hal : E.ali = noAli) (g20_23 : Tb E 23 (plain (t23))) (g20_37 : Tb E 37 (plain (t37 N))) (g20_38 : Tb E 38 (plain (t38 N))) (q20_39 : ∀ cs, E.seq (.fn 39 cs) = sq39 cs) (n : Node) :
   bindO (aPure E Proofs.Try.f20 H20 N [.agg (Node.cells n)]) (cv sh20) = bindO (F71 N n) fun r => some (v20 r) := by
 unfold F71
 rw [r_pure]
 repeat' (first | (with_reducible (first | apply ier | apply ie | apply ienr | apply ien | apply be | apply ber | apply oer | apply oe)) <;> try intro _ | ((with_reducible (first | refine alr ?_ fun _ _ _ _ => ?_ | refine al ?_ fun _ _ _ _ => ?_)); exact rfl) | simp -implicitDefEqProofs only [push_cast, seval, *] | simp only [bindO_assoc])
 rename_i l1; refine rl (S := Unit) e39 (fun (s3 : Unit) => [.var [.int .i64 n.op, .int .i64 n.sortf, .str n.name, .int .i64 n.num, .sl false 5 (List.map Node.cells n.kids)], .var [.bool false]]) l1 () (fun _ _ => ?_) (fun _ => ?_) <;> repeat' (first | (with_reducible (first | apply ier | apply ie | apply ienr | apply ien | apply be | apply ber | apply oer | apply oe)) <;> try intro _ | ((with_reducible (first | refine alr ?_ fun _ _ _ _ => ?_ | refine al ?_ fun _ _ _ _ => ?_)); exact rfl) | simp -implicitDefEqProofs only [push_cast, seval, *] | simp only [bindO_assoc])
theorem ev21 {E : Env} {N : Nat} (hB : NB N) (hty : E.ty = tys) (heq : E.eqt = eqts) (h0 : E.n0 = 0) (hal : E.ali = noAli) (g21_23 : Tb E 23 (plain (t23))) (q21_39 : ∀ cs, E.seq (.fn 39 cs) = sq39 cs) (n : Node) :
   bindO (aPure E Proofs.Try.f21 H21 N [.agg (Node.cells n)]) (cv sh21) = bindO (F40 n) fun r => some (v21 r) := by
 unfold F40
 rw [r_pure]
 repeat' (first | (with_reducible (first | apply ier | apply ie | apply ienr | apply ien | apply be | apply ber | apply oer | apply oe)) <;> try intro _ | ((with_reducible (first | refine alr ?_ fun _ _ _ _ => ?_ | refine al ?_ fun _ _ _ _ => ?_)); exact rfl) | simp -implicitDefEqProofs only [push_cast, seval, *, mk67] | simp only [bindO_assoc])
 rename_i l1; refine rl (S := ByteArray → Option Int) e39 (fun (s3 : ByteArray → Option Int) => [.var [.int .i64 n.op, .int .i64 n.sortf, .str n.name, .int .i64 n.num, .sl false 5 (List.map Node.cells n.kids)], .var [.bool false], .map .string (mS (evI .i64) s3), .var [.map 2]]) l1 (fun _ => none) (fun _ _ => ?_) (fun _ => ?_) <;> repeat' (first | (with_reducible (first | apply ier | apply ie | apply ienr | apply ien | apply be | apply ber | apply oer | apply oe)) <;> try intro _ | ((with_reducible (first | refine alr ?_ fun _ _ _ _ => ?_ | refine al ?_ fun _ _ _ _ => ?_)); exact rfl) | simp -implicitDefEqProofs only [push_cast, seval, *, mk67] | simp only [bindO_assoc])
theorem ev14 {E : Env} {N : Nat} (hB : NB N) (hty : E.ty = tys) (heq : E.eqt = eqts) (h0 : E.n0 = 0) (hal : E.ali = noAli) (g14_19 : Tb E 19 (plain (t19 N))) (g14_20 : Tb E 20 (plain (t20 N))) (g14_21 : Tb E 21 (plain (t21))) (g14_22 : Tb E 22 (plain (t22 N))) (n : Node) (sortq : Int) :
   bindO (aPure E Proofs.Try.f14 H14 N [.agg (Node.cells n), .int .i64 sortq]) (cv sh14) = bindO (F14 N n sortq) fun r => some (v14 r) := by
 unfold F14
 rw [r_pure]
 repeat' (first | (with_reducible (first | apply ier | apply ie | apply ienr | apply ien | apply be | apply ber | apply oer | apply oe)) <;> try intro _ | ((with_reducible (first | refine alr ?_ fun _ _ _ _ => ?_ | refine al ?_ fun _ _ _ _ => ?_)); exact rfl) | simp -implicitDefEqProofs only [push_cast, seval, *] | simp only [bindO_assoc])
end Go.Abs.Try
