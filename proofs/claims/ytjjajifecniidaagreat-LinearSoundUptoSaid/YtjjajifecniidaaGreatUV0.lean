import Derived.Test.YtjjajifecniidaaGreatUD
set_option linter.unusedSimpArgs false
set_option linter.unusedVariables false
namespace Go.Abs.Try
open Go.RowKit
set_option maxRecDepth 100000
set_option maxHeartbeats 4000000
attribute [local push_cast] F117_f1 F117_s1 F154_f1 F154_s1 F16_f1 F16_s1 F36_s1 F37_f1 F37_s1 F38_f1 F38_s1 F40_f1 F40_s1 F71_f1 F71_s1 Proofs.Tryz.f125 Proofs.Tryz.f126 Proofs.Tryz.f127 Proofs.Tryz.f128 Proofs.Tryz.f143 Proofs.Tryz.f144 Proofs.Tryz.f19 Proofs.Tryz.f35 Proofs.Tryz.f56 Proofs.Tryz.f57 Proofs.Tryz.f58 Proofs.Tryz.f89 Proofs.Tryz.f90 Proofs.Tryz.f92 Proofs.Tryz.f93 ty127 ty143 ty2 ty3 ty4 ty50 ty52 ty9
theorem ev19 {E : Env} {N : Nat} (hB : NB N) (hty : E.ty = tys) (heq : E.eqt = eqts) (h0 : E.n0 = 0) (hal : E.ali = noAli)  (op : Int) (a : Node) (b : Node) :
   bindO (aPure E Proofs.Tryz.f19 H19 N [.int .i64 op, .agg (Node.cells a), .agg (Node.cells b)]) (cv sh19) = bindO (F84 op a b) fun r => some (v19 r) := by
 unfold F84
 rw [r_pure]
 repeat' (first | (with_reducible (first | apply ier | apply ie | apply ienr | apply ien | apply be | apply ber | apply oer | apply oe)) <;> try intro _ | ((with_reducible (first | refine alr ?_ fun _ _ _ _ => ?_ | refine al ?_ fun _ _ _ _ => ?_)); exact rfl) | simp -implicitDefEqProofs only [push_cast, seval, *] | simp only [bindO_assoc])
theorem ev89 {E : Env} {N : Nat} (hB : NB N) (hty : E.ty = tys) (heq : E.eqt = eqts) (h0 : E.n0 = 0) (hal : E.ali = noAli) (g89_91 : Tb E 91 (plain (t91))) (q89_123 : ∀ cs, E.seq (.fn 123 cs) = sq123 cs) (n : Node) :
   bindO (aPure E Proofs.Tryz.f89 H89 N [.agg (Node.cells n)]) (cv sh89) = bindO (F37 n) fun r => some (v89 r) := by
 unfold F37
 rw [r_pure]
 repeat' (first | (with_reducible (first | apply ier | apply ie | apply ienr | apply ien | apply be | apply ber | apply oer | apply oe)) <;> try intro _ | ((with_reducible (first | refine alr ?_ fun _ _ _ _ => ?_ | refine al ?_ fun _ _ _ _ => ?_)); exact rfl) | simp -implicitDefEqProofs only [push_cast, seval, *] | simp only [bindO_assoc])
 rename_i l1; refine rl (S := Int) e123 (fun (s3 : Int) => [.var [.int .i64 n.op, .int .i64 n.sortf, .str n.name, .int .i64 n.num, .sl false 5 (List.map Node.cells n.kids)], .var [.int .i64 s3]]) l1 0 (fun _ _ => ?_) (fun _ => ?_) <;> repeat' (first | (with_reducible (first | apply ier | apply ie | apply ienr | apply ien | apply be | apply ber | apply oer | apply oe)) <;> try intro _ | ((with_reducible (first | refine alr ?_ fun _ _ _ _ => ?_ | refine al ?_ fun _ _ _ _ => ?_)); exact rfl) | simp -implicitDefEqProofs only [push_cast, seval, *] | simp only [bindO_assoc])
theorem ev90 {E : Env} {N : Nat} (hB : NB N) (self90 : Node → Option (Int)) (hty : E.ty = tys) (heq : E.eqt = eqts) (h0 : E.n0 = 0) (hal : E.ali = noAli) (g90_90 : Tb E 90 (plain (ts90 self90))) (n : Node) :
   bindO (aPure E Proofs.Tryz.f90 H90 N [.agg (Node.cells n)]) (cv sh90) = bindO (F38b self90 N n) fun r => some (v90 r) := by
 unfold F38b
 rw [r_pure]
 repeat' (first | (with_reducible (first | apply ier | apply ie | apply ienr | apply ien | apply be | apply ber | apply oer | apply oe)) <;> try intro _ | ((with_reducible (first | refine alr ?_ fun _ _ _ _ => ?_ | refine al ?_ fun _ _ _ _ => ?_)); exact rfl) | simp -implicitDefEqProofs only [push_cast, seval, *] | simp only [bindO_assoc])
 refine fl (S := Int) Node.cells n.kids (fun (i1 : Nat) (s3 : Int) => [Z, Z, Z, .int .i64 s3, Z, Z, Z, .sl false 5 (List.map Node.cells n.kids), .int .i64 (n.kids.length : Int), .int .i64 (i1 : Int), Z, Z, Z, Z, Z, Z, Z, Z, Z, Z]) (fun (_ : Nat) (s3 : Int) => [.var [.int .i64 n.op, .int .i64 n.sortf, .str n.name, .int .i64 n.num, .sl false 5 (List.map Node.cells n.kids)]]) hB 0 (fun _ _ _ _ _ _ _ _ => ?_) fun _ _ => ?_ <;> repeat' (first | (with_reducible (first | apply ier | apply ie | apply ienr | apply ien | apply be | apply ber | apply oer | apply oe)) <;> try intro _ | ((with_reducible (first | refine alr ?_ fun _ _ _ _ => ?_ | refine al ?_ fun _ _ _ _ => ?_)); exact rfl) | simp -implicitDefEqProofs only [push_cast, seval, *] | simp only [bindO_assoc])
theorem ev56 {E : Env} {N : Nat} (hB : NB N) (hty : E.ty = tys) (heq : E.eqt = eqts) (h0 : E.n0 = 0) (hal : E.ali = noAli) (g56_89 : Tb E 89 (plain (t89))) (g56_90 : Tb E 90 (plain (t90 N))) (n : Node) :
   bindO (aPure E Proofs.Tryz.f56 H56 N [.agg (Node.cells n)]) (cv sh56) = bindO (F70 N n) fun r => some (v56 r) := by
 unfold F70
 rw [r_pure]
 repeat' (first | (with_reducible (first | apply ier | apply ie | apply ienr | apply ien | apply be | apply ber | apply oer | apply oe)) <;> try intro _ | ((with_reducible (first | refine alr ?_ fun _ _ _ _ => ?_ | refine al ?_ fun _ _ _ _ => ?_)); exact rfl) | simp -implicitDefEqProofs only [push_cast, seval, *] | simp only [bindO_assoc])
theorem ev143 {E : Env} {N : Nat} (hB : NB N) (hty : E.ty = tys) (heq : E.eqt = eqts) (h0 : E.n0 = 0) (hal : E.ali = noAli)  (c : Int) :
   bindO (aPure E Proofs.Tryz.f143 H143 N [.int .u8 c]) (cv sh143) = bindO (F73 c) fun r => some (v143 r) := by
 unfold F73
 rw [r_pure]
 repeat' (first | (with_reducible (first | apply ier | apply ie | apply ienr | apply ien | apply be | apply ber | apply oer | apply oe)) <;> try intro _ | ((with_reducible (first | refine alr ?_ fun _ _ _ _ => ?_ | refine al ?_ fun _ _ _ _ => ?_)); exact rfl) | simp -implicitDefEqProofs only [push_cast, seval, *] | simp only [bindO_assoc])
theorem ev144 {E : Env} {N : Nat} (hB : NB N) (hty : E.ty = tys) (heq : E.eqt = eqts) (h0 : E.n0 = 0) (hal : E.ali = noAli)  (s : ByteArray) :
   bindO (aPure E Proofs.Tryz.f144 H144 N [.str s]) (cv sh144) = bindO (F74 s) fun r => some (v144 r) := by
 unfold F74
 rw [r_pure]
 repeat' (first | (with_reducible (first | apply ier | apply ie | apply ienr | apply ien | apply be | apply ber | apply oer | apply oe)) <;> try intro _ | ((with_reducible (first | refine alr ?_ fun _ _ _ _ => ?_ | refine al ?_ fun _ _ _ _ => ?_)); exact rfl) | simp -implicitDefEqProofs only [push_cast, seval, *] | simp only [bindO_assoc])
theorem ev125 {E : Env} {N : Nat} (hB : NB N) (hty : E.ty = tys) (heq : E.eqt = eqts) (h0 : E.n0 = 0) (hal : E.ali = noAli) (g125_143 : Tb E 143 (plain (t143))) (g125_144 : Tb E 144 (plain (t144))) (s : ByteArray) :
   bindO (aPure E Proofs.Tryz.f125 H125 N [.str s]) (cv sh125) = bindO (F16 N s) fun r => some (v125 r) := by
 unfold F16
 rw [r_pure]
 repeat' (first | (with_reducible (first | apply ier | apply ie | apply ienr | apply ien | apply be | apply ber | apply oer | apply oe)) <;> try intro _ | ((with_reducible (first | refine alr ?_ fun _ _ _ _ => ?_ | refine al ?_ fun _ _ _ _ => ?_)); exact rfl) | simp -implicitDefEqProofs only [push_cast, seval, *] | simp only [bindO_assoc])
 refine fs (S := Unit) s.size (fun (i3 : Nat) (s5 : Unit) => [.str s, Z, Z, Z, Z, Z, Z, Z, Z, Z, Z, Z, Z, Z, Z, Z, Z, Z, Z, Z, Z, Z, Z, Z, .int .i64 (s.size : Int), .int .i64 (i3 : Int), Z, Z, Z, Z, Z, Z, Z, Z, Z, Z, Z, Z, Z, Z, Z, Z, Z, Z, Z, Z, Z]) (fun (_ : Nat) (s5 : Unit) => []) hB () (fun _ _ _ _ _ _ => ?_) fun _ _ => ?_ <;> repeat' (first | (with_reducible (first | apply ier | apply ie | apply ienr | apply ien | apply be | apply ber | apply oer | apply oe)) <;> try intro _ | ((with_reducible (first | refine alr ?_ fun _ _ _ _ => ?_ | refine al ?_ fun _ _ _ _ => ?_)); exact rfl) | simp -implicitDefEqProofs only [push_cast, seval, *] | simp only [bindO_assoc])
theorem ev92 {E : Env} {N : Nat} (hB : NB N) (hty : E.ty = tys) (heq : E.eqt = eqts) (h0 : E.n0 = 0) (hal : E.ali = noAli) (g92_125 : Tb E 125 (plain (t125 N))) (n : Node) :
   bindO (aPure E Proofs.Tryz.f92 H92 N [.agg (Node.cells n)]) (cv sh92) = bindO (F116 N n) fun r => some (v92 r) := by
 unfold F116
 rw [r_pure]
 repeat' (first | (with_reducible (first | apply ier | apply ie | apply ienr | apply ien | apply be | apply ber | apply oer | apply oe)) <;> try intro _ | ((with_reducible (first | refine alr ?_ fun _ _ _ _ => ?_ | refine al ?_ fun _ _ _ _ => ?_)); exact rfl) | simp -implicitDefEqProofs only [push_cast, seval, *] | simp only [bindO_assoc])
theorem ev35 {E : Env} {N : Nat} (hB : NB N) (hty : E.ty = tys) (heq : E.eqt = eqts) (h0 : E.n0 = 0) (hal : E.ali = noAli)  (n : Node) :
   bindO (aPure E Proofs.Tryz.f35 H35 N [.agg (Node.cells n)]) (cv sh35) = bindO (F36 N n) fun r => some (v35 r) := by
 unfold F36
 rw [r_pure]
 repeat' (first | (with_reducible (first | apply ier | apply ie | apply ienr | apply ien | apply be | apply ber | apply oer | apply oe)) <;> try intro _ | ((with_reducible (first | refine alr ?_ fun _ _ _ _ => ?_ | refine al ?_ fun _ _ _ _ => ?_)); exact rfl) | simp -implicitDefEqProofs only [push_cast, seval, *] | simp only [bindO_assoc])
 refine wl (S := Int × Int × ByteArray × Int × (List Node)) (fun (s1 : Int × Int × ByteArray × Int × (List Node)) => [Z, .ptr 0 0, Z, Z, Z, Z, Z, Z, Z, Z, Z, Z, Z, Z, Z, Z, Z, Z, Z, Z, Z, Z, Z, Z, Z, Z, Z, Z, Z, Z, Z, Z, Z, Z, Z, Z, Z, Z, Z, Z, Z, Z, Z, Z, Z]) (fun (s1 : Int × Int × ByteArray × Int × (List Node)) => [.var [.int .i64 s1.1, .int .i64 s1.2.1, .str s1.2.2.1, .int .i64 s1.2.2.2.1, .sl false 5 (List.map Node.cells s1.2.2.2.2)]]) (n.op, n.sortf, n.name, n.num, n.kids) (fun _ => ?_) <;> repeat' (first | (with_reducible (first | apply ier | apply ie | apply ienr | apply ien | apply be | apply ber | apply oer | apply oe)) <;> try intro _ | ((with_reducible (first | refine alr ?_ fun _ _ _ _ => ?_ | refine al ?_ fun _ _ _ _ => ?_)); exact rfl) | simp -implicitDefEqProofs only [push_cast, seval, *] | simp only [bindO_assoc])
theorem ev126 {E : Env} {N : Nat} (hB : NB N) (hty : E.ty = tys) (heq : E.eqt = eqts) (h0 : E.n0 = 0) (hal : E.ali = noAli)  (op : Int) :
   bindO (aPure E Proofs.Tryz.f126 H126 N [.int .i64 op]) (cv sh126) = bindO (F153 op) fun r => some (v126 r) := by
 unfold F153
 rw [r_pure]
 repeat' (first | (with_reducible (first | apply ier | apply ie | apply ienr | apply ien | apply be | apply ber | apply oer | apply oe)) <;> try intro _ | ((with_reducible (first | refine alr ?_ fun _ _ _ _ => ?_ | refine al ?_ fun _ _ _ _ => ?_)); exact rfl) | simp -implicitDefEqProofs only [push_cast, seval, *] | simp only [bindO_assoc])
theorem ev127 {E : Env} {N : Nat} (hB : NB N) (hty : E.ty = tys) (heq : E.eqt = eqts) (h0 : E.n0 = 0) (hal : E.ali = noAli)  (s1q : List Int) (s2q : List Int) :
   bindO (aPure E Proofs.Tryz.f127 H127 N [.sl false 1 (List.map (cI .i64) s1q), .sl false 1 (List.map (cI .i64) s2q)]) (cv sh127) = bindO (F154 N s1q s2q) fun r => some (v127 r) := by
 unfold F154
 rw [r_pure]
 repeat' (first | (with_reducible (first | apply ier | apply ie | apply ienr | apply ien | apply be | apply ber | apply oer | apply oe)) <;> try intro _ | ((with_reducible (first | refine alr ?_ fun _ _ _ _ => ?_ | refine al ?_ fun _ _ _ _ => ?_)); exact rfl) | simp -implicitDefEqProofs only [push_cast, seval, *] | simp only [bindO_assoc])
 refine fl (S := Unit) (cI .i64) s1q (fun (i1 : Nat) (s3 : Unit) => [.sl false 1 (List.map (cI .i64) s1q), .sl false 1 (List.map (cI .i64) s2q), Z, Z, Z, Z, Z, Z, Z, Z, Z, Z, .int .i64 (s1q.length : Int), .int .i64 (i1 : Int), Z, Z, Z, Z, Z, Z, Z, Z, Z, Z, Z, Z]) (fun (_ : Nat) (s3 : Unit) => []) hB () (fun _ _ _ _ _ _ _ _ => ?_) fun _ _ => ?_ <;> repeat' (first | (with_reducible (first | apply ier | apply ie | apply ienr | apply ien | apply be | apply ber | apply oer | apply oe)) <;> try intro _ | ((with_reducible (first | refine alr ?_ fun _ _ _ _ => ?_ | refine al ?_ fun _ _ _ _ => ?_)); exact rfl) | simp -implicitDefEqProofs only [push_cast, seval, *] | simp only [bindO_assoc])
theorem ev93 {E : Env} {E128 : Nat → Env} {N : Nat} (hB : NB N) (hty : E.ty = tys) (heq : E.eqt = eqts) (h0 : E.n0 = 0) (hal : E.ali = noAli) (g93_35 : Tb E 35 (plain (t35 N))) (g93_126 : Tb E 126 (plain (t126))) (g93_127 : Tb E 127 (lent (t127 N))) (g93_128 : Tb E 128 (inl E128 Proofs.Tryz.f128 H128 N)) (hty128 : ∀ n, (E128 n).ty = tys) (heq128 : ∀ n, (E128 n).eqt = eqts) (h0128 : ∀ n, (E128 n).n0 = n) (hal128 : ∀ n, (E128 n).ali = noAli) (n : Node) :
   bindO (aPure E Proofs.Tryz.f93 H93 N [.agg (Node.cells n)]) (cv sh93) = bindO (F117 N n) fun r => some (v93 r) := by
 unfold F117
 rw [r_pure]
 repeat' (first | (with_reducible (first | apply ier | apply ie | apply ienr | apply ien | apply be | apply ber | apply oer | apply oe)) <;> try intro _ | ((with_reducible (first | refine alr ?_ fun _ _ _ _ => ?_ | refine al ?_ fun _ _ _ _ => ?_)); exact rfl) | simp -implicitDefEqProofs only [push_cast, seval, *] | simp only [bindO_assoc] | ((first | refine arr (c := (cI .i64)) fun _ _ _ _ => ?_ | refine ar (c := (cI .i64)) fun _ _ _ _ => ?_); try simp only [Int.reduceToNat, Int.toNat_natCast] at *))
 refine fl (S := List Int) Node.cells n.kids (fun (i1 : Nat) (s3 : List Int) => [Z, .ptr 0 0, Z, .ptr 2 0, Z, Z, Z, Z, Z, Z, Z, Z, Z, Z, .sl false 5 (List.map Node.cells n.kids), .int .i64 (n.kids.length : Int), .int .i64 (i1 : Int), Z, Z, Z, Z, Z, Z, Z, Z, Z, Z, Z, Z, Z, Z, Z, Z, Z, Z, Z, Z, Z, Z, Z, Z, Z, Z, Z, Z, Z, Z, Z, Z, Z, Z, Z, Z, Z, Z, Z, Z, Z, Z, Z, Z, Z, Z, Z, Z, Z, Z, Z, Z, Z, Z, Z, Z, Z]) (fun (_ : Nat) (s3 : List Int) => [.var [.int .i64 n.op, .int .i64 n.sortf, .str n.name, .int .i64 n.num, .sl false 5 (List.map Node.cells n.kids)], .row 1 0 (List.map (cI .i64) s3), .var [.rs 1 0]]) hB (List.replicate n.kids.length 0) (fun _ _ _ _ _ _ _ _ => ?_) fun _ _ => ?_ <;> repeat' (first | (with_reducible (first | apply ier | apply ie | apply ienr | apply ien | apply be | apply ber | apply oer | apply oe)) <;> try intro _ | ((with_reducible (first | refine alr ?_ fun _ _ _ _ => ?_ | refine al ?_ fun _ _ _ _ => ?_)); exact rfl) | simp -implicitDefEqProofs only [push_cast, seval, *] | simp only [bindO_assoc] | ((first | refine arr (c := (cI .i64)) fun _ _ _ _ => ?_ | refine ar (c := (cI .i64)) fun _ _ _ _ => ?_); try simp only [Int.reduceToNat, Int.toNat_natCast] at *))
theorem ev57 {E : Env} {N : Nat} (hB : NB N) (hty : E.ty = tys) (heq : E.eqt = eqts) (h0 : E.n0 = 0) (hal : E.ali = noAli) (g57_91 : Tb E 91 (plain (t91))) (g57_92 : Tb E 92 (plain (t92 N))) (g57_93 : Tb E 93 (plain (t93 N))) (q57_123 : ∀ cs, E.seq (.fn 123 cs) = sq123 cs) (n : Node) :
   bindO (aPure E Proofs.Tryz.f57 H57 N [.agg (Node.cells n)]) (cv sh57) = bindO (F71 N n) fun r => some (v57 r) := by
 unfold F71
 rw [r_pure]
 repeat' (first | (with_reducible (first | apply ier | apply ie | apply ienr | apply ien | apply be | apply ber | apply oer | apply oe)) <;> try intro _ | ((with_reducible (first | refine alr ?_ fun _ _ _ _ => ?_ | refine al ?_ fun _ _ _ _ => ?_)); exact rfl) | simp -implicitDefEqProofs only [push_cast, seval, *] | simp only [bindO_assoc])
 rename_i l1; refine rl (S := Unit) e123 (fun (s3 : Unit) => [.var [.int .i64 n.op, .int .i64 n.sortf, .str n.name, .int .i64 n.num, .sl false 5 (List.map Node.cells n.kids)], .var [.bool false]]) l1 () (fun _ _ => ?_) (fun _ => ?_) <;> repeat' (first | (with_reducible (first | apply ier | apply ie | apply ienr | apply ien | apply be | apply ber | apply oer | apply oe)) <;> try intro _ | ((with_reducible (first | refine alr ?_ fun _ _ _ _ => ?_ | refine al ?_ fun _ _ _ _ => ?_)); exact rfl) | simp -implicitDefEqProofs only [push_cast, seval, *] | simp only [bindO_assoc])
theorem ev58 {E : Env} {N : Nat} (hB : NB N) (hty : E.ty = tys) (heq : E.eqt = eqts) (h0 : E.n0 = 0) (hal : E.ali = noAli) (g58_91 : Tb E 91 (plain (t91))) (q58_123 : ∀ cs, E.seq (.fn 123 cs) = sq123 cs) (n : Node) :
   bindO (aPure E Proofs.Tryz.f58 H58 N [.agg (Node.cells n)]) (cv sh58) = bindO (F40 n) fun r => some (v58 r) := by
 unfold F40
 rw [r_pure]
 repeat' (first | (with_reducible (first | apply ier | apply ie | apply ienr | apply ien | apply be | apply ber | apply oer | apply oe)) <;> try intro _ | ((with_reducible (first | refine alr ?_ fun _ _ _ _ => ?_ | refine al ?_ fun _ _ _ _ => ?_)); exact rfl) | simp -implicitDefEqProofs only [push_cast, seval, *, mk127] | simp only [bindO_assoc])
 rename_i l1; refine rl (S := ByteArray → Option Int) e123 (fun (s3 : ByteArray → Option Int) => [.var [.int .i64 n.op, .int .i64 n.sortf, .str n.name, .int .i64 n.num, .sl false 5 (List.map Node.cells n.kids)], .var [.bool false], .map .string (mS (evI .i64) s3), .var [.map 2]]) l1 (fun _ => none) (fun _ _ => ?_) (fun _ => ?_) <;> repeat' (first | (with_reducible (first | apply ier | apply ie | apply ienr | apply ien | apply be | apply ber | apply oer | apply oe)) <;> try intro _ | ((with_reducible (first | refine alr ?_ fun _ _ _ _ => ?_ | refine al ?_ fun _ _ _ _ => ?_)); exact rfl) | simp -implicitDefEqProofs only [push_cast, seval, *, mk127] | simp only [bindO_assoc])
end Go.Abs.Try
