import Derived.Test.YtecjmbaepioobaaGreatED
set_option linter.unusedSimpArgs false
set_option linter.unusedVariables false
namespace Go.Abs.Try
open Go.RowKit
set_option maxRecDepth 100000
set_option maxHeartbeats 40000000
attribute [local push_cast] F117_f1 F117_s1 F154_f1 F154_s1 F16_f1 F16_s1 F36_s1 F37_f1 F37_s1 F38_f1 F38_s1 F40_f1 F40_s1 F71_f1 F71_s1 Proofs.Tryz.f12 Proofs.Tryz.f127 Proofs.Tryz.f128 Proofs.Tryz.f26 Proofs.Tryz.f27 Proofs.Tryz.f28 Proofs.Tryz.f29 Proofs.Tryz.f58 Proofs.Tryz.f59 Proofs.Tryz.f60 Proofs.Tryz.f61 Proofs.Tryz.f94 Proofs.Tryz.f95 Proofs.Tryz.f96 Proofs.Tryz.f97 ty2 ty22 ty24 ty3 ty4 ty63 ty79 ty9
theorem ev58 {E : Env} {N : Nat} (hB : NB N) (hty : E.ty = tys) (heq : E.eqt = eqts) (h0 : E.n0 = 0) (hal : E.ali = noAli) (g58_46 : Tb E 46 (plain (t46))) (q58_73 : ∀ cs, E.seq (.fn 73 cs) = sq73 cs) (n : Node) :
   bindO (aPure E Proofs.Tryz.f58 H58 N [.agg (Node.cells n)]) (cv sh58) = bindO (F37 n) fun r => some (v58 r) := by
 unfold F37
 rw [r_pure]
 repeat' (first | (with_reducible (first | apply ier | apply ie | apply ienr | apply ien | apply be | apply ber | apply oer | apply oe)) <;> try intro _ | ((with_reducible (first | refine alr ?_ fun _ _ _ _ => ?_ | refine al ?_ fun _ _ _ _ => ?_)); exact rfl) | simp -implicitDefEqProofs only [push_cast, seval, *] | simp only [bindO_assoc])
 rename_i l1; refine rl (S := Int) e73 (fun (s3 : Int) => [.var [.int .i64 n.op, .int .i64 n.sortf, .str n.name, .int .i64 n.num, .sl false 5 (List.map Node.cells n.kids)], .var [.int .i64 s3]]) l1 0 (fun _ _ => ?_) (fun _ => ?_) <;> repeat' (first | (with_reducible (first | apply ier | apply ie | apply ienr | apply ien | apply be | apply ber | apply oer | apply oe)) <;> try intro _ | ((with_reducible (first | refine alr ?_ fun _ _ _ _ => ?_ | refine al ?_ fun _ _ _ _ => ?_)); exact rfl) | simp -implicitDefEqProofs only [push_cast, seval, *] | simp only [bindO_assoc])
theorem ev59 {E : Env} {N : Nat} (hB : NB N) (self59 : Node → Option (Int)) (hty : E.ty = tys) (heq : E.eqt = eqts) (h0 : E.n0 = 0) (hal : E.ali = noAli) (g59_59 : Tb E 59 (plain (ts59 self59))) (n : Node) :
   bindO (aPure E Proofs.Tryz.f59 H59 N [.agg (Node.cells n)]) (cv sh59) = bindO (F38b self59 N n) fun r => some (v59 r) := by
 unfold F38b
 rw [r_pure]
 repeat' (first | (with_reducible (first | apply ier | apply ie | apply ienr | apply ien | apply be | apply ber | apply oer | apply oe)) <;> try intro _ | ((with_reducible (first | refine alr ?_ fun _ _ _ _ => ?_ | refine al ?_ fun _ _ _ _ => ?_)); exact rfl) | simp -implicitDefEqProofs only [push_cast, seval, *] | simp only [bindO_assoc])
 refine fl (S := Int) Node.cells n.kids (fun (i1 : Nat) (s3 : Int) => [Z, Z, Z, .int .i64 s3, Z, Z, Z, .sl false 5 (List.map Node.cells n.kids), .int .i64 (n.kids.length : Int), .int .i64 (i1 : Int), Z, Z, Z, Z, Z, Z, Z, Z, Z, Z]) (fun (_ : Nat) (s3 : Int) => [.var [.int .i64 n.op, .int .i64 n.sortf, .str n.name, .int .i64 n.num, .sl false 5 (List.map Node.cells n.kids)]]) hB 0 (fun _ _ _ _ _ _ _ _ => ?_) fun _ _ => ?_ <;> repeat' (first | (with_reducible (first | apply ier | apply ie | apply ienr | apply ien | apply be | apply ber | apply oer | apply oe)) <;> try intro _ | ((with_reducible (first | refine alr ?_ fun _ _ _ _ => ?_ | refine al ?_ fun _ _ _ _ => ?_)); exact rfl) | simp -implicitDefEqProofs only [push_cast, seval, *] | simp only [bindO_assoc])
theorem ev26 {E : Env} {N : Nat} (hB : NB N) (hty : E.ty = tys) (heq : E.eqt = eqts) (h0 : E.n0 = 0) (hal : E.ali = noAli) (g26_58 : Tb E 58 (plain (t58))) (g26_59 : Tb E 59 (plain (t59 N))) (n : Node) :
   bindO (aPure E Proofs.Tryz.f26 H26 N [.agg (Node.cells n)]) (cv sh26) = bindO (F70 N n) fun r => some (v26 r) := by
 unfold F70
 rw [r_pure]
 repeat' (first | (with_reducible (first | apply ier | apply ie | apply ienr | apply ien | apply be | apply ber | apply oer | apply oe)) <;> try intro _ | ((with_reducible (first | refine alr ?_ fun _ _ _ _ => ?_ | refine al ?_ fun _ _ _ _ => ?_)); exact rfl) | simp -implicitDefEqProofs only [push_cast, seval, *] | simp only [bindO_assoc])
theorem ev127 {E : Env} {N : Nat} (hB : NB N) (hty : E.ty = tys) (heq : E.eqt = eqts) (h0 : E.n0 = 0) (hal : E.ali = noAli)  (c : Int) :
   bindO (aPure E Proofs.Tryz.f127 H127 N [.int .u8 c]) (cv sh127) = bindO (F73 c) fun r => some (v127 r) := by
 unfold F73
 rw [r_pure]
 repeat' (first | (with_reducible (first | apply ier | apply ie | apply ienr | apply ien | apply be | apply ber | apply oer | apply oe)) <;> try intro _ | ((with_reducible (first | refine alr ?_ fun _ _ _ _ => ?_ | refine al ?_ fun _ _ _ _ => ?_)); exact rfl) | simp -implicitDefEqProofs only [push_cast, seval, *] | simp only [bindO_assoc])
theorem ev128 {E : Env} {N : Nat} (hB : NB N) (hty : E.ty = tys) (heq : E.eqt = eqts) (h0 : E.n0 = 0) (hal : E.ali = noAli)  (s : ByteArray) :
   bindO (aPure E Proofs.Tryz.f128 H128 N [.str s]) (cv sh128) = bindO (F74 s) fun r => some (v128 r) := by
 unfold F74
 rw [r_pure]
 repeat' (first | (with_reducible (first | apply ier | apply ie | apply ienr | apply ien | apply be | apply ber | apply oer | apply oe)) <;> try intro _ | ((with_reducible (first | refine alr ?_ fun _ _ _ _ => ?_ | refine al ?_ fun _ _ _ _ => ?_)); exact rfl) | simp -implicitDefEqProofs only [push_cast, seval, *] | simp only [bindO_assoc])
theorem ev94 {E : Env} {N : Nat} (hB : NB N) (hty : E.ty = tys) (heq : E.eqt = eqts) (h0 : E.n0 = 0) (hal : E.ali = noAli) (g94_127 : Tb E 127 (plain (t127))) (g94_128 : Tb E 128 (plain (t128))) (s : ByteArray) :
   bindO (aPure E Proofs.Tryz.f94 H94 N [.str s]) (cv sh94) = bindO (F16 N s) fun r => some (v94 r) := by
 unfold F16
 rw [r_pure]
 repeat' (first | (with_reducible (first | apply ier | apply ie | apply ienr | apply ien | apply be | apply ber | apply oer | apply oe)) <;> try intro _ | ((with_reducible (first | refine alr ?_ fun _ _ _ _ => ?_ | refine al ?_ fun _ _ _ _ => ?_)); exact rfl) | simp -implicitDefEqProofs only [push_cast, seval, *] | simp only [bindO_assoc])
 refine fs (S := Unit) s.size (fun (i3 : Nat) (s5 : Unit) => [.str s, Z, Z, Z, Z, Z, Z, Z, Z, Z, Z, Z, Z, Z, Z, Z, Z, Z, Z, Z, Z, Z, Z, Z, .int .i64 (s.size : Int), .int .i64 (i3 : Int), Z, Z, Z, Z, Z, Z, Z, Z, Z, Z, Z, Z, Z, Z, Z, Z, Z, Z, Z, Z, Z]) (fun (_ : Nat) (s5 : Unit) => []) hB () (fun _ _ _ _ _ _ => ?_) fun _ _ => ?_ <;> repeat' (first | (with_reducible (first | apply ier | apply ie | apply ienr | apply ien | apply be | apply ber | apply oer | apply oe)) <;> try intro _ | ((with_reducible (first | refine alr ?_ fun _ _ _ _ => ?_ | refine al ?_ fun _ _ _ _ => ?_)); exact rfl) | simp -implicitDefEqProofs only [push_cast, seval, *] | simp only [bindO_assoc])
theorem ev60 {E : Env} {N : Nat} (hB : NB N) (hty : E.ty = tys) (heq : E.eqt = eqts) (h0 : E.n0 = 0) (hal : E.ali = noAli) (g60_94 : Tb E 94 (plain (t94 N))) (n : Node) :
   bindO (aPure E Proofs.Tryz.f60 H60 N [.agg (Node.cells n)]) (cv sh60) = bindO (F116 N n) fun r => some (v60 r) := by
 unfold F116
 rw [r_pure]
 repeat' (first | (with_reducible (first | apply ier | apply ie | apply ienr | apply ien | apply be | apply ber | apply oer | apply oe)) <;> try intro _ | ((with_reducible (first | refine alr ?_ fun _ _ _ _ => ?_ | refine al ?_ fun _ _ _ _ => ?_)); exact rfl) | simp -implicitDefEqProofs only [push_cast, seval, *] | simp only [bindO_assoc])
theorem ev29 {E : Env} {N : Nat} (hB : NB N) (hty : E.ty = tys) (heq : E.eqt = eqts) (h0 : E.n0 = 0) (hal : E.ali = noAli)  (n : Node) :
   bindO (aPure E Proofs.Tryz.f29 H29 N [.agg (Node.cells n)]) (cv sh29) = bindO (F36 N n) fun r => some (v29 r) := by
 unfold F36
 rw [r_pure]
 repeat' (first | (with_reducible (first | apply ier | apply ie | apply ienr | apply ien | apply be | apply ber | apply oer | apply oe)) <;> try intro _ | ((with_reducible (first | refine alr ?_ fun _ _ _ _ => ?_ | refine al ?_ fun _ _ _ _ => ?_)); exact rfl) | simp -implicitDefEqProofs only [push_cast, seval, *] | simp only [bindO_assoc])
 refine wl (S := Int × Int × ByteArray × Int × (List Node)) (fun (s1 : Int × Int × ByteArray × Int × (List Node)) => [Z, .ptr 0 0, Z, Z, Z, Z, Z, Z, Z, Z, Z, Z, Z, Z, Z, Z, Z, Z, Z, Z, Z, Z, Z, Z, Z, Z, Z, Z, Z, Z, Z, Z, Z, Z, Z, Z, Z, Z, Z, Z, Z, Z, Z, Z, Z]) (fun (s1 : Int × Int × ByteArray × Int × (List Node)) => [.var [.int .i64 s1.1, .int .i64 s1.2.1, .str s1.2.2.1, .int .i64 s1.2.2.2.1, .sl false 5 (List.map Node.cells s1.2.2.2.2)]]) (n.op, n.sortf, n.name, n.num, n.kids) (fun _ => ?_) <;> repeat' (first | (with_reducible (first | apply ier | apply ie | apply ienr | apply ien | apply be | apply ber | apply oer | apply oe)) <;> try intro _ | ((with_reducible (first | refine alr ?_ fun _ _ _ _ => ?_ | refine al ?_ fun _ _ _ _ => ?_)); exact rfl) | simp -implicitDefEqProofs only [push_cast, seval, *] | simp only [bindO_assoc])
theorem ev95 {E : Env} {N : Nat} (hB : NB N) (hty : E.ty = tys) (heq : E.eqt = eqts) (h0 : E.n0 = 0) (hal : E.ali = noAli)  (op : Int) :
   bindO (aPure E Proofs.Tryz.f95 H95 N [.int .i64 op]) (cv sh95) = bindO (F153 op) fun r => some (v95 r) := by
 unfold F153
 rw [r_pure]
 repeat' (first | (with_reducible (first | apply ier | apply ie | apply ienr | apply ien | apply be | apply ber | apply oer | apply oe)) <;> try intro _ | ((with_reducible (first | refine alr ?_ fun _ _ _ _ => ?_ | refine al ?_ fun _ _ _ _ => ?_)); exact rfl) | simp -implicitDefEqProofs only [push_cast, seval, *] | simp only [bindO_assoc])
theorem ev96 {E : Env} {N : Nat} (hB : NB N) (hty : E.ty = tys) (heq : E.eqt = eqts) (h0 : E.n0 = 0) (hal : E.ali = noAli)  (s1q : List Int) (s2q : List Int) :
   bindO (aPure E Proofs.Tryz.f96 H96 N [.sl false 1 (List.map (cI .i64) s1q), .sl false 1 (List.map (cI .i64) s2q)]) (cv sh96) = bindO (F154 N s1q s2q) fun r => some (v96 r) := by
 unfold F154
 rw [r_pure]
 repeat' (first | (with_reducible (first | apply ier | apply ie | apply ienr | apply ien | apply be | apply ber | apply oer | apply oe)) <;> try intro _ | ((with_reducible (first | refine alr ?_ fun _ _ _ _ => ?_ | refine al ?_ fun _ _ _ _ => ?_)); exact rfl) | simp -implicitDefEqProofs only [push_cast, seval, *] | simp only [bindO_assoc])
 refine fl (S := Unit) (cI .i64) s1q (fun (i1 : Nat) (s3 : Unit) => [.sl false 1 (List.map (cI .i64) s1q), .sl false 1 (List.map (cI .i64) s2q), Z, Z, Z, Z, Z, Z, Z, Z, Z, Z, .int .i64 (s1q.length : Int), .int .i64 (i1 : Int), Z, Z, Z, Z, Z, Z, Z, Z, Z, Z, Z, Z]) (fun (_ : Nat) (s3 : Unit) => []) hB () (fun _ _ _ _ _ _ _ _ => ?_) fun _ _ => ?_ <;> repeat' (first | (with_reducible (first | apply ier | apply ie | apply ienr | apply ien | apply be | apply ber | apply oer | apply oe)) <;> try intro _ | ((with_reducible (first | refine alr ?_ fun _ _ _ _ => ?_ | refine al ?_ fun _ _ _ _ => ?_)); exact rfl) | simp -implicitDefEqProofs only [push_cast, seval, *] | simp only [bindO_assoc])
theorem ev61 {E : Env} {E97 : Nat → Env} {N : Nat} (hB : NB N) (hty : E.ty = tys) (heq : E.eqt = eqts) (h0 : E.n0 = 0) (hal : E.ali = noAli) (g61_29 : Tb E 29 (plain (t29 N))) (g61_95 : Tb E 95 (plain (t95))) (g61_96 : Tb E 96 (lent (t96 N))) (g61_97 : Tb E 97 (inl E97 Proofs.Tryz.f97 H97 N)) (hty97 : ∀ n, (E97 n).ty = tys) (heq97 : ∀ n, (E97 n).eqt = eqts) (h097 : ∀ n, (E97 n).n0 = n) (hal97 : ∀ n, (E97 n).ali = noAli) (n : Node) :
   bindO (aPure E Proofs.Tryz.f61 H61 N [.agg (Node.cells n)]) (cv sh61) = bindO (F117 N n) fun r => some (v61 r) := by
 unfold F117
 rw [r_pure]
 repeat' (first | (with_reducible (first | apply ier | apply ie | apply ienr | apply ien | apply be | apply ber | apply oer | apply oe)) <;> try intro _ | ((with_reducible (first | refine alr ?_ fun _ _ _ _ => ?_ | refine al ?_ fun _ _ _ _ => ?_)); exact rfl) | simp -implicitDefEqProofs only [push_cast, seval, *] | simp only [bindO_assoc] | ((first | refine arr (c := (cI .i64)) fun _ _ _ _ => ?_ | refine ar (c := (cI .i64)) fun _ _ _ _ => ?_); try simp only [Int.reduceToNat, Int.toNat_natCast] at *))
 refine fl (S := List Int) Node.cells n.kids (fun (i1 : Nat) (s3 : List Int) => [Z, .ptr 0 0, Z, .ptr 2 0, Z, Z, Z, Z, Z, Z, Z, Z, Z, Z, .sl false 5 (List.map Node.cells n.kids), .int .i64 (n.kids.length : Int), .int .i64 (i1 : Int), Z, Z, Z, Z, Z, Z, Z, Z, Z, Z, Z, Z, Z, Z, Z, Z, Z, Z, Z, Z, Z, Z, Z, Z, Z, Z, Z, Z, Z, Z, Z, Z, Z, Z, Z, Z, Z, Z, Z, Z, Z, Z, Z, Z, Z, Z, Z, Z, Z, Z, Z, Z, Z, Z, Z, Z, Z]) (fun (_ : Nat) (s3 : List Int) => [.var [.int .i64 n.op, .int .i64 n.sortf, .str n.name, .int .i64 n.num, .sl false 5 (List.map Node.cells n.kids)], .row 1 0 (List.map (cI .i64) s3), .var [.rs 1 0]]) hB (List.replicate n.kids.length 0) (fun _ _ _ _ _ _ _ _ => ?_) fun _ _ => ?_ <;> repeat' (first | (with_reducible (first | apply ier | apply ie | apply ienr | apply ien | apply be | apply ber | apply oer | apply oe)) <;> try intro _ | ((with_reducible (first | refine alr ?_ fun _ _ _ _ => ?_ | refine al ?_ fun _ _ _ _ => ?_)); exact rfl) | simp -implicitDefEqProofs only [push_cast, seval, *] | simp only [bindO_assoc] | ((first | refine arr (c := (cI .i64)) fun _ _ _ _ => ?_ | refine ar (c := (cI .i64)) fun _ _ _ _ => ?_); try simp only [Int.reduceToNat, Int.toNat_natCast] at *))
theorem ev27 {E : Env} {N : Nat} (hB : NB N) (hty : E.ty = tys) (heq : E.eqt = eqts) (h0 : E.n0 = 0) (hal : E.ali = noAli) (g27_46 : Tb E 46 (plain (t46))) (g27_60 : Tb E 60 (plain (t60 N))) (g27_61 : Tb E 61 (plain (t61 N))) (q27_73 : ∀ cs, E.seq (.fn 73 cs) = sq73 cs) (n : Node) :
   bindO (aPure E Proofs.Tryz.f27 H27 N [.agg (Node.cells n)]) (cv sh27) = bindO (F71 N n) fun r => some (v27 r) := by
 unfold F71
 rw [r_pure]
 repeat' (first | (with_reducible (first | apply ier | apply ie | apply ienr | apply ien | apply be | apply ber | apply oer | apply oe)) <;> try intro _ | ((with_reducible (first | refine alr ?_ fun _ _ _ _ => ?_ | refine al ?_ fun _ _ _ _ => ?_)); exact rfl) | simp -implicitDefEqProofs only [push_cast, seval, *] | simp only [bindO_assoc])
 rename_i l1; refine rl (S := Unit) e73 (fun (s3 : Unit) => [.var [.int .i64 n.op, .int .i64 n.sortf, .str n.name, .int .i64 n.num, .sl false 5 (List.map Node.cells n.kids)], .var [.bool false]]) l1 () (fun _ _ => ?_) (fun _ => ?_) <;> repeat' (first | (with_reducible (first | apply ier | apply ie | apply ienr | apply ien | apply be | apply ber | apply oer | apply oe)) <;> try intro _ | ((with_reducible (first | refine alr ?_ fun _ _ _ _ => ?_ | refine al ?_ fun _ _ _ _ => ?_)); exact rfl) | simp -implicitDefEqProofs only [push_cast, seval, *] | simp only [bindO_assoc])
theorem ev28 {E : Env} {N : Nat} (hB : NB N) (hty : E.ty = tys) (heq : E.eqt = eqts) (h0 : E.n0 = 0) (hal : E.ali = noAli) (g28_46 : Tb E 46 (plain (t46))) (q28_73 : ∀ cs, E.seq (.fn 73 cs) = sq73 cs) (n : Node) :
   bindO (aPure E Proofs.Tryz.f28 H28 N [.agg (Node.cells n)]) (cv sh28) = bindO (F40 n) fun r => some (v28 r) := by
 unfold F40
 rw [r_pure]
 repeat' (first | (with_reducible (first | apply ier | apply ie | apply ienr | apply ien | apply be | apply ber | apply oer | apply oe)) <;> try intro _ | ((with_reducible (first | refine alr ?_ fun _ _ _ _ => ?_ | refine al ?_ fun _ _ _ _ => ?_)); exact rfl) | simp -implicitDefEqProofs only [push_cast, seval, *, mk79] | simp only [bindO_assoc])
 rename_i l1; refine rl (S := ByteArray → Option Int) e73 (fun (s3 : ByteArray → Option Int) => [.var [.int .i64 n.op, .int .i64 n.sortf, .str n.name, .int .i64 n.num, .sl false 5 (List.map Node.cells n.kids)], .var [.bool false], .map .string (mS (evI .i64) s3), .var [.map 2]]) l1 (fun _ => none) (fun _ _ => ?_) (fun _ => ?_) <;> repeat' (first | (with_reducible (first | apply ier | apply ie | apply ienr | apply ien | apply be | apply ber | apply oer | apply oe)) <;> try intro _ | ((with_reducible (first | refine alr ?_ fun _ _ _ _ => ?_ | refine al ?_ fun _ _ _ _ => ?_)); exact rfl) | simp -implicitDefEqProofs only [push_cast, seval, *, mk79] | simp only [bindO_assoc])
theorem ev12 {E : Env} {N : Nat} (hB : NB N) (hty : E.ty = tys) (heq : E.eqt = eqts) (h0 : E.n0 = 0) (hal : E.ali = noAli) (g12_26 : Tb E 26 (plain (t26 N))) (g12_27 : Tb E 27 (plain (t27 N))) (g12_28 : Tb E 28 (plain (t28))) (g12_29 : Tb E 29 (plain (t29 N))) (n : Node) (sortq : Int) :
   bindO (aPure E Proofs.Tryz.f12 H12 N [.agg (Node.cells n), .int .i64 sortq]) (cv sh12) = bindO (F14 N n sortq) fun r => some (v12 r) := by
 unfold F14
 rw [r_pure]
 repeat' (first | (with_reducible (first | apply ier | apply ie | apply ienr | apply ien | apply be | apply ber | apply oer | apply oe)) <;> try intro _ | ((with_reducible (first | refine alr ?_ fun _ _ _ _ => ?_ | refine al ?_ fun _ _ _ _ => ?_)); exact rfl) | simp -implicitDefEqProofs only [push_cast, seval, *] | simp only [bindO_assoc])
end Go.Abs.Try
