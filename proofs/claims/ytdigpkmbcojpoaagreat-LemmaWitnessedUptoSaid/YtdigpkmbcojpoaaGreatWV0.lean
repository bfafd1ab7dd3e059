import Derived.Test.YtdigpkmbcojpoaaGreatWD
set_option linter.unusedSimpArgs false
set_option linter.unusedVariables false
namespace Go.Abs.Try
open Go.RowKit
set_option maxRecDepth 100000
set_option maxHeartbeats 4000000
attribute [local push_cast] F117_f1 F117_s1 F154_f1 F154_s1 F16_f1 F16_s1 F36_s1 F37_f1 F37_s1 F38_f1 F38_s1 F40_f1 F40_s1 F71_f1 F71_s1 Proofs.Tryz.f107 Proofs.Tryz.f108 Proofs.Tryz.f109 Proofs.Tryz.f110 Proofs.Tryz.f145 Proofs.Tryz.f146 Proofs.Tryz.f147 Proofs.Tryz.f148 Proofs.Tryz.f163 Proofs.Tryz.f164 Proofs.Tryz.f18 Proofs.Tryz.f19 Proofs.Tryz.f50 Proofs.Tryz.f51 Proofs.Tryz.f52 Proofs.Tryz.f53 ty2 ty22 ty25 ty3 ty4 ty71 ty9 ty94
theorem ev19 {E : Env} {N : Nat} (hB : NB N) (hty : E.ty = tys) (heq : E.eqt = eqts) (h0 : E.n0 = 0) (hal : E.ali = noAli)  (op : Int) (a : Node) (b : Node) :
   bindO (aPure E Proofs.Tryz.f19 H19 N [.int .i64 op,.agg (Node.cells a),.agg (Node.cells b)]) (cv sh19) = bindO (F84 op a b) fun r => some (v19 r) := by
 unfold F84
 rw [r_pure]
 repeat' (first | (with_reducible (first | apply ier | apply ie | apply ienr | apply ien | apply be | apply ber | apply oer | apply oe)) <;> try intro _ | ((with_reducible (first | refine alr ?_ fun _ _ _ _ => ?_ | refine al ?_ fun _ _ _ _ => ?_)); exact rfl) | simp -implicitDefEqProofs only [push_cast,seval, *] | simp only [bindO_assoc])
theorem ev18 {E : Env} {N : Nat} (hB : NB N) (hty : E.ty = tys) (heq : E.eqt = eqts) (h0 : E.n0 = 0) (hal : E.ali = noAli)  (op : Int) (a : Node) :
   bindO (aPure E Proofs.Tryz.f18 H18 N [.int .i64 op,.agg (Node.cells a)]) (cv sh18) = bindO (F1224 op a) fun r => some (v18 r) := by
 unfold F1224
 rw [r_pure]
 repeat' (first | (with_reducible (first | apply ier | apply ie | apply ienr | apply ien | apply be | apply ber | apply oer | apply oe)) <;> try intro _ | ((with_reducible (first | refine alr ?_ fun _ _ _ _ => ?_ | refine al ?_ fun _ _ _ _ => ?_)); exact rfl) | simp -implicitDefEqProofs only [push_cast,seval, *] | simp only [bindO_assoc])
theorem ev107 {E : Env} {N : Nat} (hB : NB N) (hty : E.ty = tys) (heq : E.eqt = eqts) (h0 : E.n0 = 0) (hal : E.ali = noAli) (g107_54 : Tb E 54 (plain (t54))) (q107_111 : ∀ cs,E.seq (.fn 111 cs) = sq111 cs) (n : Node) :
   bindO (aPure E Proofs.Tryz.f107 H107 N [.agg (Node.cells n)]) (cv sh107) = bindO (F37 n) fun r => some (v107 r) := by
 unfold F37
 rw [r_pure]
 repeat' (first | (with_reducible (first | apply ier | apply ie | apply ienr | apply ien | apply be | apply ber | apply oer | apply oe)) <;> try intro _ | ((with_reducible (first | refine alr ?_ fun _ _ _ _ => ?_ | refine al ?_ fun _ _ _ _ => ?_)); exact rfl) | simp -implicitDefEqProofs only [push_cast,seval, *] | simp only [bindO_assoc])
 rename_i l1; refine rl (S := Int) e111 (fun (s3 : Int) => [.var [.int .i64 n.op,.int .i64 n.sortf,.str n.name,.int .i64 n.num,.sl false 5 (List.map Node.cells n.kids)],.var [.int .i64 s3]]) l1 0 (fun _ _ => ?_) (fun _ => ?_) <;> repeat' (first | (with_reducible (first | apply ier | apply ie | apply ienr | apply ien | apply be | apply ber | apply oer | apply oe)) <;> try intro _ | ((with_reducible (first | refine alr ?_ fun _ _ _ _ => ?_ | refine al ?_ fun _ _ _ _ => ?_)); exact rfl) | simp -implicitDefEqProofs only [push_cast,seval, *] | simp only [bindO_assoc])
theorem ev108 {E : Env} {N : Nat} (hB : NB N) (self108 : Node → Option (Int)) (hty : E.ty = tys) (heq : E.eqt = eqts) (h0 : E.n0 = 0) (hal : E.ali = noAli) (g108_108 : Tb E 108 (plain (ts108 self108))) (n : Node) :
   bindO (aPure E Proofs.Tryz.f108 H108 N [.agg (Node.cells n)]) (cv sh108) = bindO (F38b self108 N n) fun r => some (v108 r) := by
 unfold F38b
 rw [r_pure]
 repeat' (first | (with_reducible (first | apply ier | apply ie | apply ienr | apply ien | apply be | apply ber | apply oer | apply oe)) <;> try intro _ | ((with_reducible (first | refine alr ?_ fun _ _ _ _ => ?_ | refine al ?_ fun _ _ _ _ => ?_)); exact rfl) | simp -implicitDefEqProofs only [push_cast,seval, *] | simp only [bindO_assoc])
 refine fl (S := Int) Node.cells n.kids (fun (i1 : Nat) (s3 : Int) => [Z,Z,Z,.int .i64 s3,Z,Z,Z,.sl false 5 (List.map Node.cells n.kids),.int .i64 (n.kids.length : Int),.int .i64 (i1 : Int),Z,Z,Z,Z,Z,Z,Z,Z,Z,Z]) (fun (_ : Nat) (s3 : Int) => [.var [.int .i64 n.op,.int .i64 n.sortf,.str n.name,.int .i64 n.num,.sl false 5 (List.map Node.cells n.kids)]]) hB 0 (fun _ _ _ _ _ _ _ _ => ?_) fun _ _ => ?_ <;> repeat' (first | (with_reducible (first | apply ier | apply ie | apply ienr | apply ien | apply be | apply ber | apply oer | apply oe)) <;> try intro _ | ((with_reducible (first | refine alr ?_ fun _ _ _ _ => ?_ | refine al ?_ fun _ _ _ _ => ?_)); exact rfl) | simp -implicitDefEqProofs only [push_cast,seval, *] | simp only [bindO_assoc])
theorem ev50 {E : Env} {N : Nat} (hB : NB N) (hty : E.ty = tys) (heq : E.eqt = eqts) (h0 : E.n0 = 0) (hal : E.ali = noAli) (g50_107 : Tb E 107 (plain (t107))) (g50_108 : Tb E 108 (plain (t108 N))) (n : Node) :
   bindO (aPure E Proofs.Tryz.f50 H50 N [.agg (Node.cells n)]) (cv sh50) = bindO (F70 N n) fun r => some (v50 r) := by
 unfold F70
 rw [r_pure]
 repeat' (first | (with_reducible (first | apply ier | apply ie | apply ienr | apply ien | apply be | apply ber | apply oer | apply oe)) <;> try intro _ | ((with_reducible (first | refine alr ?_ fun _ _ _ _ => ?_ | refine al ?_ fun _ _ _ _ => ?_)); exact rfl) | simp -implicitDefEqProofs only [push_cast,seval, *] | simp only [bindO_assoc])
theorem ev163 {E : Env} {N : Nat} (hB : NB N) (hty : E.ty = tys) (heq : E.eqt = eqts) (h0 : E.n0 = 0) (hal : E.ali = noAli)  (c : Int) :
   bindO (aPure E Proofs.Tryz.f163 H163 N [.int .u8 c]) (cv sh163) = bindO (F73 c) fun r => some (v163 r) := by
 unfold F73
 rw [r_pure]
 repeat' (first | (with_reducible (first | apply ier | apply ie | apply ienr | apply ien | apply be | apply ber | apply oer | apply oe)) <;> try intro _ | ((with_reducible (first | refine alr ?_ fun _ _ _ _ => ?_ | refine al ?_ fun _ _ _ _ => ?_)); exact rfl) | simp -implicitDefEqProofs only [push_cast,seval, *] | simp only [bindO_assoc])
theorem ev164 {E : Env} {N : Nat} (hB : NB N) (hty : E.ty = tys) (heq : E.eqt = eqts) (h0 : E.n0 = 0) (hal : E.ali = noAli)  (s : ByteArray) :
   bindO (aPure E Proofs.Tryz.f164 H164 N [.str s]) (cv sh164) = bindO (F74 s) fun r => some (v164 r) := by
 unfold F74
 rw [r_pure]
 repeat' (first | (with_reducible (first | apply ier | apply ie | apply ienr | apply ien | apply be | apply ber | apply oer | apply oe)) <;> try intro _ | ((with_reducible (first | refine alr ?_ fun _ _ _ _ => ?_ | refine al ?_ fun _ _ _ _ => ?_)); exact rfl) | simp -implicitDefEqProofs only [push_cast,seval, *] | simp only [bindO_assoc])
theorem ev145 {E : Env} {N : Nat} (hB : NB N) (hty : E.ty = tys) (heq : E.eqt = eqts) (h0 : E.n0 = 0) (hal : E.ali = noAli) (g145_163 : Tb E 163 (plain (t163))) (g145_164 : Tb E 164 (plain (t164))) (s : ByteArray) :
   bindO (aPure E Proofs.Tryz.f145 H145 N [.str s]) (cv sh145) = bindO (F16 N s) fun r => some (v145 r) := by
 unfold F16
 rw [r_pure]
 repeat' (first | (with_reducible (first | apply ier | apply ie | apply ienr | apply ien | apply be | apply ber | apply oer | apply oe)) <;> try intro _ | ((with_reducible (first | refine alr ?_ fun _ _ _ _ => ?_ | refine al ?_ fun _ _ _ _ => ?_)); exact rfl) | simp -implicitDefEqProofs only [push_cast,seval, *] | simp only [bindO_assoc])
 refine fs (S := Unit) s.size (fun (i3 : Nat) (s5 : Unit) => [.str s,Z,Z,Z,Z,Z,Z,Z,Z,Z,Z,Z,Z,Z,Z,Z,Z,Z,Z,Z,Z,Z,Z,Z,.int .i64 (s.size : Int),.int .i64 (i3 : Int),Z,Z,Z,Z,Z,Z,Z,Z,Z,Z,Z,Z,Z,Z,Z,Z,Z,Z,Z,Z,Z]) (fun (_ : Nat) (s5 : Unit) => []) hB () (fun _ _ _ _ _ _ => ?_) fun _ _ => ?_ <;> repeat' (first | (with_reducible (first | apply ier | apply ie | apply ienr | apply ien | apply be | apply ber | apply oer | apply oe)) <;> try intro _ | ((with_reducible (first | refine alr ?_ fun _ _ _ _ => ?_ | refine al ?_ fun _ _ _ _ => ?_)); exact rfl) | simp -implicitDefEqProofs only [push_cast,seval, *] | simp only [bindO_assoc])
theorem ev109 {E : Env} {N : Nat} (hB : NB N) (hty : E.ty = tys) (heq : E.eqt = eqts) (h0 : E.n0 = 0) (hal : E.ali = noAli) (g109_145 : Tb E 145 (plain (t145 N))) (n : Node) :
   bindO (aPure E Proofs.Tryz.f109 H109 N [.agg (Node.cells n)]) (cv sh109) = bindO (F116 N n) fun r => some (v109 r) := by
 unfold F116
 rw [r_pure]
 repeat' (first | (with_reducible (first | apply ier | apply ie | apply ienr | apply ien | apply be | apply ber | apply oer | apply oe)) <;> try intro _ | ((with_reducible (first | refine alr ?_ fun _ _ _ _ => ?_ | refine al ?_ fun _ _ _ _ => ?_)); exact rfl) | simp -implicitDefEqProofs only [push_cast,seval, *] | simp only [bindO_assoc])
theorem ev53 {E : Env} {N : Nat} (hB : NB N) (hty : E.ty = tys) (heq : E.eqt = eqts) (h0 : E.n0 = 0) (hal : E.ali = noAli)  (n : Node) :
   bindO (aPure E Proofs.Tryz.f53 H53 N [.agg (Node.cells n)]) (cv sh53) = bindO (F36 N n) fun r => some (v53 r) := by
 unfold F36
 rw [r_pure]
 repeat' (first | (with_reducible (first | apply ier | apply ie | apply ienr | apply ien | apply be | apply ber | apply oer | apply oe)) <;> try intro _ | ((with_reducible (first | refine alr ?_ fun _ _ _ _ => ?_ | refine al ?_ fun _ _ _ _ => ?_)); exact rfl) | simp -implicitDefEqProofs only [push_cast,seval, *] | simp only [bindO_assoc])
 refine wl (S := Int × Int × ByteArray × Int × (List Node)) (fun (s1 : Int × Int × ByteArray × Int × (List Node)) => [Z,.ptr 0 0,Z,Z,Z,Z,Z,Z,Z,Z,Z,Z,Z,Z,Z,Z,Z,Z,Z,Z,Z,Z,Z,Z,Z,Z,Z,Z,Z,Z,Z,Z,Z,Z,Z,Z,Z,Z,Z,Z,Z,Z,Z,Z,Z]) (fun (s1 : Int × Int × ByteArray × Int × (List Node)) => [.var [.int .i64 s1.1,.int .i64 s1.2.1,.str s1.2.2.1,.int .i64 s1.2.2.2.1,.sl false 5 (List.map Node.cells s1.2.2.2.2)]]) (n.op,n.sortf,n.name,n.num,n.kids) (fun _ => ?_) <;> repeat' (first | (with_reducible (first | apply ier | apply ie | apply ienr | apply ien | apply be | apply ber | apply oer | apply oe)) <;> try intro _ | ((with_reducible (first | refine alr ?_ fun _ _ _ _ => ?_ | refine al ?_ fun _ _ _ _ => ?_)); exact rfl) | simp -implicitDefEqProofs only [push_cast,seval, *] | simp only [bindO_assoc])
theorem ev146 {E : Env} {N : Nat} (hB : NB N) (hty : E.ty = tys) (heq : E.eqt = eqts) (h0 : E.n0 = 0) (hal : E.ali = noAli)  (op : Int) :
   bindO (aPure E Proofs.Tryz.f146 H146 N [.int .i64 op]) (cv sh146) = bindO (F153 op) fun r => some (v146 r) := by
 unfold F153
 rw [r_pure]
 repeat' (first | (with_reducible (first | apply ier | apply ie | apply ienr | apply ien | apply be | apply ber | apply oer | apply oe)) <;> try intro _ | ((with_reducible (first | refine alr ?_ fun _ _ _ _ => ?_ | refine al ?_ fun _ _ _ _ => ?_)); exact rfl) | simp -implicitDefEqProofs only [push_cast,seval, *] | simp only [bindO_assoc])
theorem ev147 {E : Env} {N : Nat} (hB : NB N) (hty : E.ty = tys) (heq : E.eqt = eqts) (h0 : E.n0 = 0) (hal : E.ali = noAli)  (s1q : List Int) (s2q : List Int) :
   bindO (aPure E Proofs.Tryz.f147 H147 N [.sl false 1 (List.map (cI .i64) s1q),.sl false 1 (List.map (cI .i64) s2q)]) (cv sh147) = bindO (F154 N s1q s2q) fun r => some (v147 r) := by
 unfold F154
 rw [r_pure]
 repeat' (first | (with_reducible (first | apply ier | apply ie | apply ienr | apply ien | apply be | apply ber | apply oer | apply oe)) <;> try intro _ | ((with_reducible (first | refine alr ?_ fun _ _ _ _ => ?_ | refine al ?_ fun _ _ _ _ => ?_)); exact rfl) | simp -implicitDefEqProofs only [push_cast,seval, *] | simp only [bindO_assoc])
 refine fl (S := Unit) (cI .i64) s1q (fun (i1 : Nat) (s3 : Unit) => [.sl false 1 (List.map (cI .i64) s1q),.sl false 1 (List.map (cI .i64) s2q),Z,Z,Z,Z,Z,Z,Z,Z,Z,Z,.int .i64 (s1q.length : Int),.int .i64 (i1 : Int),Z,Z,Z,Z,Z,Z,Z,Z,Z,Z,Z,Z]) (fun (_ : Nat) (s3 : Unit) => []) hB () (fun _ _ _ _ _ _ _ _ => ?_) fun _ _ => ?_ <;> repeat' (first | (with_reducible (first | apply ier | apply ie | apply ienr | apply ien | apply be | apply ber | apply oer | apply oe)) <;> try intro _ | ((with_reducible (first | refine alr ?_ fun _ _ _ _ => ?_ | refine al ?_ fun _ _ _ _ => ?_)); exact rfl) | simp -implicitDefEqProofs only [push_cast,seval, *] | simp only [bindO_assoc])
theorem ev110 {E : Env} {E148 : Nat → Env} {N : Nat} (hB : NB N) (hty : E.ty = tys) (heq : E.eqt = eqts) (h0 : E.n0 = 0) (hal : E.ali = noAli) (g110_53 : Tb E 53 (plain (t53 N))) (g110_146 : Tb E 146 (plain (t146))) (g110_147 : Tb E 147 (lent (t147 N))) (g110_148 : Tb E 148 (inl E148 Proofs.Tryz.f148 H148 N)) (hty148 : ∀ n,(E148 n).ty = tys) (heq148 : ∀ n,(E148 n).eqt = eqts) (h0148 : ∀ n,(E148 n).n0 = n) (hal148 : ∀ n,(E148 n).ali = noAli) (n : Node) :
   bindO (aPure E Proofs.Tryz.f110 H110 N [.agg (Node.cells n)]) (cv sh110) = bindO (F117 N n) fun r => some (v110 r) := by
 unfold F117
 rw [r_pure]
 repeat' (first | (with_reducible (first | apply ier | apply ie | apply ienr | apply ien | apply be | apply ber | apply oer | apply oe)) <;> try intro _ | ((with_reducible (first | refine alr ?_ fun _ _ _ _ => ?_ | refine al ?_ fun _ _ _ _ => ?_)); exact rfl) | simp -implicitDefEqProofs only [push_cast,seval, *] | simp only [bindO_assoc] | ((first | refine arr (c := (cI .i64)) fun _ _ _ _ => ?_ | refine ar (c := (cI .i64)) fun _ _ _ _ => ?_); try simp only [Int.reduceToNat,Int.toNat_natCast] at *))
 refine fl (S := List Int) Node.cells n.kids (fun (i1 : Nat) (s3 : List Int) => [Z,.ptr 0 0,Z,.ptr 2 0,Z,Z,Z,Z,Z,Z,Z,Z,Z,Z,.sl false 5 (List.map Node.cells n.kids),.int .i64 (n.kids.length : Int),.int .i64 (i1 : Int),Z,Z,Z,Z,Z,Z,Z,Z,Z,Z,Z,Z,Z,Z,Z,Z,Z,Z,Z,Z,Z,Z,Z,Z,Z,Z,Z,Z,Z,Z,Z,Z,Z,Z,Z,Z,Z,Z,Z,Z,Z,Z,Z,Z,Z,Z,Z,Z,Z,Z,Z,Z,Z,Z,Z,Z,Z]) (fun (_ : Nat) (s3 : List Int) => [.var [.int .i64 n.op,.int .i64 n.sortf,.str n.name,.int .i64 n.num,.sl false 5 (List.map Node.cells n.kids)],.row 1 0 (List.map (cI .i64) s3),.var [.rs 1 0]]) hB (List.replicate n.kids.length 0) (fun _ _ _ _ _ _ _ _ => ?_) fun _ _ => ?_ <;> repeat' (first | (with_reducible (first | apply ier | apply ie | apply ienr | apply ien | apply be | apply ber | apply oer | apply oe)) <;> try intro _ | ((with_reducible (first | refine alr ?_ fun _ _ _ _ => ?_ | refine al ?_ fun _ _ _ _ => ?_)); exact rfl) | simp -implicitDefEqProofs only [push_cast,seval, *] | simp only [bindO_assoc] | ((first | refine arr (c := (cI .i64)) fun _ _ _ _ => ?_ | refine ar (c := (cI .i64)) fun _ _ _ _ => ?_); try simp only [Int.reduceToNat,Int.toNat_natCast] at *))
theorem ev51 {E : Env} {N : Nat} (hB : NB N) (hty : E.ty = tys) (heq : E.eqt = eqts) (h0 : E.n0 = 0) (hal : E.ali = noAli) (g51_54 : Tb E 54 (plain (t54))) (g51_109 : Tb E 109 (plain (t109 N))) (g51_110 : Tb E 110 (plain (t110 N))) (q51_111 : ∀ cs,E.seq (.fn 111 cs) = sq111 cs) (n : Node) :
   bindO (aPure E Proofs.Tryz.f51 H51 N [.agg (Node.cells n)]) (cv sh51) = bindO (F71 N n) fun r => some (v51 r) := by
 unfold F71
 rw [r_pure]
 repeat' (first | (with_reducible (first | apply ier | apply ie | apply ienr | apply ien | apply be | apply ber | apply oer | apply oe)) <;> try intro _ | ((with_reducible (first | refine alr ?_ fun _ _ _ _ => ?_ | refine al ?_ fun _ _ _ _ => ?_)); exact rfl) | simp -implicitDefEqProofs only [push_cast,seval, *] | simp only [bindO_assoc])
 rename_i l1; refine rl (S := Unit) e111 (fun (s3 : Unit) => [.var [.int .i64 n.op,.int .i64 n.sortf,.str n.name,.int .i64 n.num,.sl false 5 (List.map Node.cells n.kids)],.var [.bool false]]) l1 () (fun _ _ => ?_) (fun _ => ?_) <;> repeat' (first | (with_reducible (first | apply ier | apply ie | apply ienr | apply ien | apply be | apply ber | apply oer | apply oe)) <;> try intro _ | ((with_reducible (first | refine alr ?_ fun _ _ _ _ => ?_ | refine al ?_ fun _ _ _ _ => ?_)); exact rfl) | simp -implicitDefEqProofs only [push_cast,seval, *] | simp only [bindO_assoc])
theorem ev52 {E : Env} {N : Nat} (hB : NB N) (hty : E.ty = tys) (heq : E.eqt = eqts) (h0 : E.n0 = 0) (hal : E.ali = noAli) (g52_54 : Tb E 54 (plain (t54))) (q52_111 : ∀ cs,E.seq (.fn 111 cs) = sq111 cs) (n : Node) :
   bindO (aPure E Proofs.Tryz.f52 H52 N [.agg (Node.cells n)]) (cv sh52) = bindO (F40 n) fun r => some (v52 r) := by
 unfold F40
 rw [r_pure]
 repeat' (first | (with_reducible (first | apply ier | apply ie | apply ienr | apply ien | apply be | apply ber | apply oer | apply oe)) <;> try intro _ | ((with_reducible (first | refine alr ?_ fun _ _ _ _ => ?_ | refine al ?_ fun _ _ _ _ => ?_)); exact rfl) | simp -implicitDefEqProofs only [push_cast,seval, *,mk94] | simp only [bindO_assoc])
 rename_i l1; refine rl (S := ByteArray → Option Int) e111 (fun (s3 : ByteArray → Option Int) => [.var [.int .i64 n.op,.int .i64 n.sortf,.str n.name,.int .i64 n.num,.sl false 5 (List.map Node.cells n.kids)],.var [.bool false],.map .string (mS (evI .i64) s3),.var [.map 2]]) l1 (fun _ => none) (fun _ _ => ?_) (fun _ => ?_) <;> repeat' (first | (with_reducible (first | apply ier | apply ie | apply ienr | apply ien | apply be | apply ber | apply oer | apply oe)) <;> try intro _ | ((with_reducible (first | refine alr ?_ fun _ _ _ _ => ?_ | refine al ?_ fun _ _ _ _ => ?_)); exact rfl) | simp -implicitDefEqProofs only [push_cast,seval, *,mk94] | simp only [bindO_assoc])
end Go.Abs.Try
