import Derived.Test.YthgibjeclmkbpaaGreatCD
set_option linter.unusedSimpArgs false
set_option linter.unusedVariables false
namespace Go.Abs.Try
open Go.RowKit
set_option maxRecDepth 100000
set_option maxHeartbeats 40000000
attribute [local push_cast] F117_f1 F117_s1 F154_f1 F154_s1 F16_f1 F16_s1 F36_s1 F37_f1 F37_s1 F38_f1 F38_s1 F40_f1 F40_s1 F71_f1 F71_s1 Proofs.Tryz.f114 Proofs.Tryz.f115 Proofs.Tryz.f116 Proofs.Tryz.f50 Proofs.Tryz.f59 Proofs.Tryz.f66 Proofs.Tryz.f67 Proofs.Tryz.f68 Proofs.Tryz.f69 Proofs.Tryz.f85 Proofs.Tryz.f86 Proofs.Tryz.f89 Proofs.Tryz.f90 Proofs.Tryz.f91 Proofs.Tryz.f92 ty103 ty2 ty22 ty24 ty3 ty4 ty69 ty9
theorem ev89 {E : Env} {N : Nat} (hB : NB N) (hty : E.ty = tys) (heq : E.eqt = eqts) (h0 : E.n0 = 0) (hal : E.ali = noAli) (g89_70 : Tb E 70 (plain (t70))) (q89_93 : ∀ cs,E.seq (.fn 93 cs) = sq93 cs) (n : Node) :
   bindO (aPure E Proofs.Tryz.f89 H89 N [.agg (Node.cells n)]) (cv sh89) = bindO (F37 n) fun r => some (v89 r) := by
 unfold F37
 rw [r_pure]
 repeat' (first | (with_reducible (first | apply ier | apply ie | apply ienr | apply ien | apply be | apply ber | apply oer | apply oe)) <;> try intro _ | ((with_reducible (first | refine alr ?_ fun _ _ _ _ => ?_ | refine al ?_ fun _ _ _ _ => ?_)); exact rfl) | simp -implicitDefEqProofs only [push_cast,seval, *] | simp only [bindO_assoc])
 rename_i l1; refine rl (S := Int) e93 (fun (s3 : Int) => [.var [.int .i64 n.op,.int .i64 n.sortf,.str n.name,.int .i64 n.num,.sl false 5 (List.map Node.cells n.kids)],.var [.int .i64 s3]]) l1 0 (fun _ _ => ?_) (fun _ => ?_) <;> repeat' (first | (with_reducible (first | apply ier | apply ie | apply ienr | apply ien | apply be | apply ber | apply oer | apply oe)) <;> try intro _ | ((with_reducible (first | refine alr ?_ fun _ _ _ _ => ?_ | refine al ?_ fun _ _ _ _ => ?_)); exact rfl) | simp -implicitDefEqProofs only [push_cast,seval, *] | simp only [bindO_assoc])
theorem ev90 {E : Env} {N : Nat} (hB : NB N) (self90 : Node → Option (Int)) (hty : E.ty = tys) (heq : E.eqt = eqts) (h0 : E.n0 = 0) (hal : E.ali = noAli) (g90_90 : Tb E 90 (plain (ts90 self90))) (n : Node) :
   bindO (aPure E Proofs.Tryz.f90 H90 N [.agg (Node.cells n)]) (cv sh90) = bindO (F38b self90 N n) fun r => some (v90 r) := by
 unfold F38b
 rw [r_pure]
 repeat' (first | (with_reducible (first | apply ier | apply ie | apply ienr | apply ien | apply be | apply ber | apply oer | apply oe)) <;> try intro _ | ((with_reducible (first | refine alr ?_ fun _ _ _ _ => ?_ | refine al ?_ fun _ _ _ _ => ?_)); exact rfl) | simp -implicitDefEqProofs only [push_cast,seval, *] | simp only [bindO_assoc])
 refine fl (S := Int) Node.cells n.kids (fun (i1 : Nat) (s3 : Int) => [Z,Z,Z,.int .i64 s3,Z,Z,Z,.sl false 5 (List.map Node.cells n.kids),.int .i64 (n.kids.length : Int),.int .i64 (i1 : Int),Z,Z,Z,Z,Z,Z,Z,Z,Z,Z]) (fun (_ : Nat) (s3 : Int) => [.var [.int .i64 n.op,.int .i64 n.sortf,.str n.name,.int .i64 n.num,.sl false 5 (List.map Node.cells n.kids)]]) hB 0 (fun _ _ _ _ _ _ _ _ => ?_) fun _ _ => ?_ <;> repeat' (first | (with_reducible (first | apply ier | apply ie | apply ienr | apply ien | apply be | apply ber | apply oer | apply oe)) <;> try intro _ | ((with_reducible (first | refine alr ?_ fun _ _ _ _ => ?_ | refine al ?_ fun _ _ _ _ => ?_)); exact rfl) | simp -implicitDefEqProofs only [push_cast,seval, *] | simp only [bindO_assoc])
theorem ev66 {E : Env} {N : Nat} (hB : NB N) (hty : E.ty = tys) (heq : E.eqt = eqts) (h0 : E.n0 = 0) (hal : E.ali = noAli) (g66_89 : Tb E 89 (plain (t89))) (g66_90 : Tb E 90 (plain (t90 N))) (n : Node) :
   bindO (aPure E Proofs.Tryz.f66 H66 N [.agg (Node.cells n)]) (cv sh66) = bindO (F70 N n) fun r => some (v66 r) := by
 unfold F70
 rw [r_pure]
 repeat' (first | (with_reducible (first | apply ier | apply ie | apply ienr | apply ien | apply be | apply ber | apply oer | apply oe)) <;> try intro _ | ((with_reducible (first | refine alr ?_ fun _ _ _ _ => ?_ | refine al ?_ fun _ _ _ _ => ?_)); exact rfl) | simp -implicitDefEqProofs only [push_cast,seval, *] | simp only [bindO_assoc])
theorem ev85 {E : Env} {N : Nat} (hB : NB N) (hty : E.ty = tys) (heq : E.eqt = eqts) (h0 : E.n0 = 0) (hal : E.ali = noAli)  (c : Int) :
   bindO (aPure E Proofs.Tryz.f85 H85 N [.int .u8 c]) (cv sh85) = bindO (F73 c) fun r => some (v85 r) := by
 unfold F73
 rw [r_pure]
 repeat' (first | (with_reducible (first | apply ier | apply ie | apply ienr | apply ien | apply be | apply ber | apply oer | apply oe)) <;> try intro _ | ((with_reducible (first | refine alr ?_ fun _ _ _ _ => ?_ | refine al ?_ fun _ _ _ _ => ?_)); exact rfl) | simp -implicitDefEqProofs only [push_cast,seval, *] | simp only [bindO_assoc])
theorem ev86 {E : Env} {N : Nat} (hB : NB N) (hty : E.ty = tys) (heq : E.eqt = eqts) (h0 : E.n0 = 0) (hal : E.ali = noAli)  (s : ByteArray) :
   bindO (aPure E Proofs.Tryz.f86 H86 N [.str s]) (cv sh86) = bindO (F74 s) fun r => some (v86 r) := by
 unfold F74
 rw [r_pure]
 repeat' (first | (with_reducible (first | apply ier | apply ie | apply ienr | apply ien | apply be | apply ber | apply oer | apply oe)) <;> try intro _ | ((with_reducible (first | refine alr ?_ fun _ _ _ _ => ?_ | refine al ?_ fun _ _ _ _ => ?_)); exact rfl) | simp -implicitDefEqProofs only [push_cast,seval, *] | simp only [bindO_assoc])
theorem ev59 {E : Env} {N : Nat} (hB : NB N) (hty : E.ty = tys) (heq : E.eqt = eqts) (h0 : E.n0 = 0) (hal : E.ali = noAli) (g59_85 : Tb E 85 (plain (t85))) (g59_86 : Tb E 86 (plain (t86))) (s : ByteArray) :
   bindO (aPure E Proofs.Tryz.f59 H59 N [.str s]) (cv sh59) = bindO (F16 N s) fun r => some (v59 r) := by
 unfold F16
 rw [r_pure]
 repeat' (first | (with_reducible (first | apply ier | apply ie | apply ienr | apply ien | apply be | apply ber | apply oer | apply oe)) <;> try intro _ | ((with_reducible (first | refine alr ?_ fun _ _ _ _ => ?_ | refine al ?_ fun _ _ _ _ => ?_)); exact rfl) | simp -implicitDefEqProofs only [push_cast,seval, *] | simp only [bindO_assoc])
 refine fs (S := Unit) s.size (fun (i3 : Nat) (s5 : Unit) => [.str s,Z,Z,Z,Z,Z,Z,Z,Z,Z,Z,Z,Z,Z,Z,Z,Z,Z,Z,Z,Z,Z,Z,Z,.int .i64 (s.size : Int),.int .i64 (i3 : Int),Z,Z,Z,Z,Z,Z,Z,Z,Z,Z,Z,Z,Z,Z,Z,Z,Z,Z,Z,Z,Z]) (fun (_ : Nat) (s5 : Unit) => []) hB () (fun _ _ _ _ _ _ => ?_) fun _ _ => ?_ <;> repeat' (first | (with_reducible (first | apply ier | apply ie | apply ienr | apply ien | apply be | apply ber | apply oer | apply oe)) <;> try intro _ | ((with_reducible (first | refine alr ?_ fun _ _ _ _ => ?_ | refine al ?_ fun _ _ _ _ => ?_)); exact rfl) | simp -implicitDefEqProofs only [push_cast,seval, *] | simp only [bindO_assoc])
theorem ev91 {E : Env} {N : Nat} (hB : NB N) (hty : E.ty = tys) (heq : E.eqt = eqts) (h0 : E.n0 = 0) (hal : E.ali = noAli) (g91_59 : Tb E 59 (plain (t59 N))) (n : Node) :
   bindO (aPure E Proofs.Tryz.f91 H91 N [.agg (Node.cells n)]) (cv sh91) = bindO (F116 N n) fun r => some (v91 r) := by
 unfold F116
 rw [r_pure]
 repeat' (first | (with_reducible (first | apply ier | apply ie | apply ienr | apply ien | apply be | apply ber | apply oer | apply oe)) <;> try intro _ | ((with_reducible (first | refine alr ?_ fun _ _ _ _ => ?_ | refine al ?_ fun _ _ _ _ => ?_)); exact rfl) | simp -implicitDefEqProofs only [push_cast,seval, *] | simp only [bindO_assoc])
theorem ev69 {E : Env} {N : Nat} (hB : NB N) (hty : E.ty = tys) (heq : E.eqt = eqts) (h0 : E.n0 = 0) (hal : E.ali = noAli)  (n : Node) :
   bindO (aPure E Proofs.Tryz.f69 H69 N [.agg (Node.cells n)]) (cv sh69) = bindO (F36 N n) fun r => some (v69 r) := by
 unfold F36
 rw [r_pure]
 repeat' (first | (with_reducible (first | apply ier | apply ie | apply ienr | apply ien | apply be | apply ber | apply oer | apply oe)) <;> try intro _ | ((with_reducible (first | refine alr ?_ fun _ _ _ _ => ?_ | refine al ?_ fun _ _ _ _ => ?_)); exact rfl) | simp -implicitDefEqProofs only [push_cast,seval, *] | simp only [bindO_assoc])
 refine wl (S := Int × Int × ByteArray × Int × (List Node)) (fun (s1 : Int × Int × ByteArray × Int × (List Node)) => [Z,.ptr 0 0,Z,Z,Z,Z,Z,Z,Z,Z,Z,Z,Z,Z,Z,Z,Z,Z,Z,Z,Z,Z,Z,Z,Z,Z,Z,Z,Z,Z,Z,Z,Z,Z,Z,Z,Z,Z,Z,Z,Z,Z,Z,Z,Z]) (fun (s1 : Int × Int × ByteArray × Int × (List Node)) => [.var [.int .i64 s1.1,.int .i64 s1.2.1,.str s1.2.2.1,.int .i64 s1.2.2.2.1,.sl false 5 (List.map Node.cells s1.2.2.2.2)]]) (n.op,n.sortf,n.name,n.num,n.kids) (fun _ => ?_) <;> repeat' (first | (with_reducible (first | apply ier | apply ie | apply ienr | apply ien | apply be | apply ber | apply oer | apply oe)) <;> try intro _ | ((with_reducible (first | refine alr ?_ fun _ _ _ _ => ?_ | refine al ?_ fun _ _ _ _ => ?_)); exact rfl) | simp -implicitDefEqProofs only [push_cast,seval, *] | simp only [bindO_assoc])
theorem ev114 {E : Env} {N : Nat} (hB : NB N) (hty : E.ty = tys) (heq : E.eqt = eqts) (h0 : E.n0 = 0) (hal : E.ali = noAli)  (op : Int) :
   bindO (aPure E Proofs.Tryz.f114 H114 N [.int .i64 op]) (cv sh114) = bindO (F153 op) fun r => some (v114 r) := by
 unfold F153
 rw [r_pure]
 repeat' (first | (with_reducible (first | apply ier | apply ie | apply ienr | apply ien | apply be | apply ber | apply oer | apply oe)) <;> try intro _ | ((with_reducible (first | refine alr ?_ fun _ _ _ _ => ?_ | refine al ?_ fun _ _ _ _ => ?_)); exact rfl) | simp -implicitDefEqProofs only [push_cast,seval, *] | simp only [bindO_assoc])
theorem ev115 {E : Env} {N : Nat} (hB : NB N) (hty : E.ty = tys) (heq : E.eqt = eqts) (h0 : E.n0 = 0) (hal : E.ali = noAli)  (s1q : List Int) (s2q : List Int) :
   bindO (aPure E Proofs.Tryz.f115 H115 N [.sl false 1 (List.map (cI .i64) s1q),.sl false 1 (List.map (cI .i64) s2q)]) (cv sh115) = bindO (F154 N s1q s2q) fun r => some (v115 r) := by
 unfold F154
 rw [r_pure]
 repeat' (first | (with_reducible (first | apply ier | apply ie | apply ienr | apply ien | apply be | apply ber | apply oer | apply oe)) <;> try intro _ | ((with_reducible (first | refine alr ?_ fun _ _ _ _ => ?_ | refine al ?_ fun _ _ _ _ => ?_)); exact rfl) | simp -implicitDefEqProofs only [push_cast,seval, *] | simp only [bindO_assoc])
 refine fl (S := Unit) (cI .i64) s1q (fun (i1 : Nat) (s3 : Unit) => [.sl false 1 (List.map (cI .i64) s1q),.sl false 1 (List.map (cI .i64) s2q),Z,Z,Z,Z,Z,Z,Z,Z,Z,Z,.int .i64 (s1q.length : Int),.int .i64 (i1 : Int),Z,Z,Z,Z,Z,Z,Z,Z,Z,Z,Z,Z]) (fun (_ : Nat) (s3 : Unit) => []) hB () (fun _ _ _ _ _ _ _ _ => ?_) fun _ _ => ?_ <;> repeat' (first | (with_reducible (first | apply ier | apply ie | apply ienr | apply ien | apply be | apply ber | apply oer | apply oe)) <;> try intro _ | ((with_reducible (first | refine alr ?_ fun _ _ _ _ => ?_ | refine al ?_ fun _ _ _ _ => ?_)); exact rfl) | simp -implicitDefEqProofs only [push_cast,seval, *] | simp only [bindO_assoc])
theorem ev92 {E : Env} {E116 : Nat → Env} {N : Nat} (hB : NB N) (hty : E.ty = tys) (heq : E.eqt = eqts) (h0 : E.n0 = 0) (hal : E.ali = noAli) (g92_69 : Tb E 69 (plain (t69 N))) (g92_114 : Tb E 114 (plain (t114))) (g92_115 : Tb E 115 (lent (t115 N))) (g92_116 : Tb E 116 (inl E116 Proofs.Tryz.f116 H116 N)) (hty116 : ∀ n,(E116 n).ty = tys) (heq116 : ∀ n,(E116 n).eqt = eqts) (h0116 : ∀ n,(E116 n).n0 = n) (hal116 : ∀ n,(E116 n).ali = noAli) (n : Node) :
   bindO (aPure E Proofs.Tryz.f92 H92 N [.agg (Node.cells n)]) (cv sh92) = bindO (F117 N n) fun r => some (v92 r) := by
 unfold F117
 rw [r_pure]
 repeat' (first | (with_reducible (first | apply ier | apply ie | apply ienr | apply ien | apply be | apply ber | apply oer | apply oe)) <;> try intro _ | ((with_reducible (first | refine alr ?_ fun _ _ _ _ => ?_ | refine al ?_ fun _ _ _ _ => ?_)); exact rfl) | simp -implicitDefEqProofs only [push_cast,seval, *] | simp only [bindO_assoc] | ((first | refine arr (c := (cI .i64)) fun _ _ _ _ => ?_ | refine ar (c := (cI .i64)) fun _ _ _ _ => ?_); try simp only [Int.reduceToNat,Int.toNat_natCast] at *))
 refine fl (S := List Int) Node.cells n.kids (fun (i1 : Nat) (s3 : List Int) => [Z,.ptr 0 0,Z,.ptr 2 0,Z,Z,Z,Z,Z,Z,Z,Z,Z,Z,.sl false 5 (List.map Node.cells n.kids),.int .i64 (n.kids.length : Int),.int .i64 (i1 : Int),Z,Z,Z,Z,Z,Z,Z,Z,Z,Z,Z,Z,Z,Z,Z,Z,Z,Z,Z,Z,Z,Z,Z,Z,Z,Z,Z,Z,Z,Z,Z,Z,Z,Z,Z,Z,Z,Z,Z,Z,Z,Z,Z,Z,Z,Z,Z,Z,Z,Z,Z,Z,Z,Z,Z,Z,Z]) (fun (_ : Nat) (s3 : List Int) => [.var [.int .i64 n.op,.int .i64 n.sortf,.str n.name,.int .i64 n.num,.sl false 5 (List.map Node.cells n.kids)],.row 1 0 (List.map (cI .i64) s3),.var [.rs 1 0]]) hB (List.replicate n.kids.length 0) (fun _ _ _ _ _ _ _ _ => ?_) fun _ _ => ?_ <;> repeat' (first | (with_reducible (first | apply ier | apply ie | apply ienr | apply ien | apply be | apply ber | apply oer | apply oe)) <;> try intro _ | ((with_reducible (first | refine alr ?_ fun _ _ _ _ => ?_ | refine al ?_ fun _ _ _ _ => ?_)); exact rfl) | simp -implicitDefEqProofs only [push_cast,seval, *] | simp only [bindO_assoc] | ((first | refine arr (c := (cI .i64)) fun _ _ _ _ => ?_ | refine ar (c := (cI .i64)) fun _ _ _ _ => ?_); try simp only [Int.reduceToNat,Int.toNat_natCast] at *))
theorem ev67 {E : Env} {N : Nat} (hB : NB N) (hty : E.ty = tys) (heq : E.eqt = eqts) (h0 : E.n0 = 0) (hal : E.ali = noAli) (g67_70 : Tb E 70 (plain (t70))) (g67_91 : Tb E 91 (plain (t91 N))) (g67_92 : Tb E 92 (plain (t92 N))) (q67_93 : ∀ cs,E.seq (.fn 93 cs) = sq93 cs) (n : Node) :
   bindO (aPure E Proofs.Tryz.f67 H67 N [.agg (Node.cells n)]) (cv sh67) = bindO (F71 N n) fun r => some (v67 r) := by
 unfold F71
 rw [r_pure]
 repeat' (first | (with_reducible (first | apply ier | apply ie | apply ienr | apply ien | apply be | apply ber | apply oer | apply oe)) <;> try intro _ | ((with_reducible (first | refine alr ?_ fun _ _ _ _ => ?_ | refine al ?_ fun _ _ _ _ => ?_)); exact rfl) | simp -implicitDefEqProofs only [push_cast,seval, *] | simp only [bindO_assoc])
 rename_i l1; refine rl (S := Unit) e93 (fun (s3 : Unit) => [.var [.int .i64 n.op,.int .i64 n.sortf,.str n.name,.int .i64 n.num,.sl false 5 (List.map Node.cells n.kids)],.var [.bool false]]) l1 () (fun _ _ => ?_) (fun _ => ?_) <;> repeat' (first | (with_reducible (first | apply ier | apply ie | apply ienr | apply ien | apply be | apply ber | apply oer | apply oe)) <;> try intro _ | ((with_reducible (first | refine alr ?_ fun _ _ _ _ => ?_ | refine al ?_ fun _ _ _ _ => ?_)); exact rfl) | simp -implicitDefEqProofs only [push_cast,seval, *] | simp only [bindO_assoc])
theorem ev68 {E : Env} {N : Nat} (hB : NB N) (hty : E.ty = tys) (heq : E.eqt = eqts) (h0 : E.n0 = 0) (hal : E.ali = noAli) (g68_70 : Tb E 70 (plain (t70))) (q68_93 : ∀ cs,E.seq (.fn 93 cs) = sq93 cs) (n : Node) :
   bindO (aPure E Proofs.Tryz.f68 H68 N [.agg (Node.cells n)]) (cv sh68) = bindO (F40 n) fun r => some (v68 r) := by
 unfold F40
 rw [r_pure]
 repeat' (first | (with_reducible (first | apply ier | apply ie | apply ienr | apply ien | apply be | apply ber | apply oer | apply oe)) <;> try intro _ | ((with_reducible (first | refine alr ?_ fun _ _ _ _ => ?_ | refine al ?_ fun _ _ _ _ => ?_)); exact rfl) | simp -implicitDefEqProofs only [push_cast,seval, *,mk103] | simp only [bindO_assoc])
 rename_i l1; refine rl (S := ByteArray → Option Int) e93 (fun (s3 : ByteArray → Option Int) => [.var [.int .i64 n.op,.int .i64 n.sortf,.str n.name,.int .i64 n.num,.sl false 5 (List.map Node.cells n.kids)],.var [.bool false],.map .string (mS (evI .i64) s3),.var [.map 2]]) l1 (fun _ => none) (fun _ _ => ?_) (fun _ => ?_) <;> repeat' (first | (with_reducible (first | apply ier | apply ie | apply ienr | apply ien | apply be | apply ber | apply oer | apply oe)) <;> try intro _ | ((with_reducible (first | refine alr ?_ fun _ _ _ _ => ?_ | refine al ?_ fun _ _ _ _ => ?_)); exact rfl) | simp -implicitDefEqProofs only [push_cast,seval, *,mk103] | simp only [bindO_assoc])
theorem ev50 {E : Env} {N : Nat} (hB : NB N) (hty : E.ty = tys) (heq : E.eqt = eqts) (h0 : E.n0 = 0) (hal : E.ali = noAli) (g50_66 : Tb E 66 (plain (t66 N))) (g50_67 : Tb E 67 (plain (t67 N))) (g50_68 : Tb E 68 (plain (t68))) (g50_69 : Tb E 69 (plain (t69 N))) (n : Node) (sortq : Int) :
   bindO (aPure E Proofs.Tryz.f50 H50 N [.agg (Node.cells n),.int .i64 sortq]) (cv sh50) = bindO (F14 N n sortq) fun r => some (v50 r) := by
 unfold F14
 rw [r_pure]
 repeat' (first | (with_reducible (first | apply ier | apply ie | apply ienr | apply ien | apply be | apply ber | apply oer | apply oe)) <;> try intro _ | ((with_reducible (first | refine alr ?_ fun _ _ _ _ => ?_ | refine al ?_ fun _ _ _ _ => ?_)); exact rfl) | simp -implicitDefEqProofs only [push_cast,seval, *] | simp only [bindO_assoc])
end Go.Abs.Try
