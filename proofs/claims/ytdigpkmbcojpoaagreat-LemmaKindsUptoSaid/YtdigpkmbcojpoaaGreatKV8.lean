import Derived.Test.YtdigpkmbcojpoaaGreatKD
set_option linter.unusedSimpArgs false
set_option linter.unusedVariables false
namespace Go.Abs.Try
open Go.RowKit
set_option maxRecDepth 100000
set_option maxHeartbeats 4000000
attribute [local push_cast] F1239_f1 F1239_f2 F1239_s1 F1239_s2 F53_f1 F53_s1 Proofs.Tryz.f41 Proofs.Tryz.f42 Proofs.Tryz.f43 Proofs.Tryz.f71 Proofs.Tryz.f72 Proofs.Tryz.f74 Proofs.Tryz.f75 Proofs.Tryz.f76 Proofs.Tryz.f77 Proofs.Tryz.f78 Proofs.Tryz.f79 Proofs.Tryz.f80 Proofs.Tryz.f81 Proofs.Tryz.f82 ty22 ty25 ty3 ty71
theorem ev72 {E : Env} {N : Nat} (hB : NB N) (hty : E.ty = tys) (heq : E.eqt = eqts) (h0 : E.n0 = 0) (hal : E.ali = noAli) (g72_28 : Tb E 28 (plain (t28 N))) (g72_19 : Tb E 19 (plain (t19))) (l : List Node) :
   bindO (aPure E Proofs.Tryz.f72 H72 N [.sl false 5 (List.map Node.cells l)]) (cv sh72) = bindO (F53 N l) fun r => some (v72 r) := by
 unfold F53
 rw [r_pure]
 repeat' (first | (with_reducible (first | apply ier | apply ie | apply ienr | apply ien | apply be | apply ber | apply oer | apply oe)) <;> try intro _ | ((with_reducible (first | refine alr ?_ fun _ _ _ _ => ?_ | refine al ?_ fun _ _ _ _ => ?_)); exact rfl) | simp -implicitDefEqProofs only [push_cast, seval, *] | simp only [bindO_assoc])
 rename_i r2 _; refine fl (S := Int × Int × ByteArray × Int × (List Node)) Node.cells (cutL l 1 (l.length : Int)) (fun (i3 : Nat) (s5 : Int × Int × ByteArray × Int × (List Node)) => [Z, Z, .ptr 0 0, .ptr 1 0, Z, Z, Z, Z, Z, Z, Z, Z, Z, Z, Z, .sl false 5 (List.map Node.cells (cutL l 1 (l.length : Int))), .int .i64 ((cutL l 1 (l.length : Int)).length : Int), .int .i64 (i3 : Int), Z, Z, Z, Z, Z, Z, Z, Z, Z]) (fun (_ : Nat) (s5 : Int × Int × ByteArray × Int × (List Node)) => [.var [.int .i64 0, .int .i64 0, .str (⟨#[]⟩ : ByteArray), .int .i64 0, .sl true 5 []], .var [.int .i64 s5.1, .int .i64 s5.2.1, .str s5.2.2.1, .int .i64 s5.2.2.2.1, .sl false 5 (List.map Node.cells s5.2.2.2.2)]]) hB (r2.op, r2.sortf, r2.name, r2.num, r2.kids) (fun _ _ _ _ _ _ _ _ => ?_) fun _ _ => ?_ <;> repeat' (first | (with_reducible (first | apply ier | apply ie | apply ienr | apply ien | apply be | apply ber | apply oer | apply oe)) <;> try intro _ | ((with_reducible (first | refine alr ?_ fun _ _ _ _ => ?_ | refine al ?_ fun _ _ _ _ => ?_)); exact rfl) | simp -implicitDefEqProofs only [push_cast, seval, *] | simp only [bindO_assoc])
theorem ev41 {E : Env} {N : Nat} (hB : NB N) (hty : E.ty = tys) (heq : E.eqt = eqts) (h0 : E.n0 = 0) (hal : E.ali = ali41) (g41_96 : Tb E 96 (plain (t96 N))) (g41_69 : Tb E 69 (plain (t69 N))) (g41_102 : Tb E 102 (lensRun 0 [.keep] (t2005 N))) (g41_70 : Tb E 70 (plain (t70 N))) (g41_10 : Tb E 10 (plain (t10 N))) (g41_72 : Tb E 72 (given (t72 N))) (n : Node) :
   bindO (aPure E Proofs.Tryz.f41 H41 N [.agg (Node.cells n)]) (cv sh41) = bindO (F1239 N n) fun r => some (v41 r) := by
 unfold F1239
 rw [r_pure]
 repeat' (first | (with_reducible (first | apply ier | apply ie | apply ienr | apply ien | apply be | apply ber | apply oer | apply oe)) <;> try intro _ | ((with_reducible (first | refine alr ?_ fun _ _ _ _ => ?_ | refine al ?_ fun _ _ _ _ => ?_)); exact rfl) | simp -implicitDefEqProofs only [push_cast, seval, *] | simp only [bindO_assoc] | ((first | refine arr (c := Node.cells) fun _ _ _ _ => ?_ | refine ar (c := Node.cells) fun _ _ _ _ => ?_); try simp only [Int.reduceToNat, Int.toNat_natCast] at *))
 rename_i r18 r19 _ _ _ _ _ _ r22; refine fl (S := Int) Node.cells r18.kids (fun (i23 : Nat) (s25 : Int) => [Z, .ptr 0 0, Z, .ptr 1 0, .ptr 2 0, .rs 3 1, .int .i64 s25, Z, Z, Z, Z, Z, Z, Z, Z, Z, Z, Z, Z, Z, Z, Z, Z, Z, Z, Z, Z, Z, Z, Z, Z, Z, Z, Z, Z, Z, Z, Z, Z, Z, Z, Z, Z, Z, Z, .int .i64 (r18.kids.length : Int), .int .i64 (i23 : Int), Z, Z, Z, Z, Z, Z, Z, Z, Z, Z, Z, Z, Z, Z, Z, Z, Z, Z, Z, Z, Z, Z, Z, Z, Z, Z, Z, Z, Z, Z, Z, Z, Z, Z, Z, Z, Z, Z, Z, Z, Z, Z, Z, Z, Z, Z, Z, Z, Z, Z, Z, Z, Z]) (fun (_ : Nat) (s25 : Int) => [.var [.int .i64 n.op, .int .i64 n.sortf, .str n.name, .int .i64 n.num, .sl false 5 (List.map Node.cells n.kids)], .var [.int .i64 r18.op, .int .i64 r18.sortf, .str r18.name, .int .i64 r18.num, .sl false 5 (List.map Node.cells r18.kids)], .var [.int .i64 r19.op, .int .i64 r19.sortf, .str r19.name, .int .i64 r19.num, .sl false 5 (List.map Node.cells r19.kids)], .app 5 1 (List.map Node.cells r22)]) hB 0 (fun _ _ _ _ _ _ _ _ => ?_) fun _ _ => ?_ <;> repeat' (first | (with_reducible (first | apply ier | apply ie | apply ienr | apply ien | apply be | apply ber | apply oer | apply oe)) <;> try intro _ | ((with_reducible (first | refine alr ?_ fun _ _ _ _ => ?_ | refine al ?_ fun _ _ _ _ => ?_)); exact rfl) | simp -implicitDefEqProofs only [push_cast, seval, *] | simp only [bindO_assoc] | ((first | refine arr (c := Node.cells) fun _ _ _ _ => ?_ | refine ar (c := Node.cells) fun _ _ _ _ => ?_); try simp only [Int.reduceToNat, Int.toNat_natCast] at *))
 rename_i r2 r3 _ _ _ _ _ _ r6; refine fl (S := Int) Node.cells r2.kids (fun (i7 : Nat) (s9 : Int) => [Z, .ptr 0 0, Z, .ptr 1 0, .ptr 2 0, .rs 3 1, .int .i64 s9, Z, Z, Z, Z, Z, Z, Z, Z, Z, Z, Z, Z, Z, Z, Z, Z, Z, Z, Z, Z, Z, Z, Z, Z, Z, Z, Z, Z, Z, Z, Z, Z, Z, Z, Z, Z, Z, Z, .int .i64 (r2.kids.length : Int), .int .i64 (i7 : Int), Z, Z, Z, Z, Z, Z, Z, Z, Z, Z, Z, Z, Z, Z, Z, Z, Z, Z, Z, Z, Z, Z, Z, Z, Z, Z, Z, Z, Z, Z, Z, Z, Z, Z, Z, Z, Z, Z, Z, Z, Z, Z, Z, Z, Z, Z, Z, Z, Z, Z, Z, Z, Z]) (fun (_ : Nat) (s9 : Int) => [.var [.int .i64 n.op, .int .i64 n.sortf, .str n.name, .int .i64 n.num, .sl false 5 (List.map Node.cells n.kids)], .var [.int .i64 r2.op, .int .i64 r2.sortf, .str r2.name, .int .i64 r2.num, .sl false 5 (List.map Node.cells r2.kids)], .var [.int .i64 r3.op, .int .i64 r3.sortf, .str r3.name, .int .i64 r3.num, .sl false 5 (List.map Node.cells r3.kids)], .app 5 1 (List.map Node.cells r6)]) hB 0 (fun _ _ _ _ _ _ _ _ => ?_) fun _ _ => ?_ <;> repeat' (first | (with_reducible (first | apply ier | apply ie | apply ienr | apply ien | apply be | apply ber | apply oer | apply oe)) <;> try intro _ | ((with_reducible (first | refine alr ?_ fun _ _ _ _ => ?_ | refine al ?_ fun _ _ _ _ => ?_)); exact rfl) | simp -implicitDefEqProofs only [push_cast, seval, *] | simp only [bindO_assoc] | ((first | refine arr (c := Node.cells) fun _ _ _ _ => ?_ | refine ar (c := Node.cells) fun _ _ _ _ => ?_); try simp only [Int.reduceToNat, Int.toNat_natCast] at *))
theorem ev74 {E : Env} {N : Nat} (hB : NB N) (hty : E.ty = tys) (heq : E.eqt = eqts) (h0 : E.n0 = 0) (hal : E.ali = noAli) (g74_120 : Tb E 120 (plain (t120))) (g74_121 : Tb E 121 (plain (t121))) (g74_70 : Tb E 70 (plain (t70 N))) (g74_122 : Tb E 122 (plain (t122))) (g74_123 : Tb E 123 (plain (t123))) (g74_124 : Tb E 124 (plain (t124))) (e : Node) (s : Node) :
   bindO (aPure E Proofs.Tryz.f74 H74 N [.agg (Node.cells e), .agg (Node.cells s)]) (cv sh74) = bindO (F1260 N e s) fun r => some (v74 r) := by
 unfold F1260
 rw [r_pure]
 repeat' (first | (with_reducible (first | apply ier | apply ie | apply ienr | apply ien | apply be | apply ber | apply oer | apply oe)) <;> try intro _ | ((with_reducible (first | refine alr ?_ fun _ _ _ _ => ?_ | refine al ?_ fun _ _ _ _ => ?_)); exact rfl) | simp -implicitDefEqProofs only [push_cast, seval, *] | simp only [bindO_assoc])
theorem ev71 {E : Env} {N : Nat} (hB : NB N) (hty : E.ty = tys) (heq : E.eqt = eqts) (h0 : E.n0 = 0) (hal : E.ali = noAli) (g71_19 : Tb E 19 (plain (t19))) (a : Node) (b : Node) :
   bindO (aPure E Proofs.Tryz.f71 H71 N [.agg (Node.cells a), .agg (Node.cells b)]) (cv sh71) = bindO (F1258 a b) fun r => some (v71 r) := by
 unfold F1258
 rw [r_pure]
 repeat' (first | (with_reducible (first | apply ier | apply ie | apply ienr | apply ien | apply be | apply ber | apply oer | apply oe)) <;> try intro _ | ((with_reducible (first | refine alr ?_ fun _ _ _ _ => ?_ | refine al ?_ fun _ _ _ _ => ?_)); exact rfl) | simp -implicitDefEqProofs only [push_cast, seval, *] | simp only [bindO_assoc])
theorem ev75 {E : Env} {N : Nat} (hB : NB N) (hty : E.ty = tys) (heq : E.eqt = eqts) (h0 : E.n0 = 0) (hal : E.ali = noAli) (g75_70 : Tb E 70 (plain (t70 N))) (g75_120 : Tb E 120 (plain (t120))) (g75_122 : Tb E 122 (plain (t122))) (g75_71 : Tb E 71 (plain (t71))) (e : Node) (f : Node) (s : Node) :
   bindO (aPure E Proofs.Tryz.f75 H75 N [.agg (Node.cells e), .agg (Node.cells f), .agg (Node.cells s)]) (cv sh75) = bindO (F1261 N e f s) fun r => some (v75 r) := by
 unfold F1261
 rw [r_pure]
 repeat' (first | (with_reducible (first | apply ier | apply ie | apply ienr | apply ien | apply be | apply ber | apply oer | apply oe)) <;> try intro _ | ((with_reducible (first | refine alr ?_ fun _ _ _ _ => ?_ | refine al ?_ fun _ _ _ _ => ?_)); exact rfl) | simp -implicitDefEqProofs only [push_cast, seval, *] | simp only [bindO_assoc])
theorem ev76 {E : Env} {N : Nat} (hB : NB N) (hty : E.ty = tys) (heq : E.eqt = eqts) (h0 : E.n0 = 0) (hal : E.ali = noAli) (g76_19 : Tb E 19 (plain (t19))) (g76_120 : Tb E 120 (plain (t120))) (g76_71 : Tb E 71 (plain (t71))) (a : Node) (b : Node) (e : Node) :
   bindO (aPure E Proofs.Tryz.f76 H76 N [.agg (Node.cells a), .agg (Node.cells b), .agg (Node.cells e)]) (cv sh76) = bindO (F1262 a b e) fun r => some (v76 r) := by
 unfold F1262
 rw [r_pure]
 repeat' (first | (with_reducible (first | apply ier | apply ie | apply ienr | apply ien | apply be | apply ber | apply oer | apply oe)) <;> try intro _ | ((with_reducible (first | refine alr ?_ fun _ _ _ _ => ?_ | refine al ?_ fun _ _ _ _ => ?_)); exact rfl) | simp -implicitDefEqProofs only [push_cast, seval, *] | simp only [bindO_assoc])
theorem ev77 {E : Env} {N : Nat} (hB : NB N) (hty : E.ty = tys) (heq : E.eqt = eqts) (h0 : E.n0 = 0) (hal : E.ali = noAli) (g77_70 : Tb E 70 (plain (t70 N))) (g77_120 : Tb E 120 (plain (t120))) (g77_122 : Tb E 122 (plain (t122))) (g77_71 : Tb E 71 (plain (t71))) (a : Node) (b : Node) (e : Node) :
   bindO (aPure E Proofs.Tryz.f77 H77 N [.agg (Node.cells a), .agg (Node.cells b), .agg (Node.cells e)]) (cv sh77) = bindO (F1263 N a b e) fun r => some (v77 r) := by
 unfold F1263
 rw [r_pure]
 repeat' (first | (with_reducible (first | apply ier | apply ie | apply ienr | apply ien | apply be | apply ber | apply oer | apply oe)) <;> try intro _ | ((with_reducible (first | refine alr ?_ fun _ _ _ _ => ?_ | refine al ?_ fun _ _ _ _ => ?_)); exact rfl) | simp -implicitDefEqProofs only [push_cast, seval, *] | simp only [bindO_assoc])
theorem ev42 {E : Env} {N : Nat} (hB : NB N) (hty : E.ty = tys) (heq : E.eqt = eqts) (h0 : E.n0 = 0) (hal : E.ali = ali42) (g42_96 : Tb E 96 (plain (t96 N))) (g42_74 : Tb E 74 (plain (t74 N))) (g42_10 : Tb E 10 (plain (t10 N))) (g42_86 : Tb E 86 (plain (t86 N))) (g42_75 : Tb E 75 (plain (t75 N))) (g42_98 : Tb E 98 (plain (t98 N))) (g42_76 : Tb E 76 (plain (t76))) (g42_77 : Tb E 77 (plain (t77 N))) (n : Node) :
   bindO (aPure E Proofs.Tryz.f42 H42 N [.agg (Node.cells n)]) (cv sh42) = bindO (F1240 N n) fun r => some (v42 r) := by
 obtain ⟨o_, s_, m_, u_, k_⟩ := n
 unfold F1240
 rw [r_pure]
 repeat' (first | (with_reducible (first | apply ierq (a := o_) | apply ieq (a := o_) | apply ieqnr (a := o_) | apply ieqn (a := o_)) <;> intro _) | (with_reducible (first | apply ier | apply ie | apply ienr | apply ien | apply be | apply ber | apply oer | apply oe)) <;> try intro _ | ((with_reducible (first | refine alr ?_ fun _ _ _ _ => ?_ | refine al ?_ fun _ _ _ _ => ?_)); exact rfl) | simp -implicitDefEqProofs only [push_cast, seval, *] | simp only [bindO_assoc])
theorem ev80 {E : Env} {N : Nat} (hB : NB N) (hty : E.ty = tys) (heq : E.eqt = eqts) (h0 : E.n0 = 0) (hal : E.ali = noAli) (g80_126 : Tb E 126 (plain (t126))) (g80_19 : Tb E 19 (plain (t19))) (a : Node) :
   bindO (aPure E Proofs.Tryz.f80 H80 N [.agg (Node.cells a)]) (cv sh80) = bindO (F1266 a) fun r => some (v80 r) := by
 unfold F1266
 rw [r_pure]
 repeat' (first | (with_reducible (first | apply ier | apply ie | apply ienr | apply ien | apply be | apply ber | apply oer | apply oe)) <;> try intro _ | ((with_reducible (first | refine alr ?_ fun _ _ _ _ => ?_ | refine al ?_ fun _ _ _ _ => ?_)); exact rfl) | simp -implicitDefEqProofs only [push_cast, seval, *] | simp only [bindO_assoc])
theorem ev78 {E : Env} {N : Nat} (hB : NB N) (hty : E.ty = tys) (heq : E.eqt = eqts) (h0 : E.n0 = 0) (hal : E.ali = ali78) (g78_70 : Tb E 70 (plain (t70 N))) (g78_125 : Tb E 125 (plain (t125))) (g78_71 : Tb E 71 (plain (t71))) (g78_123 : Tb E 123 (plain (t123))) (g78_126 : Tb E 126 (plain (t126))) (j : Node) (s : Node) :
   bindO (aPure E Proofs.Tryz.f78 H78 N [.agg (Node.cells j), .agg (Node.cells s)]) (cv sh78) = bindO (F1264 N j s) fun r => some (v78 r) := by
 unfold F1264
 rw [r_pure]
 repeat' (first | (with_reducible (first | apply ier | apply ie | apply ienr | apply ien | apply be | apply ber | apply oer | apply oe)) <;> try intro _ | ((with_reducible (first | refine alr ?_ fun _ _ _ _ => ?_ | refine al ?_ fun _ _ _ _ => ?_)); exact rfl) | simp -implicitDefEqProofs only [push_cast, seval, *] | simp only [bindO_assoc])
theorem ev79 {E : Env} {N : Nat} (hB : NB N) (hty : E.ty = tys) (heq : E.eqt = eqts) (h0 : E.n0 = 0) (hal : E.ali = noAli) (g79_70 : Tb E 70 (plain (t70 N))) (g79_125 : Tb E 125 (plain (t125))) (g79_71 : Tb E 71 (plain (t71))) (i : Node) (j : Node) (a : Node) :
   bindO (aPure E Proofs.Tryz.f79 H79 N [.agg (Node.cells i), .agg (Node.cells j), .agg (Node.cells a)]) (cv sh79) = bindO (F1265 N i j a) fun r => some (v79 r) := by
 unfold F1265
 rw [r_pure]
 repeat' (first | (with_reducible (first | apply ier | apply ie | apply ienr | apply ien | apply be | apply ber | apply oer | apply oe)) <;> try intro _ | ((with_reducible (first | refine alr ?_ fun _ _ _ _ => ?_ | refine al ?_ fun _ _ _ _ => ?_)); exact rfl) | simp -implicitDefEqProofs only [push_cast, seval, *] | simp only [bindO_assoc])
theorem ev81 {E : Env} {N : Nat} (hB : NB N) (hty : E.ty = tys) (heq : E.eqt = eqts) (h0 : E.n0 = 0) (hal : E.ali = noAli) (g81_70 : Tb E 70 (plain (t70 N))) (g81_126 : Tb E 126 (plain (t126))) (g81_125 : Tb E 125 (plain (t125))) (g81_124 : Tb E 124 (plain (t124))) (g81_71 : Tb E 71 (plain (t71))) (a : Node) (b : Node) (i : Node) :
   bindO (aPure E Proofs.Tryz.f81 H81 N [.agg (Node.cells a), .agg (Node.cells b), .agg (Node.cells i)]) (cv sh81) = bindO (F1267 N a b i) fun r => some (v81 r) := by
 unfold F1267
 rw [r_pure]
 repeat' (first | (with_reducible (first | apply ier | apply ie | apply ienr | apply ien | apply be | apply ber | apply oer | apply oe)) <;> try intro _ | ((with_reducible (first | refine alr ?_ fun _ _ _ _ => ?_ | refine al ?_ fun _ _ _ _ => ?_)); exact rfl) | simp -implicitDefEqProofs only [push_cast, seval, *] | simp only [bindO_assoc])
theorem ev43 {E : Env} {N : Nat} (hB : NB N) (hty : E.ty = tys) (heq : E.eqt = eqts) (h0 : E.n0 = 0) (hal : E.ali = ali43) (g43_96 : Tb E 96 (plain (t96 N))) (g43_80 : Tb E 80 (plain (t80))) (g43_98 : Tb E 98 (plain (t98 N))) (g43_78 : Tb E 78 (plain (t78 N))) (g43_86 : Tb E 86 (plain (t86 N))) (g43_79 : Tb E 79 (plain (t79 N))) (g43_81 : Tb E 81 (plain (t81 N))) (n : Node) :
   bindO (aPure E Proofs.Tryz.f43 H43 N [.agg (Node.cells n)]) (cv sh43) = bindO (F1241 N n) fun r => some (v43 r) := by
 obtain ⟨o_, s_, m_, u_, k_⟩ := n
 unfold F1241
 rw [r_pure]
 repeat' (first | (with_reducible (first | apply ierq (a := o_) | apply ieq (a := o_) | apply ieqnr (a := o_) | apply ieqn (a := o_)) <;> intro _) | (with_reducible (first | apply ier | apply ie | apply ienr | apply ien | apply be | apply ber | apply oer | apply oe)) <;> try intro _ | ((with_reducible (first | refine alr ?_ fun _ _ _ _ => ?_ | refine al ?_ fun _ _ _ _ => ?_)); exact rfl) | simp -implicitDefEqProofs only [push_cast, seval, *] | simp only [bindO_assoc])
theorem ev82 {E : Env} {N : Nat} (hB : NB N) (hty : E.ty = tys) (heq : E.eqt = eqts) (h0 : E.n0 = 0) (hal : E.ali = ali82) (g82_70 : Tb E 70 (plain (t70 N))) (g82_71 : Tb E 71 (plain (t71))) (g82_123 : Tb E 123 (plain (t123))) (n : Node) :
   bindO (aPure E Proofs.Tryz.f82 H82 N [.agg (Node.cells n)]) (cv sh82) = bindO (F1268 N n) fun r => some (v82 r) := by
 unfold F1268
 rw [r_pure]
 repeat' (first | (with_reducible (first | apply ier | apply ie | apply ienr | apply ien | apply be | apply ber | apply oer | apply oe)) <;> try intro _ | ((with_reducible (first | refine alr ?_ fun _ _ _ _ => ?_ | refine al ?_ fun _ _ _ _ => ?_)); exact rfl) | simp -implicitDefEqProofs only [push_cast, seval, *] | simp only [bindO_assoc])
end Go.Abs.Try
