import Derived.Test.YtjjajifecniidaaGreatRD
set_option linter.unusedSimpArgs false
set_option linter.unusedVariables false
namespace Go.Abs.Try
open Go.RowKit
set_option maxRecDepth 100000
set_option maxHeartbeats 4000000
attribute [local push_cast] F18_f1 F18_s1 F40_f1 F40_s1 F71_f1 F71_s1 F82_f1 F82_s1 F88_s1 Proofs.Tryz.f101 Proofs.Tryz.f103 Proofs.Tryz.f34 Proofs.Tryz.f36 Proofs.Tryz.f47 Proofs.Tryz.f48 Proofs.Tryz.f57 Proofs.Tryz.f58 Proofs.Tryz.f59 Proofs.Tryz.f61 Proofs.Tryz.f65 Proofs.Tryz.f66 Proofs.Tryz.f94 Proofs.Tryz.f96 ty127 ty2 ty28 ty3 ty30 ty4 ty50 ty52 ty54 ty9 ty95 ty97
theorem ev57 {E : Env} {N : Nat} (hB : NB N) (hty : E.ty = tys) (heq : E.eqt = eqts) (h0 : E.n0 = 0) (hal : E.ali = noAli) (g57_91 : Tb E 91 (plain (t91))) (g57_92 : Tb E 92 (plain (t92 N))) (g57_93 : Tb E 93 (plain (t93 N))) (q57_123 : ∀ cs, E.seq (.fn 123 cs) = sq123 cs) (n : Node) :
   bindO (aPure E Proofs.Tryz.f57 H57 N [.agg (Node.cells n)]) (cv sh57) = bindO (F71 N n) fun r => some (v57 r) := by
 unfold F71
 rw [r_pure]
 repeat' (first | (with_reducible (first | apply ier | apply ie | apply ienr | apply ien | apply be | apply ber | apply oer | apply oe)) <;> try intro _ | ((with_reducible (first | refine alr ?_ fun _ _ _ _ => ?_ | refine al ?_ fun _ _ _ _ => ?_)); exact rfl) | simp -implicitDefEqProofs only [push_cast, seval, *] | simp only [bindO_assoc])
 rename_i l1; refine rl (S := Unit) e123 (fun (s3 : Unit) => [.var [.int .i64 n.op, .int .i64 n.sortf, .str n.name, .int .i64 n.num, .sl false 5 (List.map Node.cells n.kids)], .var [.bool false]]) l1 () (fun _ _ => ?_) (fun _ => ?_) <;> repeat' (first | (with_reducible (first | apply ier | apply ie | apply ienr | apply ien | apply be | apply ber | apply oer | apply oe)) <;> try intro _ | ((with_reducible (first | refine alr ?_ fun _ _ _ _ => ?_ | refine al ?_ fun _ _ _ _ => ?_)); exact rfl) | simp -implicitDefEqProofs only [push_cast, seval, *] | simp only [bindO_assoc])
theorem ev58 {E : Env} {N : Nat} (hB : NB N) (hty : E.ty = tys) (heq : E.eqt = eqts) (h0 : E.n0 = 0) (hal : E.ali = noAli) (g58_91 : Tb E 91 (plain (t91))) (q58_123 : ∀ cs, E.seq (.fn 123 cs) = sq123 cs) (n : Node) :
   bindO (aPure E Proofs.Tryz.f58 H58 N [.agg (Node.cells n)]) (cv sh58) = bindO (F40 n) fun r => some (v58 r) := by
 unfold F40
 rw [r_pure]
 repeat' (first | (with_reducible (first | apply ier | apply ie | apply ienr | apply ien | apply be | apply ber | apply oer | apply oe)) <;> try intro _ | ((with_reducible (first | refine alr ?_ fun _ _ _ _ => ?_ | refine al ?_ fun _ _ _ _ => ?_)); exact rfl) | simp -implicitDefEqProofs only [push_cast, seval, *, mk127] | simp only [bindO_assoc])
 rename_i l1; refine rl (S := ByteArray → Option Int) e123 (fun (s3 : ByteArray → Option Int) => [.var [.int .i64 n.op, .int .i64 n.sortf, .str n.name, .int .i64 n.num, .sl false 5 (List.map Node.cells n.kids)], .var [.bool false], .map .string (mS (evI .i64) s3), .var [.map 2]]) l1 (fun _ => none) (fun _ _ => ?_) (fun _ => ?_) <;> repeat' (first | (with_reducible (first | apply ier | apply ie | apply ienr | apply ien | apply be | apply ber | apply oer | apply oe)) <;> try intro _ | ((with_reducible (first | refine alr ?_ fun _ _ _ _ => ?_ | refine al ?_ fun _ _ _ _ => ?_)); exact rfl) | simp -implicitDefEqProofs only [push_cast, seval, *, mk127] | simp only [bindO_assoc])
theorem ev34 {E : Env} {N : Nat} (hB : NB N) (hty : E.ty = tys) (heq : E.eqt = eqts) (h0 : E.n0 = 0) (hal : E.ali = noAli) (g34_56 : Tb E 56 (plain (t56 N))) (g34_57 : Tb E 57 (plain (t57 N))) (g34_58 : Tb E 58 (plain (t58))) (g34_35 : Tb E 35 (plain (t35 N))) (n : Node) (sortq : Int) :
   bindO (aPure E Proofs.Tryz.f34 H34 N [.agg (Node.cells n), .int .i64 sortq]) (cv sh34) = bindO (F14 N n sortq) fun r => some (v34 r) := by
 unfold F14
 rw [r_pure]
 repeat' (first | (with_reducible (first | apply ier | apply ie | apply ienr | apply ien | apply be | apply ber | apply oer | apply oe)) <;> try intro _ | ((with_reducible (first | refine alr ?_ fun _ _ _ _ => ?_ | refine al ?_ fun _ _ _ _ => ?_)); exact rfl) | simp -implicitDefEqProofs only [push_cast, seval, *] | simp only [bindO_assoc])
theorem ev48 {E : Env} {N : Nat} (hB : NB N) (hty : E.ty = tys) (heq : E.eqt = eqts) (h0 : E.n0 = 0) (hal : E.ali = noAli)  (x : Int) :
   bindO (aPure E Proofs.Tryz.f48 H48 N [.int .i64 x]) (cv sh48) = bindO (F112 x) fun r => some (v48 r) := by
 unfold F112
 rw [r_pure]
 repeat' (first | (with_reducible (first | apply ier | apply ie | apply ienr | apply ien | apply be | apply ber | apply oer | apply oe)) <;> try intro _ | ((with_reducible (first | refine alr ?_ fun _ _ _ _ => ?_ | refine al ?_ fun _ _ _ _ => ?_)); exact rfl) | simp -implicitDefEqProofs only [push_cast, seval, *] | simp only [bindO_assoc])
theorem ev101 {E : Env} {N : Nat} (hB : NB N) (hty : E.ty = tys) (heq : E.eqt = eqts) (h0 : E.n0 = 0) (hal : E.ali = noAli)  (x : Int) (y : Int) :
   bindO (aPure E Proofs.Tryz.f101 H101 N [.int .u64 x, .int .u64 y]) (cv sh101) = bindO (F161 x y) fun r => some (v101 r) := by
 unfold F161
 rw [r_pure]
 repeat' (first | (with_reducible (first | apply ier | apply ie | apply ienr | apply ien | apply be | apply ber | apply oer | apply oe)) <;> try intro _ | ((with_reducible (first | refine alr ?_ fun _ _ _ _ => ?_ | refine al ?_ fun _ _ _ _ => ?_)); exact rfl) | simp -implicitDefEqProofs only [push_cast, seval, *] | simp only [bindO_assoc])
theorem ev65 {E : Env} {N : Nat} (hB : NB N) (hty : E.ty = tys) (heq : E.eqt = eqts) (h0 : E.n0 = 0) (hal : E.ali = noAli) (g65_101 : Tb E 101 (plain (t101))) (g65_102 : Tb E 102 (plain (t102))) (s : LinearSum) (a : Int) (b : Int) :
   bindO (aPure E Proofs.Tryz.f65 H65 N [.agg (LinearSum.cells s), .int .i64 a, .int .i64 b]) (cv sh65) = bindO (F128 s a b) fun r => some (v65 r) := by
 unfold F128
 rw [r_pure]
 repeat' (first | (with_reducible (first | apply ier | apply ie | apply ienr | apply ien | apply be | apply ber | apply oer | apply oe)) <;> try intro _ | ((with_reducible (first | refine alr ?_ fun _ _ _ _ => ?_ | refine al ?_ fun _ _ _ _ => ?_)); exact rfl) | simp -implicitDefEqProofs only [push_cast, seval, *] | simp only [bindO_assoc])
theorem ev66 {E : Env} {N : Nat} (hB : NB N) (hty : E.ty = tys) (heq : E.eqt = eqts) (h0 : E.n0 = 0) (hal : E.ali = noAli) (g66_48 : Tb E 48 (plain (t48))) (s : LinearSum) :
   bindO (aPure E Proofs.Tryz.f66 H66 N [.agg (LinearSum.cells s)]) (cv sh66) = bindO (F129 s) fun r => some (v66 r) := by
 unfold F129
 rw [r_pure]
 repeat' (first | (with_reducible (first | apply ier | apply ie | apply ienr | apply ien | apply be | apply ber | apply oer | apply oe)) <;> try intro _ | ((with_reducible (first | refine alr ?_ fun _ _ _ _ => ?_ | refine al ?_ fun _ _ _ _ => ?_)); exact rfl) | simp -implicitDefEqProofs only [push_cast, seval, *] | simp only [bindO_assoc])
theorem ev94 {E : Env} {N : Nat} (hB : NB N) (hty : E.ty = tys) (heq : E.eqt = eqts) (h0 : E.n0 = 0) (hal : E.ali = noAli)  (a : Int) (b : Int) :
   bindO (aPure E Proofs.Tryz.f94 H94 N [.int .i64 a, .int .i64 b]) (cv sh94) = bindO (F78 a b) fun r => some (v94 r) := by
 unfold F78
 rw [r_pure]
 repeat' (first | (with_reducible (first | apply ier | apply ie | apply ienr | apply ien | apply be | apply ber | apply oer | apply oe)) <;> try intro _ | ((with_reducible (first | refine alr ?_ fun _ _ _ _ => ?_ | refine al ?_ fun _ _ _ _ => ?_)); exact rfl) | simp -implicitDefEqProofs only [push_cast, seval, *] | simp only [bindO_assoc])
theorem ev96 {E : Env} {N : Nat} (hB : NB N) (hty : E.ty = tys) (heq : E.eqt = eqts) (h0 : E.n0 = 0) (hal : E.ali = noAli)  (a : Int) (b : Int) :
   bindO (aPure E Proofs.Tryz.f96 H96 N [.int .i64 a, .int .i64 b]) (cv sh96) = bindO (F80 a b) fun r => some (v96 r) := by
 unfold F80
 rw [r_pure]
 repeat' (first | (with_reducible (first | apply ier | apply ie | apply ienr | apply ien | apply be | apply ber | apply oer | apply oe)) <;> try intro _ | ((with_reducible (first | refine alr ?_ fun _ _ _ _ => ?_ | refine al ?_ fun _ _ _ _ => ?_)); exact rfl) | simp -implicitDefEqProofs only [push_cast, seval, *] | simp only [bindO_assoc])
theorem ev61 {E : Env} {N : Nat} (hB : NB N) (self61 : Node → Node → Option (Int)) (hty : E.ty = tys) (heq : E.eqt = eqts) (h0 : E.n0 = 0) (hal : E.ali = noAli) (g61_94 : Tb E 94 (plain (t94))) (g61_95 : Tb E 95 (plain (t95))) (g61_96 : Tb E 96 (plain (t96))) (g61_61 : Tb E 61 (plain (ts61 self61))) (a : Node) (b : Node) :
   bindO (aPure E Proofs.Tryz.f61 H61 N [.agg (Node.cells a), .agg (Node.cells b)]) (cv sh61) = bindO (F18b self61 N a b) fun r => some (v61 r) := by
 unfold F18b
 rw [r_pure]
 repeat' (first | (with_reducible (first | apply ier | apply ie | apply ienr | apply ien | apply be | apply ber | apply oer | apply oe)) <;> try intro _ | ((with_reducible (first | refine alr ?_ fun _ _ _ _ => ?_ | refine al ?_ fun _ _ _ _ => ?_)); exact rfl) | simp -implicitDefEqProofs only [push_cast, seval, *] | simp only [bindO_assoc])
 refine fl (S := Unit) Node.cells a.kids (fun (i6 : Nat) (s8 : Unit) => [Z, Z, .ptr 0 0, .ptr 1 0, Z, Z, Z, Z, Z, Z, Z, Z, Z, Z, Z, Z, Z, Z, Z, Z, Z, Z, Z, Z, Z, Z, Z, Z, Z, Z, Z, Z, Z, Z, Z, Z, Z, Z, Z, Z, Z, Z, Z, Z, Z, Z, Z, Z, Z, Z, Z, Z, Z, Z, Z, Z, .int .i64 (a.kids.length : Int), .int .i64 (i6 : Int), Z, Z, Z, Z, Z, Z, Z, Z, Z, Z, Z, Z, Z, Z, Z, Z, Z]) (fun (_ : Nat) (s8 : Unit) => [.var [.int .i64 a.op, .int .i64 a.sortf, .str a.name, .int .i64 a.num, .sl false 5 (List.map Node.cells a.kids)], .var [.int .i64 b.op, .int .i64 b.sortf, .str b.name, .int .i64 b.num, .sl false 5 (List.map Node.cells b.kids)]]) hB () (fun _ _ _ _ _ _ _ _ => ?_) fun _ _ => ?_ <;> repeat' (first | (with_reducible (first | apply ier | apply ie | apply ienr | apply ien | apply be | apply ber | apply oer | apply oe)) <;> try intro _ | ((with_reducible (first | refine alr ?_ fun _ _ _ _ => ?_ | refine al ?_ fun _ _ _ _ => ?_)); exact rfl) | simp -implicitDefEqProofs only [push_cast, seval, *] | simp only [bindO_assoc])
theorem ev47 {E : Env} {N : Nat} (hB : NB N) (hty : E.ty = tys) (heq : E.eqt = eqts) (h0 : E.n0 = 0) (hal : E.ali = noAli) (g47_65 : Tb E 65 (plain (t65))) (g47_66 : Tb E 66 (plain (t66))) (g47_61 : Tb E 61 (plain (t61 N))) (a : Lin) (b : Lin) (p : Int) (q : Int) :
   bindO (aPure E Proofs.Tryz.f47 H47 N [.agg (Lin.cells a), .agg (Lin.cells b), .int .i64 p, .int .i64 q]) (cv sh47) = bindO (F88 N a b p q) fun r => some (v47 r) := by
 unfold F88
 rw [r_pure]
 repeat' (first | (with_reducible (first | apply ier | apply ie | apply ienr | apply ien | apply be | apply ber | apply oer | apply oe)) <;> try intro _ | ((with_reducible (first | refine alr ?_ fun _ _ _ _ => ?_ | refine al ?_ fun _ _ _ _ => ?_)); exact rfl) | simp -implicitDefEqProofs only [push_cast, seval, *] | simp only [bindO_assoc])
 refine wl (S := (List Mono) × Int × Int) (fun (s1 : (List Mono) × Int × Int) => [Z, Z, .int .i64 p, .int .i64 q, .ptr 0 0, .ptr 1 0, Z, Z, .ptr 2 0, Z, .ptr 3 0, .int .i64 s1.2.1, .int .i64 s1.2.2, Z, Z, Z, Z, Z, Z, Z, Z, Z, Z, Z, Z, Z, Z, Z, Z, Z, Z, Z, Z, Z, Z, Z, Z, Z, Z, Z, Z, Z, Z, Z, Z, Z, Z, Z, Z, Z, Z, Z, Z, Z, Z, Z, Z, Z, Z, Z, Z, Z, Z, Z, Z, Z, Z, Z, Z, Z, Z, Z, Z, Z, Z, Z, Z, Z, Z, Z, Z, Z, Z, Z, Z, Z, Z, Z, Z, Z, Z, Z, Z, Z, Z, Z, Z, Z, Z, Z, Z, Z, Z, Z, Z, Z, Z, Z, Z, Z, Z, Z, Z, Z, Z, Z, Z, Z, Z, Z, Z, Z, Z, Z, Z, Z, Z, Z, Z, Z]) (fun (s1 : (List Mono) × Int × Int) => [.var [.sl false 6 (List.map Mono.cells a.linMonos), .int .i64 a.linConst], .var [.sl false 6 (List.map Mono.cells b.linMonos), .int .i64 b.linConst], .var [.sl true 6 [], .int .i64 0], .var [.rs 4 0, .int .i64 0], .row 6 0 (List.map Mono.cells s1.1)]) ([], 0, 0) (fun _ => ?_) <;> repeat' (first | (with_reducible (first | apply ier | apply ie | apply ienr | apply ien | apply be | apply ber | apply oer | apply oe)) <;> try intro _ | ((with_reducible (first | refine alr ?_ fun _ _ _ _ => ?_ | refine al ?_ fun _ _ _ _ => ?_)); exact rfl) | simp -implicitDefEqProofs only [push_cast, seval, *] | simp only [bindO_assoc])
theorem ev36 {E : Env} {E59 : Nat → Env} {N : Nat} (hB : NB N) (self36 : Node → Option (Lin × Bool)) (hty : E.ty = tys) (heq : E.eqt = eqts) (h0 : E.n0 = 0) (hal : E.ali = noAli) (g36_48 : Tb E 48 (plain (t48))) (g36_59 : Tb E 59 (inl E59 Proofs.Tryz.f59 H59 N)) (g36_36 : Tb E 36 (plain (ts36 self36))) (g36_47 : Tb E 47 (plain (t47 N))) (hty59 : ∀ n, (E59 n).ty = tys) (heq59 : ∀ n, (E59 n).eqt = eqts) (h059 : ∀ n, (E59 n).n0 = n) (hal59 : ∀ n, (E59 n).ali = noAli) (g59_36 : TbI E59 36 (plain (ts36 self36))) (g59_47 : TbI E59 47 (plain (t47 N))) (n : Node) :
   bindO (aPure E Proofs.Tryz.f36 H36 N [.agg (Node.cells n)]) (cv sh36) = bindO (F85b self36 N n) fun r => some (v36 r) := by
 unfold F85b
 rw [r_pure]
 repeat' (first | (with_reducible (first | apply ier | apply ie | apply ienr | apply ien | apply be | apply ber | apply oer | apply oe)) <;> try intro _ | ((with_reducible (first | refine alr ?_ fun _ _ _ _ => ?_ | refine al ?_ fun _ _ _ _ => ?_)); exact rfl) | simp -implicitDefEqProofs only [push_cast, seval, *] | simp only [bindO_assoc])
theorem ev103 {E : Env} {N : Nat} (hB : NB N) (self103 : Node → Option (Node)) (hty : E.ty = tys) (heq : E.eqt = eqts) (h0 : E.n0 = 0) (hal : E.ali = noAli) (g103_132 : Tb E 132 (cloneT 5 64)) (g103_103 : Tb E 103 (plain (ts103 self103))) (n : Node) :
   bindO (aPure E Proofs.Tryz.f103 H103 N [.agg (Node.cells n)]) (cv sh103) = bindO (F82b self103 N n) fun r => some (v103 r) := by
 unfold F82b
 rw [r_pure]
 repeat' (first | (with_reducible (first | apply ier | apply ie | apply ienr | apply ien | apply be | apply ber | apply oer | apply oe)) <;> try intro _ | ((with_reducible (first | refine alr ?_ fun _ _ _ _ => ?_ | refine al ?_ fun _ _ _ _ => ?_)); exact rfl) | simp -implicitDefEqProofs only [push_cast, seval, *] | simp only [bindO_assoc] | ((first | refine arr (c := Node.cells) fun _ _ _ _ => ?_ | refine ar (c := Node.cells) fun _ _ _ _ => ?_); try simp only [Int.reduceToNat, Int.toNat_natCast] at *))
 refine fs (S := List Node) n.kids.length (fun (i1 : Nat) (s3 : List Node) => [Z, .ptr 0 0, .ptr 1 0, Z, Z, Z, Z, Z, Z, Z, .rs 2 0, .int .i64 ((n.kids.length : Int)), .int .i64 (i1 : Int), Z, Z, Z, Z, Z, Z, Z, Z, Z, Z, Z, Z]) (fun (_ : Nat) (s3 : List Node) => [.var [.int .i64 n.op, .int .i64 n.sortf, .str n.name, .int .i64 n.num, .rs 2 0], .var [.int .i64 0, .int .i64 0, .str (⟨#[]⟩ : ByteArray), .int .i64 0, .sl true 5 []], .row 5 0 (List.map Node.cells s3)]) hB n.kids (fun _ _ _ _ _ _ => ?_) fun _ _ => ?_ <;> repeat' (first | (with_reducible (first | apply ier | apply ie | apply ienr | apply ien | apply be | apply ber | apply oer | apply oe)) <;> try intro _ | ((with_reducible (first | refine alr ?_ fun _ _ _ _ => ?_ | refine al ?_ fun _ _ _ _ => ?_)); exact rfl) | simp -implicitDefEqProofs only [push_cast, seval, *] | simp only [bindO_assoc] | ((first | refine arr (c := Node.cells) fun _ _ _ _ => ?_ | refine ar (c := Node.cells) fun _ _ _ _ => ?_); try simp only [Int.reduceToNat, Int.toNat_natCast] at *))
end Go.Abs.Try
