import Derived.Test.YtjjajifecniidaaGreatRD
set_option linter.unusedSimpArgs false
set_option linter.unusedVariables false
namespace Go.Abs.Try
open Go.RowKit
set_option maxRecDepth 100000
set_option maxHeartbeats 4000000
attribute [local push_cast] F1012_f1 F1012_s1 F1017_f1 F1017_s1 F131_f1 F131_s1 F135_f1 F135_s1 F143_f1 F143_s1 F83_f2 F83_s2 Proofs.Tryz.f104 Proofs.Tryz.f105 Proofs.Tryz.f106 Proofs.Tryz.f107 Proofs.Tryz.f25 Proofs.Tryz.f31 Proofs.Tryz.f45 Proofs.Tryz.f70 Proofs.Tryz.f71 Proofs.Tryz.f72 Proofs.Tryz.f73 Proofs.Tryz.f74 Proofs.Tryz.f75 ty111 ty2 ty22 ty23 ty28 ty3 ty30 ty32 ty39 ty4 ty41 ty50 ty52 ty54 ty79 ty9 ty95
theorem ev31 {E : Env} {N : Nat} (hB : NB N) (self31 : Deriv → Option (Int)) (hty : E.ty = tys) (heq : E.eqt = eqts) (h0 : E.n0 = 0) (hal : E.ali = noAli) (g31_31 : Tb E 31 (plain (ts31 self31))) (d : Deriv) :
   bindO (aPure E Proofs.Tryz.f31 H31 N [.agg (Deriv.cells d)]) (cv sh31) = bindO (F1017b self31 N d) fun r => some (v31 r) := by
 unfold F1017b
 rw [r_pure]
 repeat' (first | (with_reducible (first | apply ier | apply ie | apply ienr | apply ien | apply be | apply ber | apply oer | apply oe)) <;> try intro _ | ((with_reducible (first | refine alr ?_ fun _ _ _ _ => ?_ | refine al ?_ fun _ _ _ _ => ?_)); exact rfl) | simp -implicitDefEqProofs only [push_cast, seval, *] | simp only [bindO_assoc])
 refine fl (S := Int) Deriv.cells d.derivKids (fun (i1 : Nat) (s3 : Int) => [Z, Z, Z, .int .i64 s3, Z, Z, Z, .sl false 5 (List.map Deriv.cells d.derivKids), .int .i64 (d.derivKids.length : Int), .int .i64 (i1 : Int), Z, Z, Z, Z, Z, Z, Z, Z, Z, Z]) (fun (_ : Nat) (s3 : Int) => [.var [.sl false 1 (List.map (cL 2 Mult.cells) d.derivSteps), .bool d.derivSplit, .sl false 6 (List.map Mono.cells d.derivForm.linMonos), .int .i64 d.derivForm.linConst, .sl false 5 (List.map Deriv.cells d.derivKids)]]) hB 0 (fun _ _ _ _ _ _ _ _ => ?_) fun _ _ => ?_ <;> repeat' (first | (with_reducible (first | apply ier | apply ie | apply ienr | apply ien | apply be | apply ber | apply oer | apply oe)) <;> try intro _ | ((with_reducible (first | refine alr ?_ fun _ _ _ _ => ?_ | refine al ?_ fun _ _ _ _ => ?_)); exact rfl) | simp -implicitDefEqProofs only [push_cast, seval, *] | simp only [bindO_assoc])
theorem ev25 {E : Env} {N : Nat} (hB : NB N) (hty : E.ty = tys) (heq : E.eqt = eqts) (h0 : E.n0 = 0) (hal : E.ali = noAli)  (cons : List Con) (s : List Mult) :
   bindO (aPure E Proofs.Tryz.f25 H25 N [.sl false 3 (List.map Con.cells cons), .sl false 2 (List.map Mult.cells s)]) (cv sh25) = bindO (F1012 N cons s) fun r => some (v25 r) := by
 unfold F1012
 rw [r_pure]
 repeat' (first | (with_reducible (first | apply ier | apply ie | apply ienr | apply ien | apply be | apply ber | apply oer | apply oe)) <;> try intro _ | ((with_reducible (first | refine alr ?_ fun _ _ _ _ => ?_ | refine al ?_ fun _ _ _ _ => ?_)); exact rfl) | simp -implicitDefEqProofs only [push_cast, seval, *] | simp only [bindO_assoc])
 refine fl (S := Unit) Mult.cells s (fun (i1 : Nat) (s3 : Unit) => [.sl false 3 (List.map Con.cells cons), .sl false 2 (List.map Mult.cells s), Z, Z, Z, Z, Z, .sl false 2 (List.map Mult.cells s), .int .i64 (s.length : Int), .int .i64 (i1 : Int), Z, Z, Z, Z, Z, Z, Z, Z, Z, Z, Z, Z, Z, Z, Z, Z, Z, Z, Z, Z, Z, Z, Z, Z, Z, Z, Z, Z, Z, Z, Z, Z, Z, Z, Z, Z]) (fun (_ : Nat) (s3 : Unit) => []) hB () (fun _ _ _ _ _ _ _ _ => ?_) fun _ _ => ?_ <;> repeat' (first | (with_reducible (first | apply ier | apply ie | apply ienr | apply ien | apply be | apply ber | apply oer | apply oe)) <;> try intro _ | ((with_reducible (first | refine alr ?_ fun _ _ _ _ => ?_ | refine al ?_ fun _ _ _ _ => ?_)); exact rfl) | simp -implicitDefEqProofs only [push_cast, seval, *] | simp only [bindO_assoc])
theorem ev104 {E : Env} {N : Nat} (hB : NB N) (hty : E.ty = tys) (heq : E.eqt = eqts) (h0 : E.n0 = 0) (hal : E.ali = noAli) (g104_78 : Tb E 78 (plain (t78 N))) (l : List Node) (n : Node) :
   bindO (aPure E Proofs.Tryz.f104 H104 N [.sl false 5 (List.map Node.cells l), .agg (Node.cells n)]) (cv sh104) = bindO (F143 N l n) fun r => some (v104 r) := by
 unfold F143
 rw [r_pure]
 repeat' (first | (with_reducible (first | apply ier | apply ie | apply ienr | apply ien | apply be | apply ber | apply oer | apply oe)) <;> try intro _ | ((with_reducible (first | refine alr ?_ fun _ _ _ _ => ?_ | refine al ?_ fun _ _ _ _ => ?_)); exact rfl) | simp -implicitDefEqProofs only [push_cast, seval, *] | simp only [bindO_assoc])
 refine fl (S := (List Node) × Bool) Node.cells l (fun (i1 : Nat) (s3 : (List Node) × Bool) => [Z, Z, Z, .ptr 0 0, Z, .rs 2 0, .bool s3.2, Z, Z, Z, .sl false 5 (List.map Node.cells l), .int .i64 (l.length : Int), .int .i64 (i1 : Int), Z, Z, Z, Z, Z, Z, Z, Z, Z, Z, Z, Z, Z, Z, Z, Z, Z, Z, Z, Z, Z, Z, Z, Z, Z, Z, Z, Z, Z, Z]) (fun (_ : Nat) (s3 : (List Node) × Bool) => [.var [.int .i64 n.op, .int .i64 n.sortf, .str n.name, .int .i64 n.num, .sl false 5 (List.map Node.cells n.kids)], .row 5 0 [], .row 5 0 (List.map Node.cells s3.1)]) hB ([], false) (fun _ _ _ _ _ _ _ _ => ?_) fun _ _ => ?_ <;> repeat' (first | (with_reducible (first | apply ier | apply ie | apply ienr | apply ien | apply be | apply ber | apply oer | apply oe)) <;> try intro _ | ((with_reducible (first | refine alr ?_ fun _ _ _ _ => ?_ | refine al ?_ fun _ _ _ _ => ?_)); exact rfl) | simp -implicitDefEqProofs only [push_cast, seval, *] | simp only [bindO_assoc])
theorem ev70 {E : Env} {N : Nat} (hB : NB N) (hty : E.ty = tys) (heq : E.eqt = eqts) (h0 : E.n0 = 0) (hal : E.ali = noAli) (g70_104 : Tb E 104 (plain (t104 N))) (l : List Node) (f : Lin) :
   bindO (aPure E Proofs.Tryz.f70 H70 N [.sl false 5 (List.map Node.cells l), .agg (Lin.cells f)]) (cv sh70) = bindO (F131 N l f) fun r => some (v70 r) := by
 unfold F131
 rw [r_pure]
 repeat' (first | (with_reducible (first | apply ier | apply ie | apply ienr | apply ien | apply be | apply ber | apply oer | apply oe)) <;> try intro _ | ((with_reducible (first | refine alr ?_ fun _ _ _ _ => ?_ | refine al ?_ fun _ _ _ _ => ?_)); exact rfl) | simp -implicitDefEqProofs only [push_cast, seval, *] | simp only [bindO_assoc])
 refine fl (S := List Node) Mono.cells f.linMonos (fun (i1 : Nat) (s3 : List Node) => [.sl false 5 (List.map Node.cells s3), Z, Z, Z, Z, Z, Z, Z, .sl false 6 (List.map Mono.cells f.linMonos), .int .i64 (f.linMonos.length : Int), .int .i64 (i1 : Int), Z, Z, Z, Z, Z, Z, Z, Z, Z]) (fun (_ : Nat) (s3 : List Node) => [.var [.sl false 6 (List.map Mono.cells f.linMonos), .int .i64 f.linConst], .row 5 0 []]) hB l (fun _ _ _ _ _ _ _ _ => ?_) fun _ _ => ?_ <;> repeat' (first | (with_reducible (first | apply ier | apply ie | apply ienr | apply ien | apply be | apply ber | apply oer | apply oe)) <;> try intro _ | ((with_reducible (first | refine alr ?_ fun _ _ _ _ => ?_ | refine al ?_ fun _ _ _ _ => ?_)); exact rfl) | simp -implicitDefEqProofs only [push_cast, seval, *] | simp only [bindO_assoc])
theorem ev107 {E : Env} {N : Nat} (hB : NB N) (hty : E.ty = tys) (heq : E.eqt = eqts) (h0 : E.n0 = 0) (hal : E.ali = noAli)  (n : Int) :
   bindO (aPure E Proofs.Tryz.f107 H107 N [.int .i64 n]) (cv sh107) = bindO (F165 n) fun r => some (v107 r) := by
 unfold F165
 rw [r_pure]
 repeat' (first | (with_reducible (first | apply ier | apply ie | apply ienr | apply ien | apply be | apply ber | apply oer | apply oe)) <;> try intro _ | ((with_reducible (first | refine alr ?_ fun _ _ _ _ => ?_ | refine al ?_ fun _ _ _ _ => ?_)); exact rfl) | simp -implicitDefEqProofs only [push_cast, seval, *] | simp only [bindO_assoc])
theorem ev72 {E : Env} {N : Nat} (hB : NB N) (hty : E.ty = tys) (heq : E.eqt = eqts) (h0 : E.n0 = 0) (hal : E.ali = noAli) (g72_107 : Tb E 107 (plain (t107))) (a : Int) (b : Int) :
   bindO (aPure E Proofs.Tryz.f72 H72 N [.int .i64 a, .int .i64 b]) (cv sh72) = bindO (F133 a b) fun r => some (v72 r) := by
 unfold F133
 rw [r_pure]
 repeat' (first | (with_reducible (first | apply ier | apply ie | apply ienr | apply ien | apply be | apply ber | apply oer | apply oe)) <;> try intro _ | ((with_reducible (first | refine alr ?_ fun _ _ _ _ => ?_ | refine al ?_ fun _ _ _ _ => ?_)); exact rfl) | simp -implicitDefEqProofs only [push_cast, seval, *] | simp only [bindO_assoc])
theorem ev105 {E : Env} {N : Nat} (hB : NB N) (hty : E.ty = tys) (heq : E.eqt = eqts) (h0 : E.n0 = 0) (hal : E.ali = noAli)  (a : Quantaleref04Wide) (b : Quantaleref04Wide) :
   bindO (aPure E Proofs.Tryz.f105 H105 N [.agg (Quantaleref04Wide.cells a), .agg (Quantaleref04Wide.cells b)]) (cv sh105) = bindO (F163 a b) fun r => some (v105 r) := by
 unfold F163
 rw [r_pure]
 repeat' (first | (with_reducible (first | apply ier | apply ie | apply ienr | apply ien | apply be | apply ber | apply oer | apply oe)) <;> try intro _ | ((with_reducible (first | refine alr ?_ fun _ _ _ _ => ?_ | refine al ?_ fun _ _ _ _ => ?_)); exact rfl) | simp -implicitDefEqProofs only [push_cast, seval, *] | simp only [bindO_assoc])
theorem ev106 {E : Env} {N : Nat} (hB : NB N) (hty : E.ty = tys) (heq : E.eqt = eqts) (h0 : E.n0 = 0) (hal : E.ali = noAli)  (a : Quantaleref04Wide) (b : Quantaleref04Wide) :
   bindO (aPure E Proofs.Tryz.f106 H106 N [.agg (Quantaleref04Wide.cells a), .agg (Quantaleref04Wide.cells b)]) (cv sh106) = bindO (F164 a b) fun r => some (v106 r) := by
 unfold F164
 rw [r_pure]
 repeat' (first | (with_reducible (first | apply ier | apply ie | apply ienr | apply ien | apply be | apply ber | apply oer | apply oe)) <;> try intro _ | ((with_reducible (first | refine alr ?_ fun _ _ _ _ => ?_ | refine al ?_ fun _ _ _ _ => ?_)); exact rfl) | simp -implicitDefEqProofs only [push_cast, seval, *] | simp only [bindO_assoc])
theorem ev71 {E : Env} {N : Nat} (hB : NB N) (hty : E.ty = tys) (heq : E.eqt = eqts) (h0 : E.n0 = 0) (hal : E.ali = noAli) (g71_105 : Tb E 105 (plain (t105))) (g71_106 : Tb E 106 (plain (t106))) (a : Quantaleref04Wide) (b : Quantaleref04Wide) :
   bindO (aPure E Proofs.Tryz.f71 H71 N [.agg (Quantaleref04Wide.cells a), .agg (Quantaleref04Wide.cells b)]) (cv sh71) = bindO (F132 a b) fun r => some (v71 r) := by
 unfold F132
 rw [r_pure]
 repeat' (first | (with_reducible (first | apply ier | apply ie | apply ienr | apply ien | apply be | apply ber | apply oer | apply oe)) <;> try intro _ | ((with_reducible (first | refine alr ?_ fun _ _ _ _ => ?_ | refine al ?_ fun _ _ _ _ => ?_)); exact rfl) | simp -implicitDefEqProofs only [push_cast, seval, *] | simp only [bindO_assoc])
theorem ev73 {E : Env} {N : Nat} (hB : NB N) (hty : E.ty = tys) (heq : E.eqt = eqts) (h0 : E.n0 = 0) (hal : E.ali = noAli)  (a : Quantaleref04Wide) :
   bindO (aPure E Proofs.Tryz.f73 H73 N [.agg (Quantaleref04Wide.cells a)]) (cv sh73) = bindO (F134 a) fun r => some (v73 r) := by
 unfold F134
 rw [r_pure]
 repeat' (first | (with_reducible (first | apply ier | apply ie | apply ienr | apply ien | apply be | apply ber | apply oer | apply oe)) <;> try intro _ | ((with_reducible (first | refine alr ?_ fun _ _ _ _ => ?_ | refine al ?_ fun _ _ _ _ => ?_)); exact rfl) | simp -implicitDefEqProofs only [push_cast, seval, *] | simp only [bindO_assoc])
theorem ev45 {E : Env} {N : Nat} (hB : NB N) (hty : E.ty = tys) (heq : E.eqt = eqts) (h0 : E.n0 = 0) (hal : E.ali = noAli) (g45_78 : Tb E 78 (plain (t78 N))) (a : Node) (b : Node) :
   bindO (aPure E Proofs.Tryz.f45 H45 N [.agg (Node.cells a), .agg (Node.cells b)]) (cv sh45) = bindO (F21 N a b) fun r => some (v45 r) := by
 unfold F21
 rw [r_pure]
 repeat' (first | (with_reducible (first | apply ier | apply ie | apply ienr | apply ien | apply be | apply ber | apply oer | apply oe)) <;> try intro _ | ((with_reducible (first | refine alr ?_ fun _ _ _ _ => ?_ | refine al ?_ fun _ _ _ _ => ?_)); exact rfl) | simp -implicitDefEqProofs only [push_cast, seval, *] | simp only [bindO_assoc])
theorem ev74 {E : Env} {N : Nat} (hB : NB N) (hty : E.ty = tys) (heq : E.eqt = eqts) (h0 : E.n0 = 0) (hal : E.ali = noAli) (g74_45 : Tb E 45 (plain (t45 N))) (f : Lin) (atom : Node) :
   bindO (aPure E Proofs.Tryz.f74 H74 N [.agg (Lin.cells f), .agg (Node.cells atom)]) (cv sh74) = bindO (F135 N f atom) fun r => some (v74 r) := by
 unfold F135
 rw [r_pure]
 repeat' (first | (with_reducible (first | apply ier | apply ie | apply ienr | apply ien | apply be | apply ber | apply oer | apply oe)) <;> try intro _ | ((with_reducible (first | refine alr ?_ fun _ _ _ _ => ?_ | refine al ?_ fun _ _ _ _ => ?_)); exact rfl) | simp -implicitDefEqProofs only [push_cast, seval, *] | simp only [bindO_assoc])
 refine fl (S := Unit) Mono.cells f.linMonos (fun (i1 : Nat) (s3 : Unit) => [Z, Z, Z, .ptr 1 0, Z, Z, Z, Z, .sl false 6 (List.map Mono.cells f.linMonos), .int .i64 (f.linMonos.length : Int), .int .i64 (i1 : Int), Z, Z, Z, Z, Z, Z, Z, Z, Z, Z]) (fun (_ : Nat) (s3 : Unit) => [.var [.sl false 6 (List.map Mono.cells f.linMonos), .int .i64 f.linConst], .var [.int .i64 atom.op, .int .i64 atom.sortf, .str atom.name, .int .i64 atom.num, .sl false 5 (List.map Node.cells atom.kids)]]) hB () (fun _ _ _ _ _ _ _ _ => ?_) fun _ _ => ?_ <;> repeat' (first | (with_reducible (first | apply ier | apply ie | apply ienr | apply ien | apply be | apply ber | apply oer | apply oe)) <;> try intro _ | ((with_reducible (first | refine alr ?_ fun _ _ _ _ => ?_ | refine al ?_ fun _ _ _ _ => ?_)); exact rfl) | simp -implicitDefEqProofs only [push_cast, seval, *] | simp only [bindO_assoc])
theorem ev75 {E : Env} {N : Nat} (hB : NB N) (self75 : Node → Option (Node)) (hty : E.ty = tys) (heq : E.eqt = eqts) (h0 : E.n0 = 0) (hal : E.ali = noAli) (g75_75 : Tb E 75 (plain (ts75 self75))) (n : Node) :
   bindO (aPure E Proofs.Tryz.f75 H75 N [.agg (Node.cells n)]) (cv sh75) = bindO (F83b self75 N n) fun r => some (v75 r) := by
 unfold F83b
 rw [r_pure]
 repeat' (first | (with_reducible (first | apply ier | apply ie | apply ienr | apply ien | apply be | apply ber | apply oer | apply oe)) <;> try intro _ | ((with_reducible (first | refine alr ?_ fun _ _ _ _ => ?_ | refine al ?_ fun _ _ _ _ => ?_)); exact rfl) | simp -implicitDefEqProofs only [push_cast, seval, *] | simp only [bindO_assoc])
 refine fl (S := List Node) Node.cells n.kids (fun (i4 : Nat) (s6 : List Node) => [Z, Z, .ptr 1 0, .ptr 2 0, Z, Z, Z, Z, Z, Z, Z, Z, Z, Z, Z, Z, Z, .sl false 5 (List.map Node.cells n.kids), .int .i64 (n.kids.length : Int), .int .i64 (i4 : Int), Z, Z, Z, Z, Z, Z, Z, Z, Z, Z, Z, Z, Z]) (fun (_ : Nat) (s6 : List Node) => [.var [.int .i64 n.op, .int .i64 n.sortf, .str n.name, .int .i64 n.num, .sl false 5 (List.map Node.cells n.kids)], .var [.int .i64 0, .int .i64 0, .str (⟨#[]⟩ : ByteArray), .int .i64 0, .sl true 5 []], .var [.int .i64 n.op, .int .i64 n.sortf, .str n.name, .int .i64 n.num, .rs 3 0], .row 5 0 (List.map Node.cells s6)]) hB ([]) (fun _ _ _ _ _ _ _ _ => ?_) fun _ _ => ?_ <;> repeat' (first | (with_reducible (first | apply ier | apply ie | apply ienr | apply ien | apply be | apply ber | apply oer | apply oe)) <;> try intro _ | ((with_reducible (first | refine alr ?_ fun _ _ _ _ => ?_ | refine al ?_ fun _ _ _ _ => ?_)); exact rfl) | simp -implicitDefEqProofs only [push_cast, seval, *] | simp only [bindO_assoc])
end Go.Abs.Try
