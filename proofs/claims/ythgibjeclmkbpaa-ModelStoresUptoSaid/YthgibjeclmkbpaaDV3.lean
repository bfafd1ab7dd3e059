import Derived.Test.YthgibjeclmkbpaaDD
set_option linter.unusedSimpArgs false
set_option linter.unusedVariables false
namespace Go.Abs.Try
open Go.RowKit
set_option maxRecDepth 100000
set_option maxHeartbeats 40000000
attribute [local push_cast] F1028_f1 F1028_s1 F1030_f1 F1030_s1 F189_f1 F189_s1 F27_f1 F27_s1 Proofs.Try.f10 Proofs.Try.f11 Proofs.Try.f12 Proofs.Try.f13 Proofs.Try.f18 Proofs.Try.f3 Proofs.Try.f4 Proofs.Try.f5 Proofs.Try.f6 Proofs.Try.f7 Proofs.Try.f8 Proofs.Try.f9 ty2 ty22 ty24 ty26 ty3 ty30 ty32 ty38 ty4 ty40 ty49 ty9
theorem ev11 {E : Env} {E18 : Nat → Env} {N : Nat} (hB : NB N) (hty : E.ty = tys) (heq : E.eqt = eqts) (h0 : E.n0 = 0) (hal : E.ali = noAli) (g11_14 : Tb E 14 (plain (t14 N))) (g11_15 : Tb E 15 (plain (t15))) (g11_16 : Tb E 16 (plain (t16 N))) (g11_17 : Tb E 17 (lensRun 1 [.keep, .keep] (t2000 N))) (g11_18 : Tb E 18 (inl E18 Proofs.Try.f18 H18 N)) (hty18 : ∀ n, (E18 n).ty = tys) (heq18 : ∀ n, (E18 n).eqt = eqts) (h018 : ∀ n, (E18 n).n0 = n) (hal18 : ∀ n, (E18 n).ali = ali18) (g18_34 : TbI E18 34 (cloneT 1 8)) (n : Node) (m : List Entry) (sortq : Int) :
   bindO (aPure E Proofs.Try.f11 H11 N [.agg (Node.cells n), .sl false 7 (List.map Entry.cells m), .int .i64 sortq]) (cv sh11) = bindO (F1031 N n m sortq) fun r => some (v11 r) := by
 unfold F1031
 rw [r_pure]
 repeat' (first | (with_reducible (first | apply ier | apply ie | apply ienr | apply ien | apply be | apply ber | apply oer | apply oe)) <;> try intro _ | ((with_reducible (first | refine alr ?_ fun _ _ _ _ => ?_ | refine al ?_ fun _ _ _ _ => ?_)); exact rfl) | simp -implicitDefEqProofs only [push_cast, seval, *] | simp only [bindO_assoc])
theorem ev8 {E : Env} {N : Nat} (hB : NB N) (hty : E.ty = tys) (heq : E.eqt = eqts) (h0 : E.n0 = 0) (hal : E.ali = noAli) (g8_11 : Tb E 11 (plain (t11 N))) (n : Node) (m : List Entry) :
   bindO (aPure E Proofs.Try.f8 H8 N [.agg (Node.cells n), .sl false 7 (List.map Entry.cells m)]) (cv sh8) = bindO (F1029 N n m) fun r => some (v8 r) := by
 unfold F1029
 rw [r_pure]
 repeat' (first | (with_reducible (first | apply ier | apply ie | apply ienr | apply ien | apply be | apply ber | apply oer | apply oe)) <;> try intro _ | ((with_reducible (first | refine alr ?_ fun _ _ _ _ => ?_ | refine al ?_ fun _ _ _ _ => ?_)); exact rfl) | simp -implicitDefEqProofs only [push_cast, seval, *] | simp only [bindO_assoc])
theorem ev4 {E : Env} {N : Nat} (hB : NB N) (hty : E.ty = tys) (heq : E.eqt = eqts) (h0 : E.n0 = 0) (hal : E.ali = noAli) (g4_8 : Tb E 8 (plain (t8 N)))  :
   bindO (aPure E Proofs.Try.f4 H4 N []) (cv sh4) = bindO (F1027 N) fun r => some (v4 r) := by
 unfold F1027
 rw [r_pure]
 repeat' (first | (with_reducible (first | apply ier | apply ie | apply ienr | apply ien | apply be | apply ber | apply oer | apply oe)) <;> try intro _ | ((with_reducible (first | refine alr ?_ fun _ _ _ _ => ?_ | refine al ?_ fun _ _ _ _ => ?_)); exact rfl) | simp -implicitDefEqProofs only [push_cast, seval, *] | simp only [bindO_assoc])
theorem ev5 {E : Env} {N : Nat} (hB : NB N) (self5 : Node → Option (Int)) (hty : E.ty = tys) (heq : E.eqt = eqts) (h0 : E.n0 = 0) (hal : E.ali = noAli) (g5_5 : Tb E 5 (plain (ts5 self5))) (n : Node) :
   bindO (aPure E Proofs.Try.f5 H5 N [.agg (Node.cells n)]) (cv sh5) = bindO (F28b self5 N n) fun r => some (v5 r) := by
 unfold F28b
 rw [r_pure]
 repeat' (first | (with_reducible (first | apply ier | apply ie | apply ienr | apply ien | apply be | apply ber | apply oer | apply oe)) <;> try intro _ | ((with_reducible (first | refine alr ?_ fun _ _ _ _ => ?_ | refine al ?_ fun _ _ _ _ => ?_)); exact rfl) | simp -implicitDefEqProofs only [push_cast, seval, *] | simp only [bindO_assoc])
theorem ev13 {E : Env} {N : Nat} (hB : NB N) (hty : E.ty = tys) (heq : E.eqt = eqts) (h0 : E.n0 = 0) (hal : E.ali = noAli)  (v : Val) :
   bindO (aPure E Proofs.Try.f13 H13 N [.agg (Val.cells v)]) (cv sh13) = bindO (F1032 v) fun r => some (v13 r) := by
 unfold F1032
 rw [r_pure]
 repeat' (first | (with_reducible (first | apply ier | apply ie | apply ienr | apply ien | apply be | apply ber | apply oer | apply oe)) <;> try intro _ | ((with_reducible (first | refine alr ?_ fun _ _ _ _ => ?_ | refine al ?_ fun _ _ _ _ => ?_)); exact rfl) | simp -implicitDefEqProofs only [push_cast, seval, *] | simp only [bindO_assoc])
theorem ev10 {E : Env} {N : Nat} (hB : NB N) (hty : E.ty = tys) (heq : E.eqt = eqts) (h0 : E.n0 = 0) (hal : E.ali = noAli) (g10_13 : Tb E 13 (plain (t13))) (e : Entry) :
   bindO (aPure E Proofs.Try.f10 H10 N [.agg (Entry.cells e)]) (cv sh10) = bindO (F1030 N e) fun r => some (v10 r) := by
 unfold F1030
 rw [r_pure]
 repeat' (first | (with_reducible (first | apply ier | apply ie | apply ienr | apply ien | apply be | apply ber | apply oer | apply oe)) <;> try intro _ | ((with_reducible (first | refine alr ?_ fun _ _ _ _ => ?_ | refine al ?_ fun _ _ _ _ => ?_)); exact rfl) | simp -implicitDefEqProofs only [push_cast, seval, *] | simp only [bindO_assoc])
 refine fl (S := Unit) Val.cells e.entryArgs (fun (i2 : Nat) (s4 : Unit) => [Z, Z, Z, Z, Z, Z, Z, Z, Z, Z, Z, Z, Z, Z, Z, Z, .sl false 5 (List.map Val.cells e.entryArgs), .int .i64 (e.entryArgs.length : Int), .int .i64 (i2 : Int), Z, Z, Z, Z, Z, Z, Z]) (fun (_ : Nat) (s4 : Unit) => [.var [.str e.entryName, .sl false 5 (List.map Val.cells e.entryArgs), .int .i64 e.entryVal.valSort, .int .i64 e.entryVal.valNum, .sl false 1 (List.map (cI .i64) e.entryVal.valSet), .sl false 1 (List.map (cI .i64) e.entryVal.valAt), .sl false 1 (List.map (cI .i64) e.entryVal.valTo)]]) hB () (fun _ _ _ _ _ _ _ _ => ?_) fun _ _ => ?_ <;> repeat' (first | (with_reducible (first | apply ier | apply ie | apply ienr | apply ien | apply be | apply ber | apply oer | apply oe)) <;> try intro _ | ((with_reducible (first | refine alr ?_ fun _ _ _ _ => ?_ | refine al ?_ fun _ _ _ _ => ?_)); exact rfl) | simp -implicitDefEqProofs only [push_cast, seval, *] | simp only [bindO_assoc])
theorem ev6 {E : Env} {N : Nat} (hB : NB N) (hty : E.ty = tys) (heq : E.eqt = eqts) (h0 : E.n0 = 0) (hal : E.ali = noAli) (g6_10 : Tb E 10 (plain (t10 N))) (m : List Entry) :
   bindO (aPure E Proofs.Try.f6 H6 N [.sl false 7 (List.map Entry.cells m)]) (cv sh6) = bindO (F1028 N m) fun r => some (v6 r) := by
 unfold F1028
 rw [r_pure]
 repeat' (first | (with_reducible (first | apply ier | apply ie | apply ienr | apply ien | apply be | apply ber | apply oer | apply oe)) <;> try intro _ | ((with_reducible (first | refine alr ?_ fun _ _ _ _ => ?_ | refine al ?_ fun _ _ _ _ => ?_)); exact rfl) | simp -implicitDefEqProofs only [push_cast, seval, *] | simp only [bindO_assoc])
 refine fl (S := Unit) Entry.cells m (fun (i1 : Nat) (s3 : Unit) => [Z, Z, Z, Z, Z, Z, Z, Z, .sl false 7 (List.map Entry.cells m), .int .i64 (m.length : Int), .int .i64 (i1 : Int), Z, Z, Z, Z, Z, Z, Z]) (fun (_ : Nat) (s3 : Unit) => []) hB () (fun _ _ _ _ _ _ _ _ => ?_) fun _ _ => ?_ <;> repeat' (first | (with_reducible (first | apply ier | apply ie | apply ienr | apply ien | apply be | apply ber | apply oer | apply oe)) <;> try intro _ | ((with_reducible (first | refine alr ?_ fun _ _ _ _ => ?_ | refine al ?_ fun _ _ _ _ => ?_)); exact rfl) | simp -implicitDefEqProofs only [push_cast, seval, *] | simp only [bindO_assoc])
theorem ev7 {E : Env} {N : Nat} (hB : NB N) (self7 : Node → Option (Int)) (hty : E.ty = tys) (heq : E.eqt = eqts) (h0 : E.n0 = 0) (hal : E.ali = noAli) (g7_7 : Tb E 7 (plain (ts7 self7))) (n : Node) :
   bindO (aPure E Proofs.Try.f7 H7 N [.agg (Node.cells n)]) (cv sh7) = bindO (F27b self7 N n) fun r => some (v7 r) := by
 unfold F27b
 rw [r_pure]
 repeat' (first | (with_reducible (first | apply ier | apply ie | apply ienr | apply ien | apply be | apply ber | apply oer | apply oe)) <;> try intro _ | ((with_reducible (first | refine alr ?_ fun _ _ _ _ => ?_ | refine al ?_ fun _ _ _ _ => ?_)); exact rfl) | simp -implicitDefEqProofs only [push_cast, seval, *] | simp only [bindO_assoc])
 refine fl (S := Int) Node.cells n.kids (fun (i1 : Nat) (s3 : Int) => [Z, Z, Z, .int .i64 s3, Z, Z, Z, .sl false 5 (List.map Node.cells n.kids), .int .i64 (n.kids.length : Int), .int .i64 (i1 : Int), Z, Z, Z, Z, Z, Z, Z, Z, Z]) (fun (_ : Nat) (s3 : Int) => [.var [.int .i64 n.op, .int .i64 n.sortf, .str n.name, .int .i64 n.num, .sl false 5 (List.map Node.cells n.kids)]]) hB 1 (fun _ _ _ _ _ _ _ _ => ?_) fun _ _ => ?_ <;> repeat' (first | (with_reducible (first | apply ier | apply ie | apply ienr | apply ien | apply be | apply ber | apply oer | apply oe)) <;> try intro _ | ((with_reducible (first | refine alr ?_ fun _ _ _ _ => ?_ | refine al ?_ fun _ _ _ _ => ?_)); exact rfl) | simp -implicitDefEqProofs only [push_cast, seval, *] | simp only [bindO_assoc])
theorem ev12 {E : Env} {N : Nat} (hB : NB N) (hty : E.ty = tys) (heq : E.eqt = eqts) (h0 : E.n0 = 0) (hal : E.ali = noAli)  (a : List Int) (b : List Int) :
   bindO (aPure E Proofs.Try.f12 H12 N [.sl false 1 (List.map (cI .i64) a), .sl false 1 (List.map (cI .i64) b)]) (cv sh12) = bindO (F189 N a b) fun r => some (v12 r) := by
 unfold F189
 rw [r_pure]
 repeat' (first | (with_reducible (first | apply ier | apply ie | apply ienr | apply ien | apply be | apply ber | apply oer | apply oe)) <;> try intro _ | ((with_reducible (first | refine alr ?_ fun _ _ _ _ => ?_ | refine al ?_ fun _ _ _ _ => ?_)); exact rfl) | simp -implicitDefEqProofs only [push_cast, seval, *] | simp only [bindO_assoc])
 refine fl (S := Unit) (cI .i64) a (fun (i1 : Nat) (s3 : Unit) => [.sl false 1 (List.map (cI .i64) a), .sl false 1 (List.map (cI .i64) b), Z, Z, Z, Z, Z, Z, Z, Z, Z, Z, .int .i64 (a.length : Int), .int .i64 (i1 : Int), Z, Z, Z, Z, Z, Z, Z, Z, Z, Z, Z, Z]) (fun (_ : Nat) (s3 : Unit) => []) hB () (fun _ _ _ _ _ _ _ _ => ?_) fun _ _ => ?_ <;> repeat' (first | (with_reducible (first | apply ier | apply ie | apply ienr | apply ien | apply be | apply ber | apply oer | apply oe)) <;> try intro _ | ((with_reducible (first | refine alr ?_ fun _ _ _ _ => ?_ | refine al ?_ fun _ _ _ _ => ?_)); exact rfl) | simp -implicitDefEqProofs only [push_cast, seval, *] | simp only [bindO_assoc])
theorem ev9 {E : Env} {N : Nat} (hB : NB N) (hty : E.ty = tys) (heq : E.eqt = eqts) (h0 : E.n0 = 0) (hal : E.ali = noAli) (g9_12 : Tb E 12 (plain (t12 N))) (a : Val) (b : Val) :
   bindO (aPure E Proofs.Try.f9 H9 N [.agg (Val.cells a), .agg (Val.cells b)]) (cv sh9) = bindO (F183 N a b) fun r => some (v9 r) := by
 unfold F183
 rw [r_pure]
 repeat' (first | (with_reducible (first | apply ier | apply ie | apply ienr | apply ien | apply be | apply ber | apply oer | apply oe)) <;> try intro _ | ((with_reducible (first | refine alr ?_ fun _ _ _ _ => ?_ | refine al ?_ fun _ _ _ _ => ?_)); exact rfl) | simp -implicitDefEqProofs only [push_cast, seval, *] | simp only [bindO_assoc])
theorem ev3 {E : Env} {N : Nat} (hB : NB N) (hty : E.ty = tys) (heq : E.eqt = eqts) (h0 : E.n0 = 0) (hal : E.ali = noAli) (g3_4 : Tb E 4 (plain (t4 N))) (g3_5 : Tb E 5 (plain (t5 N))) (g3_6 : Tb E 6 (plain (t6 N))) (g3_7 : Tb E 7 (plain (t7 N))) (g3_8 : Tb E 8 (plain (t8 N))) (g3_9 : Tb E 9 (plain (t9 N))) (a : Node) (i : Node) (j : Node) (x : Node) (m : List Entry) :
   bindO (aPure E Proofs.Try.f3 H3 N [.agg (Node.cells a), .agg (Node.cells i), .agg (Node.cells j), .agg (Node.cells x), .sl false 7 (List.map Entry.cells m)]) (cv sh3) = bindO (F1026 N a i j x m) fun r => some (v3 r) := by
 unfold F1026
 rw [r_pure]
 repeat' (first | (with_reducible (first | apply ier | apply ie | apply ienr | apply ien | apply be | apply ber | apply oer | apply oe)) <;> try intro _ | ((with_reducible (first | refine alr ?_ fun _ _ _ _ => ?_ | refine al ?_ fun _ _ _ _ => ?_)); exact rfl) | simp -implicitDefEqProofs only [push_cast, seval, *] | simp only [bindO_assoc])
end Go.Abs.Try
