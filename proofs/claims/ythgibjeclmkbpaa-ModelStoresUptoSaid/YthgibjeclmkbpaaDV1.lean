import Derived.Test.YthgibjeclmkbpaaDD
set_option linter.unusedSimpArgs false
set_option linter.unusedVariables false
namespace Go.Abs.Try
open Go.RowKit
set_option maxRecDepth 100000
set_option maxHeartbeats 40000000
attribute [local push_cast] F1036_f1 F1036_s1 F1037_f1 F1037_s1 F1047_f1 F1047_s1 F1053_s1 F1060_f1 F1060_s1 F1062_f1 F1062_s1 F42_f1 F42_s1 Proofs.Try.f15 Proofs.Try.f24 Proofs.Try.f25 Proofs.Try.f42 Proofs.Try.f43 Proofs.Try.f44 Proofs.Try.f45 Proofs.Try.f46 Proofs.Try.f47 Proofs.Try.f48 Proofs.Try.f60 Proofs.Try.f61 Proofs.Try.f62 Proofs.Try.f63 Proofs.Try.f64 Proofs.Try.f70 ty2 ty24 ty3 ty30 ty32 ty38 ty4 ty40 ty87 ty9
theorem ev15 {E : Env} {N : Nat} (hB : NB N) (hty : E.ty = tys) (heq : E.eqt = eqts) (h0 : E.n0 = 0) (hal : E.ali = noAli) (g15_23 : Tb E 23 (plain (t23))) (q15_39 : ∀ cs, E.seq (.fn 39 cs) = sq39 cs) (n : Node) :
   bindO (aPure E Proofs.Try.f15 H15 N [.agg (Node.cells n)]) (cv sh15) = bindO (F42 n) fun r => some (v15 r) := by
 unfold F42
 rw [r_pure]
 repeat' (first | (with_reducible (first | apply ier | apply ie | apply ienr | apply ien | apply be | apply ber | apply oer | apply oe)) <;> try intro _ | ((with_reducible (first | refine alr ?_ fun _ _ _ _ => ?_ | refine al ?_ fun _ _ _ _ => ?_)); exact rfl) | simp -implicitDefEqProofs only [push_cast, seval, *] | simp only [bindO_assoc])
 rename_i l1; refine rl (S := Unit) e39 (fun (s3 : Unit) => [.var [.int .i64 n.op, .int .i64 n.sortf, .str n.name, .int .i64 n.num, .sl false 5 (List.map Node.cells n.kids)], .var [.bool false]]) l1 () (fun _ _ => ?_) (fun _ => ?_) <;> repeat' (first | (with_reducible (first | apply ier | apply ie | apply ienr | apply ien | apply be | apply ber | apply oer | apply oe)) <;> try intro _ | ((with_reducible (first | refine alr ?_ fun _ _ _ _ => ?_ | refine al ?_ fun _ _ _ _ => ?_)); exact rfl) | simp -implicitDefEqProofs only [push_cast, seval, *] | simp only [bindO_assoc])
theorem ev60 {E : Env} {N : Nat} (hB : NB N) (hty : E.ty = tys) (heq : E.eqt = eqts) (h0 : E.n0 = 0) (hal : E.ali = noAli)  (l : List Int) :
   bindO (aPure E Proofs.Try.f60 H60 N [.sl false 1 (List.map (cI .i64) l)]) (cv sh60) = bindO (F1060 N l) fun r => some (v60 r) := by
 unfold F1060
 rw [r_pure]
 repeat' (first | (with_reducible (first | apply ier | apply ie | apply ienr | apply ien | apply be | apply ber | apply oer | apply oe)) <;> try intro _ | ((with_reducible (first | refine alr ?_ fun _ _ _ _ => ?_ | refine al ?_ fun _ _ _ _ => ?_)); exact rfl) | simp -implicitDefEqProofs only [push_cast, seval, *] | simp only [bindO_assoc])
 refine fl (S := Unit) (cI .i64) l (fun (i1 : Nat) (s3 : Unit) => [.sl false 1 (List.map (cI .i64) l), Z, Z, Z, Z, .sl false 1 (List.map (cI .i64) l), .int .i64 (l.length : Int), .int .i64 (i1 : Int), Z, Z, Z, Z, Z, Z, Z, Z, Z, Z, Z, Z, Z, Z, Z, Z, Z, Z, Z, Z, Z, Z, Z, Z, Z, Z, Z]) (fun (_ : Nat) (s3 : Unit) => []) hB () (fun _ _ _ _ _ _ _ _ => ?_) fun _ _ => ?_ <;> repeat' (first | (with_reducible (first | apply ier | apply ie | apply ienr | apply ien | apply be | apply ber | apply oer | apply oe)) <;> try intro _ | ((with_reducible (first | refine alr ?_ fun _ _ _ _ => ?_ | refine al ?_ fun _ _ _ _ => ?_)); exact rfl) | simp -implicitDefEqProofs only [push_cast, seval, *] | simp only [bindO_assoc])
theorem ev42 {E : Env} {N : Nat} (hB : NB N) (hty : E.ty = tys) (heq : E.eqt = eqts) (h0 : E.n0 = 0) (hal : E.ali = noAli) (g42_60 : Tb E 60 (plain (t60 N))) (v : Val) :
   bindO (aPure E Proofs.Try.f42 H42 N [.agg (Val.cells v)]) (cv sh42) = bindO (F1047 N v) fun r => some (v42 r) := by
 unfold F1047
 rw [r_pure]
 repeat' (first | (with_reducible (first | apply ier | apply ie | apply ienr | apply ien | apply be | apply ber | apply oer | apply oe)) <;> try intro _ | ((with_reducible (first | refine alr ?_ fun _ _ _ _ => ?_ | refine al ?_ fun _ _ _ _ => ?_)); exact rfl) | simp -implicitDefEqProofs only [push_cast, seval, *] | simp only [bindO_assoc])
 refine fl (S := Unit) (cI .i64) v.valTo (fun (i2 : Nat) (s4 : Unit) => [Z, Z, Z, Z, Z, Z, Z, Z, Z, Z, Z, Z, Z, Z, Z, Z, Z, Z, Z, Z, Z, Z, Z, Z, Z, Z, Z, Z, Z, Z, Z, Z, Z, Z, Z, Z, Z, Z, Z, Z, Z, Z, Z, Z, Z, Z, Z, Z, Z, Z, Z, Z, Z, Z, Z, Z, Z, Z, Z, Z, Z, Z, Z, Z, Z, Z, Z, Z, Z, Z, Z, Z, Z, Z, Z, Z, Z, Z, Z, Z, Z, Z, Z, Z, Z, .sl false 1 (List.map (cI .i64) v.valTo), .int .i64 (v.valTo.length : Int), .int .i64 (i2 : Int), Z, Z, Z, Z, Z, Z, Z, Z, Z, Z, Z, Z, Z, Z]) (fun (_ : Nat) (s4 : Unit) => [.var [.int .i64 v.valSort, .int .i64 v.valNum, .sl false 1 (List.map (cI .i64) v.valSet), .sl false 1 (List.map (cI .i64) v.valAt), .sl false 1 (List.map (cI .i64) v.valTo)]]) hB () (fun _ _ _ _ _ _ _ _ => ?_) fun _ _ => ?_ <;> repeat' (first | (with_reducible (first | apply ier | apply ie | apply ienr | apply ien | apply be | apply ber | apply oer | apply oe)) <;> try intro _ | ((with_reducible (first | refine alr ?_ fun _ _ _ _ => ?_ | refine al ?_ fun _ _ _ _ => ?_)); exact rfl) | simp -implicitDefEqProofs only [push_cast, seval, *] | simp only [bindO_assoc])
theorem ev44 {E : Env} {N : Nat} (hB : NB N) (hty : E.ty = tys) (heq : E.eqt = eqts) (h0 : E.n0 = 0) (hal : E.ali = noAli) (g44_42 : Tb E 42 (plain (t42 N))) (v : Val) :
   bindO (aPure E Proofs.Try.f44 H44 N [.agg (Val.cells v)]) (cv sh44) = bindO (F1049 N v) fun r => some (v44 r) := by
 unfold F1049
 rw [r_pure]
 repeat' (first | (with_reducible (first | apply ier | apply ie | apply ienr | apply ien | apply be | apply ber | apply oer | apply oe)) <;> try intro _ | ((with_reducible (first | refine alr ?_ fun _ _ _ _ => ?_ | refine al ?_ fun _ _ _ _ => ?_)); exact rfl) | simp -implicitDefEqProofs only [push_cast, seval, *] | simp only [bindO_assoc])
theorem ev24 {E : Env} {E43 E61 : Nat → Env} {N : Nat} (hB : NB N) (hty : E.ty = tys) (heq : E.eqt = eqts) (h0 : E.n0 = 0) (hal : E.ali = noAli) (g24_41 : Tb E 41 (plain (t41 N))) (g24_42 : Tb E 42 (plain (t42 N))) (g24_43 : Tb E 43 (inl E43 Proofs.Try.f43 H43 N)) (hty43 : ∀ n, (E43 n).ty = tys) (heq43 : ∀ n, (E43 n).eqt = eqts) (h043 : ∀ n, (E43 n).n0 = n) (hal43 : ∀ n, (E43 n).ali = noAli) (g43_61 : TbI E43 61 (inl E61 Proofs.Try.f61 H61 N)) (hty61 : ∀ n, (E61 n).ty = tys) (heq61 : ∀ n, (E61 n).eqt = eqts) (h061 : ∀ n, (E61 n).n0 = n) (hal61 : ∀ n, (E61 n).ali = noAli) (g61_44 : TbI E61 44 (plain (t44 N))) (e : Entry) :
   bindO (aPure E Proofs.Try.f24 H24 N [.agg (Entry.cells e)]) (cv sh24) = bindO (F1036 N e) fun r => some (v24 r) := by
 unfold F1036
 rw [r_pure]
 repeat' (first | (with_reducible (first | apply ier | apply ie | apply ienr | apply ien | apply be | apply ber | apply oer | apply oe)) <;> try intro _ | ((with_reducible (first | refine alr ?_ fun _ _ _ _ => ?_ | refine al ?_ fun _ _ _ _ => ?_)); exact rfl) | simp -implicitDefEqProofs only [push_cast, seval, *] | simp only [bindO_assoc])
 refine fl (S := Unit) Val.cells e.entryArgs (fun (i3 : Nat) (s5 : Unit) => [.sl false 5 (List.map Val.cells e.entryArgs), .fnc 44, Z, Z, Z, Z, Z, .int .i64 (e.entryArgs.length : Int), .int .i64 (i3 : Int), Z, Z, Z, Z, Z, Z, Z, Z, Z, Z]) (fun (_ : Nat) (s5 : Unit) => [.var [.str e.entryName, .sl false 5 (List.map Val.cells e.entryArgs), .int .i64 e.entryVal.valSort, .int .i64 e.entryVal.valNum, .sl false 1 (List.map (cI .i64) e.entryVal.valSet), .sl false 1 (List.map (cI .i64) e.entryVal.valAt), .sl false 1 (List.map (cI .i64) e.entryVal.valTo)]]) hB () (fun _ _ _ _ _ _ _ _ => ?_) fun _ _ => ?_ <;> repeat' (first | (with_reducible (first | apply ier | apply ie | apply ienr | apply ien | apply be | apply ber | apply oer | apply oe)) <;> try intro _ | ((with_reducible (first | refine alr ?_ fun _ _ _ _ => ?_ | refine al ?_ fun _ _ _ _ => ?_)); exact rfl) | simp -implicitDefEqProofs only [push_cast, seval, *] | simp only [bindO_assoc])
theorem ev62 {E : Env} {N : Nat} (hB : NB N) (hty : E.ty = tys) (heq : E.eqt = eqts) (h0 : E.n0 = 0) (hal : E.ali = noAli)  (s1q : List Int) (s2q : List Int) :
   bindO (aPure E Proofs.Try.f62 H62 N [.sl false 1 (List.map (cI .i64) s1q), .sl false 1 (List.map (cI .i64) s2q)]) (cv sh62) = bindO (F1062 N s1q s2q) fun r => some (v62 r) := by
 unfold F1062
 rw [r_pure]
 repeat' (first | (with_reducible (first | apply ier | apply ie | apply ienr | apply ien | apply be | apply ber | apply oer | apply oe)) <;> try intro _ | ((with_reducible (first | refine alr ?_ fun _ _ _ _ => ?_ | refine al ?_ fun _ _ _ _ => ?_)); exact rfl) | simp -implicitDefEqProofs only [push_cast, seval, *] | simp only [bindO_assoc])
 refine fl (S := Unit) (cI .i64) s1q (fun (i1 : Nat) (s3 : Unit) => [.sl false 1 (List.map (cI .i64) s1q), .sl false 1 (List.map (cI .i64) s2q), Z, Z, Z, Z, Z, Z, Z, Z, Z, Z, .int .i64 (s1q.length : Int), .int .i64 (i1 : Int), Z, Z, Z, Z, Z, Z, Z, Z, Z, Z, Z, Z]) (fun (_ : Nat) (s3 : Unit) => []) hB () (fun _ _ _ _ _ _ _ _ => ?_) fun _ _ => ?_ <;> repeat' (first | (with_reducible (first | apply ier | apply ie | apply ienr | apply ien | apply be | apply ber | apply oer | apply oe)) <;> try intro _ | ((with_reducible (first | refine alr ?_ fun _ _ _ _ => ?_ | refine al ?_ fun _ _ _ _ => ?_)); exact rfl) | simp -implicitDefEqProofs only [push_cast, seval, *] | simp only [bindO_assoc])
theorem ev46 {E : Env} {N : Nat} (hB : NB N) (hty : E.ty = tys) (heq : E.eqt = eqts) (h0 : E.n0 = 0) (hal : E.ali = noAli) (g46_62 : Tb E 62 (plain (t62 N))) (a : Val) (b : Val) :
   bindO (aPure E Proofs.Try.f46 H46 N [.agg (Val.cells a), .agg (Val.cells b)]) (cv sh46) = bindO (F1051 N a b) fun r => some (v46 r) := by
 unfold F1051
 rw [r_pure]
 repeat' (first | (with_reducible (first | apply ier | apply ie | apply ienr | apply ien | apply be | apply ber | apply oer | apply oe)) <;> try intro _ | ((with_reducible (first | refine alr ?_ fun _ _ _ _ => ?_ | refine al ?_ fun _ _ _ _ => ?_)); exact rfl) | simp -implicitDefEqProofs only [push_cast, seval, *] | simp only [bindO_assoc])
theorem ev25 {E : Env} {E45 : Nat → Env} {N : Nat} (hB : NB N) (hty : E.ty = tys) (heq : E.eqt = eqts) (h0 : E.n0 = 0) (hal : E.ali = noAli) (g25_45 : Tb E 45 (inl E45 Proofs.Try.f45 H45 N)) (hty45 : ∀ n, (E45 n).ty = tys) (heq45 : ∀ n, (E45 n).eqt = eqts) (h045 : ∀ n, (E45 n).n0 = n) (hal45 : ∀ n, (E45 n).ali = noAli) (g45_46 : TbI E45 46 (plain (t46 N))) (a : Entry) (b : Entry) :
   bindO (aPure E Proofs.Try.f25 H25 N [.agg (Entry.cells a), .agg (Entry.cells b)]) (cv sh25) = bindO (F1037 N a b) fun r => some (v25 r) := by
 unfold F1037
 rw [r_pure]
 repeat' (first | (with_reducible (first | apply ier | apply ie | apply ienr | apply ien | apply be | apply ber | apply oer | apply oe)) <;> try intro _ | ((with_reducible (first | refine alr ?_ fun _ _ _ _ => ?_ | refine al ?_ fun _ _ _ _ => ?_)); exact rfl) | simp -implicitDefEqProofs only [push_cast, seval, *] | simp only [bindO_assoc])
 refine fl (S := Unit) Val.cells a.entryArgs (fun (i1 : Nat) (s3 : Unit) => [Z, .sl false 5 (List.map Val.cells b.entryArgs), .fnc 46, Z, Z, Z, Z, Z, Z, Z, Z, Z, Z, Z, Z, .sl false 5 (List.map Val.cells a.entryArgs), .int .i64 (a.entryArgs.length : Int), .int .i64 (i1 : Int), Z, Z, Z, Z, Z, Z, Z, Z, Z, Z, Z, Z, Z, Z]) (fun (_ : Nat) (s3 : Unit) => [.var [.str a.entryName, .sl false 5 (List.map Val.cells a.entryArgs), .int .i64 a.entryVal.valSort, .int .i64 a.entryVal.valNum, .sl false 1 (List.map (cI .i64) a.entryVal.valSet), .sl false 1 (List.map (cI .i64) a.entryVal.valAt), .sl false 1 (List.map (cI .i64) a.entryVal.valTo)], .var [.str b.entryName, .sl false 5 (List.map Val.cells b.entryArgs), .int .i64 b.entryVal.valSort, .int .i64 b.entryVal.valNum, .sl false 1 (List.map (cI .i64) b.entryVal.valSet), .sl false 1 (List.map (cI .i64) b.entryVal.valAt), .sl false 1 (List.map (cI .i64) b.entryVal.valTo)]]) hB () (fun _ _ _ _ _ _ _ _ => ?_) fun _ _ => ?_ <;> repeat' (first | (with_reducible (first | apply ier | apply ie | apply ienr | apply ien | apply be | apply ber | apply oer | apply oe)) <;> try intro _ | ((with_reducible (first | refine alr ?_ fun _ _ _ _ => ?_ | refine al ?_ fun _ _ _ _ => ?_)); exact rfl) | simp -implicitDefEqProofs only [push_cast, seval, *] | simp only [bindO_assoc])
theorem ev47 {E : Env} {N : Nat} (hB : NB N) (hty : E.ty = tys) (heq : E.eqt = eqts) (h0 : E.n0 = 0) (hal : E.ali = noAli)  (a : Int) :
   bindO (aPure E Proofs.Try.f47 H47 N [.int .i64 a]) (cv sh47) = bindO (F1052 a) fun r => some (v47 r) := by
 unfold F1052
 rw [r_pure]
 repeat' (first | (with_reducible (first | apply ier | apply ie | apply ienr | apply ien | apply be | apply ber | apply oer | apply oe)) <;> try intro _ | ((with_reducible (first | refine alr ?_ fun _ _ _ _ => ?_ | refine al ?_ fun _ _ _ _ => ?_)); exact rfl) | simp -implicitDefEqProofs only [push_cast, seval, *] | simp only [bindO_assoc])
theorem ev70 {E : Env} {N : Nat} (hB : NB N) (hty : E.ty = tys) (heq : E.eqt = eqts) (h0 : E.n0 = 0) (hal : E.ali = noAli)  (x : Int) :
   bindO (aPure E Proofs.Try.f70 H70 N [.int .i64 x]) (cv sh70) = bindO (F1070 x) fun r => some (v70 r) := by
 unfold F1070
 rw [r_pure]
 repeat' (first | (with_reducible (first | apply ier | apply ie | apply ienr | apply ien | apply be | apply ber | apply oer | apply oe)) <;> try intro _ | ((with_reducible (first | refine alr ?_ fun _ _ _ _ => ?_ | refine al ?_ fun _ _ _ _ => ?_)); exact rfl) | simp -implicitDefEqProofs only [push_cast, seval, *] | simp only [bindO_assoc])
theorem ev63 {E : Env} {N : Nat} (hB : NB N) (hty : E.ty = tys) (heq : E.eqt = eqts) (h0 : E.n0 = 0) (hal : E.ali = noAli) (g63_70 : Tb E 70 (plain (t70))) (x : Int) (y : Int) :
   bindO (aPure E Proofs.Try.f63 H63 N [.int .i64 x, .int .i64 y]) (cv sh63) = bindO (F1063 x y) fun r => some (v63 r) := by
 unfold F1063
 rw [r_pure]
 repeat' (first | (with_reducible (first | apply ier | apply ie | apply ienr | apply ien | apply be | apply ber | apply oer | apply oe)) <;> try intro _ | ((with_reducible (first | refine alr ?_ fun _ _ _ _ => ?_ | refine al ?_ fun _ _ _ _ => ?_)); exact rfl) | simp -implicitDefEqProofs only [push_cast, seval, *] | simp only [bindO_assoc])
theorem ev64 {E : Env} {N : Nat} (hB : NB N) (hty : E.ty = tys) (heq : E.eqt = eqts) (h0 : E.n0 = 0) (hal : E.ali = noAli)  (x : Int) :
   bindO (aPure E Proofs.Try.f64 H64 N [.int .i64 x]) (cv sh64) = bindO (F1064 x) fun r => some (v64 r) := by
 unfold F1064
 rw [r_pure]
 repeat' (first | (with_reducible (first | apply ier | apply ie | apply ienr | apply ien | apply be | apply ber | apply oer | apply oe)) <;> try intro _ | ((with_reducible (first | refine alr ?_ fun _ _ _ _ => ?_ | refine al ?_ fun _ _ _ _ => ?_)); exact rfl) | simp -implicitDefEqProofs only [push_cast, seval, *] | simp only [bindO_assoc])
theorem ev48 {E : Env} {N : Nat} (hB : NB N) (hty : E.ty = tys) (heq : E.eqt = eqts) (h0 : E.n0 = 0) (hal : E.ali = noAli) (g48_63 : Tb E 63 (plain (t63))) (g48_64 : Tb E 64 (plain (t64))) (x : List Int) (target : Int) :
   bindO (aPure E Proofs.Try.f48 H48 N [.sl false 1 (List.map (cI .i64) x), .int .i64 target]) (cv sh48) = bindO (F1053 N x target) fun r => some (v48 r) := by
 unfold F1053
 rw [r_pure]
 repeat' (first | (with_reducible (first | apply ier | apply ie | apply ienr | apply ien | apply be | apply ber | apply oer | apply oe)) <;> try intro _ | ((with_reducible (first | refine alr ?_ fun _ _ _ _ => ?_ | refine al ?_ fun _ _ _ _ => ?_)); exact rfl) | simp -implicitDefEqProofs only [push_cast, seval, *] | simp only [bindO_assoc])
 refine wl (S := Int × Int) (fun (s1 : Int × Int) => [.sl false 1 (List.map (cI .i64) x), .int .i64 target, Z, Z, Z, Z, .int .i64 (x.length : Int), .int .i64 s1.1, .int .i64 s1.2, Z, Z, Z, Z, Z, Z, Z, Z, Z, Z, Z, Z, Z, Z, Z, Z, Z, Z, Z, Z, Z, Z, Z, Z, Z, Z, Z, Z, Z, Z, Z, Z, Z, Z, Z, Z, Z, Z, Z, Z, Z, Z, Z, Z, Z]) (fun (s1 : Int × Int) => []) (0, (x.length : Int)) (fun _ => ?_) <;> repeat' (first | (with_reducible (first | apply ier | apply ie | apply ienr | apply ien | apply be | apply ber | apply oer | apply oe)) <;> try intro _ | ((with_reducible (first | refine alr ?_ fun _ _ _ _ => ?_ | refine al ?_ fun _ _ _ _ => ?_)); exact rfl) | simp -implicitDefEqProofs only [push_cast, seval, *] | simp only [bindO_assoc])
end Go.Abs.Try
