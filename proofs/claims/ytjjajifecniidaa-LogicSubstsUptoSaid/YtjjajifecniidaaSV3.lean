import Derived.Test.YtjjajifecniidaaSD
namespace Go.Abs.Try
open Go.RowKit
set_option linter.unusedSimpArgs false
set_option linter.unusedVariables false
set_option maxRecDepth 100000
set_option maxHeartbeats 4000000
attribute [local push_cast] ty2 ty3 ty9 ty22 ty24 ty62 ty101 ty179
theorem ev14 {E : Env} {N : Nat} (hB : N ≤ 4611686018427387904) (hty : E.ty = tys) (heq : E.eqt = eqts) (h0 : E.n0 = 0) (g14_70 : ∀ vs σ, E.tab 70 vs σ = plain (t70 N) vs σ) (g14_71 : ∀ vs σ, E.tab 71 vs σ = plain (t71 N) vs σ) (g14_40 : ∀ vs σ, E.tab 40 vs σ = plain (t40) vs σ) (g14_36 : ∀ vs σ, E.tab 36 vs σ = plain (t36 N) vs σ) (n : Node) (sortq : Int) :
    bindO (aPure E Proofs.Try.f14 H14 N [.agg (Node.cells n), .int .i64 sortq]) (cv sh14) = bindO (F14 N n sortq) fun r => some (v14 r) := by
  unfold F14
  rw [r_pure]
  unfold sh14
  try simp -implicitDefEqProofs only [push_cast, hty, heq, h0, Proofs.Try.f14, g14_70, g14_71, g14_40, g14_36, reduceCtorEq, Nat.reduceEqDiff, Nat.reduceAdd, Nat.reduceLeDiff, Nat.reduceMul, Nat.reduceSub, Nat.reduceBEq, Nat.reduceLT, Int.reduceLT, Int.reduceLE, Int.reduceGT, Int.reduceGE, Int.reduceBEq, Int.reduceEq, Int.reduceToNat, Int.reduceAdd, Int.reduceSub]
  try simp only [bindO_assoc]
  refine iten_ext (fun h1 => ?_) (fun h1 => ?_)
  · simp -implicitDefEqProofs only [push_cast, hty, heq, h0, Proofs.Try.f14, g14_70, g14_71, g14_40, g14_36, reduceCtorEq, Nat.reduceEqDiff, Nat.reduceAdd, Nat.reduceLeDiff, Nat.reduceMul, Nat.reduceSub, Nat.reduceBEq, Nat.reduceLT, Int.reduceLT, Int.reduceLE, Int.reduceGT, Int.reduceGE, Int.reduceBEq, Int.reduceEq, Int.reduceToNat, Int.reduceAdd, Int.reduceSub, h1]
  · try simp -implicitDefEqProofs only [push_cast, hty, heq, h0, Proofs.Try.f14, g14_70, g14_71, g14_40, g14_36, reduceCtorEq, Nat.reduceEqDiff, Nat.reduceAdd, Nat.reduceLeDiff, Nat.reduceMul, Nat.reduceSub, Nat.reduceBEq, Nat.reduceLT, Int.reduceLT, Int.reduceLE, Int.reduceGT, Int.reduceGE, Int.reduceBEq, Int.reduceEq, Int.reduceToNat, Int.reduceAdd, Int.reduceSub, h1]
    try simp only [bindO_assoc]
    refine ite_ext (fun h2 => ?_) (fun h2 => ?_)
    · simp -implicitDefEqProofs only [push_cast, hty, heq, h0, Proofs.Try.f14, g14_70, g14_71, g14_40, g14_36, reduceCtorEq, Nat.reduceEqDiff, Nat.reduceAdd, Nat.reduceLeDiff, Nat.reduceMul, Nat.reduceSub, Nat.reduceBEq, Nat.reduceLT, Int.reduceLT, Int.reduceLE, Int.reduceGT, Int.reduceGE, Int.reduceBEq, Int.reduceEq, Int.reduceToNat, Int.reduceAdd, Int.reduceSub, h1, h2]
    · try simp -implicitDefEqProofs only [push_cast, hty, heq, h0, Proofs.Try.f14, g14_70, g14_71, g14_40, g14_36, reduceCtorEq, Nat.reduceEqDiff, Nat.reduceAdd, Nat.reduceLeDiff, Nat.reduceMul, Nat.reduceSub, Nat.reduceBEq, Nat.reduceLT, Int.reduceLT, Int.reduceLE, Int.reduceGT, Int.reduceGE, Int.reduceBEq, Int.reduceEq, Int.reduceToNat, Int.reduceAdd, Int.reduceSub, h1, h2]
      try simp only [bindO_assoc]
      refine bindO_ext fun r1 => ?_
      try simp -implicitDefEqProofs only [push_cast, hty, heq, h0, Proofs.Try.f14, g14_70, g14_71, g14_40, g14_36, reduceCtorEq, Nat.reduceEqDiff, Nat.reduceAdd, Nat.reduceLeDiff, Nat.reduceMul, Nat.reduceSub, Nat.reduceBEq, Nat.reduceLT, Int.reduceLT, Int.reduceLE, Int.reduceGT, Int.reduceGE, Int.reduceBEq, Int.reduceEq, Int.reduceToNat, Int.reduceAdd, Int.reduceSub, h1, h2]
      try simp only [bindO_assoc]
      refine iten_ext (fun h3 => ?_) (fun h3 => ?_)
      · try simp -implicitDefEqProofs only [push_cast, hty, heq, h0, Proofs.Try.f14, g14_70, g14_71, g14_40, g14_36, reduceCtorEq, Nat.reduceEqDiff, Nat.reduceAdd, Nat.reduceLeDiff, Nat.reduceMul, Nat.reduceSub, Nat.reduceBEq, Nat.reduceLT, Int.reduceLT, Int.reduceLE, Int.reduceGT, Int.reduceGE, Int.reduceBEq, Int.reduceEq, Int.reduceToNat, Int.reduceAdd, Int.reduceSub, h1, h2, h3]
        try simp only [bindO_assoc]
        refine bindO_ext fun r2 => ?_
        try simp -implicitDefEqProofs only [push_cast, hty, heq, h0, Proofs.Try.f14, g14_70, g14_71, g14_40, g14_36, reduceCtorEq, Nat.reduceEqDiff, Nat.reduceAdd, Nat.reduceLeDiff, Nat.reduceMul, Nat.reduceSub, Nat.reduceBEq, Nat.reduceLT, Int.reduceLT, Int.reduceLE, Int.reduceGT, Int.reduceGE, Int.reduceBEq, Int.reduceEq, Int.reduceToNat, Int.reduceAdd, Int.reduceSub, h1, h2, h3]
        try simp only [bindO_assoc]
        refine ite_ext (fun h4 => ?_) (fun h4 => ?_)
        · try simp -implicitDefEqProofs only [push_cast, hty, heq, h0, Proofs.Try.f14, g14_70, g14_71, g14_40, g14_36, reduceCtorEq, Nat.reduceEqDiff, Nat.reduceAdd, Nat.reduceLeDiff, Nat.reduceMul, Nat.reduceSub, Nat.reduceBEq, Nat.reduceLT, Int.reduceLT, Int.reduceLE, Int.reduceGT, Int.reduceGE, Int.reduceBEq, Int.reduceEq, Int.reduceToNat, Int.reduceAdd, Int.reduceSub, h1, h2, h3, h4]
          try simp only [bindO_assoc]
          refine bindO_ext fun r3 => ?_
          try simp -implicitDefEqProofs only [push_cast, hty, heq, h0, Proofs.Try.f14, g14_70, g14_71, g14_40, g14_36, reduceCtorEq, Nat.reduceEqDiff, Nat.reduceAdd, Nat.reduceLeDiff, Nat.reduceMul, Nat.reduceSub, Nat.reduceBEq, Nat.reduceLT, Int.reduceLT, Int.reduceLE, Int.reduceGT, Int.reduceGE, Int.reduceBEq, Int.reduceEq, Int.reduceToNat, Int.reduceAdd, Int.reduceSub, h1, h2, h3, h4]
          try simp only [bindO_assoc]
          refine iten_ext (fun h5 => ?_) (fun h5 => ?_)
          · try simp -implicitDefEqProofs only [push_cast, hty, heq, h0, Proofs.Try.f14, g14_70, g14_71, g14_40, g14_36, reduceCtorEq, Nat.reduceEqDiff, Nat.reduceAdd, Nat.reduceLeDiff, Nat.reduceMul, Nat.reduceSub, Nat.reduceBEq, Nat.reduceLT, Int.reduceLT, Int.reduceLE, Int.reduceGT, Int.reduceGE, Int.reduceBEq, Int.reduceEq, Int.reduceToNat, Int.reduceAdd, Int.reduceSub, h1, h2, h3, h4, h5]
            try simp only [bindO_assoc]
            refine iten_ext (fun h6 => ?_) (fun h6 => ?_)
            · simp -implicitDefEqProofs only [push_cast, hty, heq, h0, Proofs.Try.f14, g14_70, g14_71, g14_40, g14_36, reduceCtorEq, Nat.reduceEqDiff, Nat.reduceAdd, Nat.reduceLeDiff, Nat.reduceMul, Nat.reduceSub, Nat.reduceBEq, Nat.reduceLT, Int.reduceLT, Int.reduceLE, Int.reduceGT, Int.reduceGE, Int.reduceBEq, Int.reduceEq, Int.reduceToNat, Int.reduceAdd, Int.reduceSub, h1, h2, h3, h4, h5, h6]
            · try simp -implicitDefEqProofs only [push_cast, hty, heq, h0, Proofs.Try.f14, g14_70, g14_71, g14_40, g14_36, reduceCtorEq, Nat.reduceEqDiff, Nat.reduceAdd, Nat.reduceLeDiff, Nat.reduceMul, Nat.reduceSub, Nat.reduceBEq, Nat.reduceLT, Int.reduceLT, Int.reduceLE, Int.reduceGT, Int.reduceGE, Int.reduceBEq, Int.reduceEq, Int.reduceToNat, Int.reduceAdd, Int.reduceSub, h1, h2, h3, h4, h5, h6]
              try simp only [bindO_assoc]
              refine bindO_ext fun r4 => ?_
              try simp -implicitDefEqProofs only [push_cast, hty, heq, h0, Proofs.Try.f14, g14_70, g14_71, g14_40, g14_36, reduceCtorEq, Nat.reduceEqDiff, Nat.reduceAdd, Nat.reduceLeDiff, Nat.reduceMul, Nat.reduceSub, Nat.reduceBEq, Nat.reduceLT, Int.reduceLT, Int.reduceLE, Int.reduceGT, Int.reduceGE, Int.reduceBEq, Int.reduceEq, Int.reduceToNat, Int.reduceAdd, Int.reduceSub, h1, h2, h3, h4, h5, h6]
              try simp only [bindO_assoc]
              refine iten_ext (fun h7 => ?_) (fun h7 => ?_)
              · simp -implicitDefEqProofs only [push_cast, hty, heq, h0, Proofs.Try.f14, g14_70, g14_71, g14_40, g14_36, reduceCtorEq, Nat.reduceEqDiff, Nat.reduceAdd, Nat.reduceLeDiff, Nat.reduceMul, Nat.reduceSub, Nat.reduceBEq, Nat.reduceLT, Int.reduceLT, Int.reduceLE, Int.reduceGT, Int.reduceGE, Int.reduceBEq, Int.reduceEq, Int.reduceToNat, Int.reduceAdd, Int.reduceSub, h1, h2, h3, h4, h5, h6, h7]
              · simp -implicitDefEqProofs only [push_cast, hty, heq, h0, Proofs.Try.f14, g14_70, g14_71, g14_40, g14_36, reduceCtorEq, Nat.reduceEqDiff, Nat.reduceAdd, Nat.reduceLeDiff, Nat.reduceMul, Nat.reduceSub, Nat.reduceBEq, Nat.reduceLT, Int.reduceLT, Int.reduceLE, Int.reduceGT, Int.reduceGE, Int.reduceBEq, Int.reduceEq, Int.reduceToNat, Int.reduceAdd, Int.reduceSub, h1, h2, h3, h4, h5, h6, h7]
          · simp -implicitDefEqProofs only [push_cast, hty, heq, h0, Proofs.Try.f14, g14_70, g14_71, g14_40, g14_36, reduceCtorEq, Nat.reduceEqDiff, Nat.reduceAdd, Nat.reduceLeDiff, Nat.reduceMul, Nat.reduceSub, Nat.reduceBEq, Nat.reduceLT, Int.reduceLT, Int.reduceLE, Int.reduceGT, Int.reduceGE, Int.reduceBEq, Int.reduceEq, Int.reduceToNat, Int.reduceAdd, Int.reduceSub, h1, h2, h3, h4, h5]
        · simp -implicitDefEqProofs only [push_cast, hty, heq, h0, Proofs.Try.f14, g14_70, g14_71, g14_40, g14_36, reduceCtorEq, Nat.reduceEqDiff, Nat.reduceAdd, Nat.reduceLeDiff, Nat.reduceMul, Nat.reduceSub, Nat.reduceBEq, Nat.reduceLT, Int.reduceLT, Int.reduceLE, Int.reduceGT, Int.reduceGE, Int.reduceBEq, Int.reduceEq, Int.reduceToNat, Int.reduceAdd, Int.reduceSub, h1, h2, h3, h4]
      · simp -implicitDefEqProofs only [push_cast, hty, heq, h0, Proofs.Try.f14, g14_70, g14_71, g14_40, g14_36, reduceCtorEq, Nat.reduceEqDiff, Nat.reduceAdd, Nat.reduceLeDiff, Nat.reduceMul, Nat.reduceSub, Nat.reduceBEq, Nat.reduceLT, Int.reduceLT, Int.reduceLE, Int.reduceGT, Int.reduceGE, Int.reduceBEq, Int.reduceEq, Int.reduceToNat, Int.reduceAdd, Int.reduceSub, h1, h2, h3]
theorem ev78 {E : Env} {N : Nat} (hB : N ≤ 4611686018427387904) (hty : E.ty = tys) (heq : E.eqt = eqts) (h0 : E.n0 = 0)  (a : Int) (b : Int) :
    bindO (aPure E Proofs.Try.f78 H78 N [.int .i64 a, .int .i64 b]) (cv sh78) = bindO (F78 a b) fun r => some (v78 r) := by
  unfold F78
  rw [r_pure]
  unfold sh78
  try simp -implicitDefEqProofs only [push_cast, hty, heq, h0, Proofs.Try.f78, reduceCtorEq, Nat.reduceEqDiff, Nat.reduceAdd, Nat.reduceLeDiff, Nat.reduceMul, Nat.reduceSub, Nat.reduceBEq, Nat.reduceLT, Int.reduceLT, Int.reduceLE, Int.reduceGT, Int.reduceGE, Int.reduceBEq, Int.reduceEq, Int.reduceToNat, Int.reduceAdd, Int.reduceSub]
  try simp only [bindO_assoc]
  refine ite_ext (fun h1 => ?_) (fun h1 => ?_)
  · simp -implicitDefEqProofs only [push_cast, hty, heq, h0, Proofs.Try.f78, reduceCtorEq, Nat.reduceEqDiff, Nat.reduceAdd, Nat.reduceLeDiff, Nat.reduceMul, Nat.reduceSub, Nat.reduceBEq, Nat.reduceLT, Int.reduceLT, Int.reduceLE, Int.reduceGT, Int.reduceGE, Int.reduceBEq, Int.reduceEq, Int.reduceToNat, Int.reduceAdd, Int.reduceSub, h1]
  · try simp -implicitDefEqProofs only [push_cast, hty, heq, h0, Proofs.Try.f78, reduceCtorEq, Nat.reduceEqDiff, Nat.reduceAdd, Nat.reduceLeDiff, Nat.reduceMul, Nat.reduceSub, Nat.reduceBEq, Nat.reduceLT, Int.reduceLT, Int.reduceLE, Int.reduceGT, Int.reduceGE, Int.reduceBEq, Int.reduceEq, Int.reduceToNat, Int.reduceAdd, Int.reduceSub, h1]
    try simp only [bindO_assoc]
    refine ite_ext (fun h2 => ?_) (fun h2 => ?_)
    · simp -implicitDefEqProofs only [push_cast, hty, heq, h0, Proofs.Try.f78, reduceCtorEq, Nat.reduceEqDiff, Nat.reduceAdd, Nat.reduceLeDiff, Nat.reduceMul, Nat.reduceSub, Nat.reduceBEq, Nat.reduceLT, Int.reduceLT, Int.reduceLE, Int.reduceGT, Int.reduceGE, Int.reduceBEq, Int.reduceEq, Int.reduceToNat, Int.reduceAdd, Int.reduceSub, h1, h2]
    · simp -implicitDefEqProofs only [push_cast, hty, heq, h0, Proofs.Try.f78, reduceCtorEq, Nat.reduceEqDiff, Nat.reduceAdd, Nat.reduceLeDiff, Nat.reduceMul, Nat.reduceSub, Nat.reduceBEq, Nat.reduceLT, Int.reduceLT, Int.reduceLE, Int.reduceGT, Int.reduceGE, Int.reduceBEq, Int.reduceEq, Int.reduceToNat, Int.reduceAdd, Int.reduceSub, h1, h2]
theorem ev94 {E : Env} {N : Nat} (hB : N ≤ 4611686018427387904) (hty : E.ty = tys) (heq : E.eqt = eqts) (h0 : E.n0 = 0) (g94_79 : ∀ vs σ, E.tab 79 vs σ = plain (t79) vs σ) (g94_78 : ∀ vs σ, E.tab 78 vs σ = plain (t78) vs σ) (a : Decl) (b : Decl) :
    bindO (aPure E Proofs.Try.f94 H94 N [.agg (Decl.cells a), .agg (Decl.cells b)]) (cv sh94) = bindO (F94 a b) fun r => some (v94 r) := by
  unfold F94
  rw [r_pure]
  unfold sh94
  try simp -implicitDefEqProofs only [push_cast, hty, heq, h0, Proofs.Try.f94, g94_79, g94_78, reduceCtorEq, Nat.reduceEqDiff, Nat.reduceAdd, Nat.reduceLeDiff, Nat.reduceMul, Nat.reduceSub, Nat.reduceBEq, Nat.reduceLT, Int.reduceLT, Int.reduceLE, Int.reduceGT, Int.reduceGE, Int.reduceBEq, Int.reduceEq, Int.reduceToNat, Int.reduceAdd, Int.reduceSub]
  try simp only [bindO_assoc]
  refine bindO_ext fun r1 => ?_
  try simp -implicitDefEqProofs only [push_cast, hty, heq, h0, Proofs.Try.f94, g94_79, g94_78, reduceCtorEq, Nat.reduceEqDiff, Nat.reduceAdd, Nat.reduceLeDiff, Nat.reduceMul, Nat.reduceSub, Nat.reduceBEq, Nat.reduceLT, Int.reduceLT, Int.reduceLE, Int.reduceGT, Int.reduceGE, Int.reduceBEq, Int.reduceEq, Int.reduceToNat, Int.reduceAdd, Int.reduceSub]
  try simp only [bindO_assoc]
  refine iten_ext (fun h1 => ?_) (fun h1 => ?_)
  · try simp -implicitDefEqProofs only [push_cast, hty, heq, h0, Proofs.Try.f94, g94_79, g94_78, reduceCtorEq, Nat.reduceEqDiff, Nat.reduceAdd, Nat.reduceLeDiff, Nat.reduceMul, Nat.reduceSub, Nat.reduceBEq, Nat.reduceLT, Int.reduceLT, Int.reduceLE, Int.reduceGT, Int.reduceGE, Int.reduceBEq, Int.reduceEq, Int.reduceToNat, Int.reduceAdd, Int.reduceSub, h1]
    try simp only [bindO_assoc]
    refine bindO_ext fun r2 => ?_
    simp -implicitDefEqProofs only [push_cast, hty, heq, h0, Proofs.Try.f94, g94_79, g94_78, reduceCtorEq, Nat.reduceEqDiff, Nat.reduceAdd, Nat.reduceLeDiff, Nat.reduceMul, Nat.reduceSub, Nat.reduceBEq, Nat.reduceLT, Int.reduceLT, Int.reduceLE, Int.reduceGT, Int.reduceGE, Int.reduceBEq, Int.reduceEq, Int.reduceToNat, Int.reduceAdd, Int.reduceSub, h1]
  · simp -implicitDefEqProofs only [push_cast, hty, heq, h0, Proofs.Try.f94, g94_79, g94_78, reduceCtorEq, Nat.reduceEqDiff, Nat.reduceAdd, Nat.reduceLeDiff, Nat.reduceMul, Nat.reduceSub, Nat.reduceBEq, Nat.reduceLT, Int.reduceLT, Int.reduceLE, Int.reduceGT, Int.reduceGE, Int.reduceBEq, Int.reduceEq, Int.reduceToNat, Int.reduceAdd, Int.reduceSub, h1]
theorem ev46 {E : Env} {E93 : Nat → Env} {E138 : Nat → Env} {E139 : Nat → Env} {N : Nat} (hB : N ≤ 4611686018427387904) (hty : E.ty = tys) (heq : E.eqt = eqts) (h0 : E.n0 = 0) (g46_91 : ∀ vs σ, E.tab 91 vs σ = plain (t91) vs σ) (g46_93 : ∀ vs σ, E.tab 93 vs σ = inl E93 Proofs.Try.f93 H93 N vs σ) (q46_136 : ∀ cs, E.seq (.fn 136 cs) = sq136 cs) (hty93 : ∀ n, (E93 n).ty = tys) (heq93 : ∀ n, (E93 n).eqt = eqts) (h093 : ∀ n, (E93 n).n0 = n) (g93_138 : ∀ n vs σ, (E93 n).tab 138 vs σ = inl E138 Proofs.Try.f138 H138 N vs σ) (g93_139 : ∀ n vs σ, (E93 n).tab 139 vs σ = inl E139 Proofs.Try.f139 H139 N vs σ) (hty138 : ∀ n, (E138 n).ty = tys) (heq138 : ∀ n, (E138 n).eqt = eqts) (h0138 : ∀ n, (E138 n).n0 = n) (g138_94 : ∀ n vs σ, (E138 n).tab 94 vs σ = plain (t94) vs σ) (hty139 : ∀ n, (E139 n).ty = tys) (heq139 : ∀ n, (E139 n).eqt = eqts) (h0139 : ∀ n, (E139 n).n0 = n) (n : Node) :
    bindO (aPure E Proofs.Try.f46 H46 N [.agg (Node.cells n)]) (cv sh46) = bindO (F46 N n) fun r => some (v46 r) := by
  unfold F46
  rw [r_pure]
  unfold sh46
  try simp -implicitDefEqProofs only [push_cast, hty, heq, h0, Proofs.Try.f46, g46_91, g46_93, q46_136, g93_138, g93_139, g138_94, hty93, heq93, h093, Proofs.Try.f93, hty138, heq138, h0138, Proofs.Try.f138, hty139, heq139, h0139, Proofs.Try.f139, reduceCtorEq, Nat.reduceEqDiff, Nat.reduceAdd, Nat.reduceLeDiff, Nat.reduceMul, Nat.reduceSub, Nat.reduceBEq, Nat.reduceLT, Int.reduceLT, Int.reduceLE, Int.reduceGT, Int.reduceGE, Int.reduceBEq, Int.reduceEq, Int.reduceToNat, Int.reduceAdd, Int.reduceSub]
  try simp only [bindO_assoc]
  refine bindO_ext fun l4 => ?_
  try simp -implicitDefEqProofs only [push_cast, hty, heq, h0, Proofs.Try.f46, g46_91, g46_93, q46_136, g93_138, g93_139, g138_94, hty93, heq93, h093, Proofs.Try.f93, hty138, heq138, h0138, Proofs.Try.f138, hty139, heq139, h0139, Proofs.Try.f139, reduceCtorEq, Nat.reduceEqDiff, Nat.reduceAdd, Nat.reduceLeDiff, Nat.reduceMul, Nat.reduceSub, Nat.reduceBEq, Nat.reduceLT, Int.reduceLT, Int.reduceLE, Int.reduceGT, Int.reduceGE, Int.reduceBEq, Int.reduceEq, Int.reduceToNat, Int.reduceAdd, Int.reduceSub]
  try simp only [bindO_assoc]
  refine range_loop (S := List Decl) e136 (fun (s6 : List Decl) => [.var [.int .i64 n.op, .int .i64 n.sortf, .str n.name, .int .i64 n.num, .sl false 5 (List.map Node.cells n.kids)], .row 2 0 [], .var [.rs 3 0], .row 2 0 (List.map Decl.cells s6)]) ?_ ?_ l4 ([])
  · intro s6 x5
    try simp -implicitDefEqProofs only [push_cast, hty, heq, h0, Proofs.Try.f46, g46_91, g46_93, q46_136, g93_138, g93_139, g138_94, hty93, heq93, h093, Proofs.Try.f93, hty138, heq138, h0138, Proofs.Try.f138, hty139, heq139, h0139, Proofs.Try.f139, reduceCtorEq, Nat.reduceEqDiff, Nat.reduceAdd, Nat.reduceLeDiff, Nat.reduceMul, Nat.reduceSub, Nat.reduceBEq, Nat.reduceLT, Int.reduceLT, Int.reduceLE, Int.reduceGT, Int.reduceGE, Int.reduceBEq, Int.reduceEq, Int.reduceToNat, Int.reduceAdd, Int.reduceSub, F46_s2]
    try simp only [bindO_assoc]
    refine ite_ext (fun h1 => ?_) (fun h1 => ?_)
    · try simp -implicitDefEqProofs only [push_cast, hty, heq, h0, Proofs.Try.f46, g46_91, g46_93, q46_136, g93_138, g93_139, g138_94, hty93, heq93, h093, Proofs.Try.f93, hty138, heq138, h0138, Proofs.Try.f138, hty139, heq139, h0139, Proofs.Try.f139, reduceCtorEq, Nat.reduceEqDiff, Nat.reduceAdd, Nat.reduceLeDiff, Nat.reduceMul, Nat.reduceSub, Nat.reduceBEq, Nat.reduceLT, Int.reduceLT, Int.reduceLE, Int.reduceGT, Int.reduceGE, Int.reduceBEq, Int.reduceEq, Int.reduceToNat, Int.reduceAdd, Int.reduceSub, F46_s2, h1]
      try simp only [bindO_assoc]
      refine while_loop (S := Int × Int) (fun (s7 : Int × Int) => [.rs 3 0, .top, .fn 94 [], .top, .ptr 7 0, .top, .top, .top, .int .i64 ((s6.length : Int)), .int .i64 s7.2, .int .i64 s7.1, .top, .top, .top, .top, .top, .top, .top, .top, .top, .top, .top, .top, .top, .top, .top, .top, .top, .top, .top, .top, .top, .top, .top, .top, .top, .top, .top, .top, .top, .top, .top, .top, .top, .top, .top, .top, .top, .top]) (fun (s7 : Int × Int) => [.var [.int .i64 n.op, .int .i64 n.sortf, .str n.name, .int .i64 n.num, .sl false 5 (List.map Node.cells n.kids)], .row 2 0 [], .var [.rs 3 0], .row 2 0 (List.map Decl.cells s6), .var [.int .i64 x5.op, .int .i64 x5.sortf, .str x5.name, .int .i64 x5.num, .sl false 5 (List.map Node.cells x5.kids)], .var [.str x5.name, .int .i64 x5.sortf], .row 2 0 [], .var [.str x5.name, .int .i64 x5.sortf]]) ?_ N (((s6.length : Int)), 0)
      intro s7
      try simp -implicitDefEqProofs only [push_cast, hty, heq, h0, Proofs.Try.f46, g46_91, g46_93, q46_136, g93_138, g93_139, g138_94, hty93, heq93, h093, Proofs.Try.f93, hty138, heq138, h0138, Proofs.Try.f138, hty139, heq139, h0139, Proofs.Try.f139, reduceCtorEq, Nat.reduceEqDiff, Nat.reduceAdd, Nat.reduceLeDiff, Nat.reduceMul, Nat.reduceSub, Nat.reduceBEq, Nat.reduceLT, Int.reduceLT, Int.reduceLE, Int.reduceGT, Int.reduceGE, Int.reduceBEq, Int.reduceEq, Int.reduceToNat, Int.reduceAdd, Int.reduceSub, F46_s2, h1, F46_s3]
      try simp only [bindO_assoc]
      refine ite_ext (fun h2 => ?_) (fun h2 => ?_)
      · try simp -implicitDefEqProofs only [push_cast, hty, heq, h0, Proofs.Try.f46, g46_91, g46_93, q46_136, g93_138, g93_139, g138_94, hty93, heq93, h093, Proofs.Try.f93, hty138, heq138, h0138, Proofs.Try.f138, hty139, heq139, h0139, Proofs.Try.f139, reduceCtorEq, Nat.reduceEqDiff, Nat.reduceAdd, Nat.reduceLeDiff, Nat.reduceMul, Nat.reduceSub, Nat.reduceBEq, Nat.reduceLT, Int.reduceLT, Int.reduceLE, Int.reduceGT, Int.reduceGE, Int.reduceBEq, Int.reduceEq, Int.reduceToNat, Int.reduceAdd, Int.reduceSub, F46_s2, h1, F46_s3, h2]
        try simp only [bindO_assoc]
        refine at_rs (c := Decl.cells) fun x8 h3 h4 h5 h6 => ?_
        try simp only [Int.reduceToNat, Int.toNat_natCast] at h5 h6
        try simp -implicitDefEqProofs only [push_cast, hty, heq, h0, Proofs.Try.f46, g46_91, g46_93, q46_136, g93_138, g93_139, g138_94, hty93, heq93, h093, Proofs.Try.f93, hty138, heq138, h0138, Proofs.Try.f138, hty139, heq139, h0139, Proofs.Try.f139, reduceCtorEq, Nat.reduceEqDiff, Nat.reduceAdd, Nat.reduceLeDiff, Nat.reduceMul, Nat.reduceSub, Nat.reduceBEq, Nat.reduceLT, Int.reduceLT, Int.reduceLE, Int.reduceGT, Int.reduceGE, Int.reduceBEq, Int.reduceEq, Int.reduceToNat, Int.reduceAdd, Int.reduceSub, F46_s2, h1, F46_s3, h2, h3, h5, h6]
        try simp only [bindO_assoc]
        refine bindO_ext fun r9 => ?_
        try simp -implicitDefEqProofs only [push_cast, hty, heq, h0, Proofs.Try.f46, g46_91, g46_93, q46_136, g93_138, g93_139, g138_94, hty93, heq93, h093, Proofs.Try.f93, hty138, heq138, h0138, Proofs.Try.f138, hty139, heq139, h0139, Proofs.Try.f139, reduceCtorEq, Nat.reduceEqDiff, Nat.reduceAdd, Nat.reduceLeDiff, Nat.reduceMul, Nat.reduceSub, Nat.reduceBEq, Nat.reduceLT, Int.reduceLT, Int.reduceLE, Int.reduceGT, Int.reduceGE, Int.reduceBEq, Int.reduceEq, Int.reduceToNat, Int.reduceAdd, Int.reduceSub, F46_s2, h1, F46_s3, h2, h3, h5, h6]
        try simp only [bindO_assoc]
        refine ite_ext (fun h7 => ?_) (fun h7 => ?_)
        · simp -implicitDefEqProofs only [push_cast, hty, heq, h0, Proofs.Try.f46, g46_91, g46_93, q46_136, g93_138, g93_139, g138_94, hty93, heq93, h093, Proofs.Try.f93, hty138, heq138, h0138, Proofs.Try.f138, hty139, heq139, h0139, Proofs.Try.f139, reduceCtorEq, Nat.reduceEqDiff, Nat.reduceAdd, Nat.reduceLeDiff, Nat.reduceMul, Nat.reduceSub, Nat.reduceBEq, Nat.reduceLT, Int.reduceLT, Int.reduceLE, Int.reduceGT, Int.reduceGE, Int.reduceBEq, Int.reduceEq, Int.reduceToNat, Int.reduceAdd, Int.reduceSub, F46_s2, h1, F46_s3, h2, h3, h5, h6, h7]
        · simp -implicitDefEqProofs only [push_cast, hty, heq, h0, Proofs.Try.f46, g46_91, g46_93, q46_136, g93_138, g93_139, g138_94, hty93, heq93, h093, Proofs.Try.f93, hty138, heq138, h0138, Proofs.Try.f138, hty139, heq139, h0139, Proofs.Try.f139, reduceCtorEq, Nat.reduceEqDiff, Nat.reduceAdd, Nat.reduceLeDiff, Nat.reduceMul, Nat.reduceSub, Nat.reduceBEq, Nat.reduceLT, Int.reduceLT, Int.reduceLE, Int.reduceGT, Int.reduceGE, Int.reduceBEq, Int.reduceEq, Int.reduceToNat, Int.reduceAdd, Int.reduceSub, F46_s2, h1, F46_s3, h2, h3, h5, h6, h7]
      · try simp -implicitDefEqProofs only [push_cast, hty, heq, h0, Proofs.Try.f46, g46_91, g46_93, q46_136, g93_138, g93_139, g138_94, hty93, heq93, h093, Proofs.Try.f93, hty138, heq138, h0138, Proofs.Try.f138, hty139, heq139, h0139, Proofs.Try.f139, reduceCtorEq, Nat.reduceEqDiff, Nat.reduceAdd, Nat.reduceLeDiff, Nat.reduceMul, Nat.reduceSub, Nat.reduceBEq, Nat.reduceLT, Int.reduceLT, Int.reduceLE, Int.reduceGT, Int.reduceGE, Int.reduceBEq, Int.reduceEq, Int.reduceToNat, Int.reduceAdd, Int.reduceSub, F46_s2, h1, F46_s3, h2]
        try simp only [bindO_assoc]
        refine ite_ext (fun h8 => ?_) (fun h8 => ?_)
        · try simp -implicitDefEqProofs only [push_cast, hty, heq, h0, Proofs.Try.f46, g46_91, g46_93, q46_136, g93_138, g93_139, g138_94, hty93, heq93, h093, Proofs.Try.f93, hty138, heq138, h0138, Proofs.Try.f138, hty139, heq139, h0139, Proofs.Try.f139, reduceCtorEq, Nat.reduceEqDiff, Nat.reduceAdd, Nat.reduceLeDiff, Nat.reduceMul, Nat.reduceSub, Nat.reduceBEq, Nat.reduceLT, Int.reduceLT, Int.reduceLE, Int.reduceGT, Int.reduceGE, Int.reduceBEq, Int.reduceEq, Int.reduceToNat, Int.reduceAdd, Int.reduceSub, F46_s2, h1, F46_s3, h2, h8]
          try simp only [bindO_assoc]
          refine at_rs (c := Decl.cells) fun x10 h9 h10 h11 h12 => ?_
          try simp only [Int.reduceToNat, Int.toNat_natCast] at h11 h12
          try simp -implicitDefEqProofs only [push_cast, hty, heq, h0, Proofs.Try.f46, g46_91, g46_93, q46_136, g93_138, g93_139, g138_94, hty93, heq93, h093, Proofs.Try.f93, hty138, heq138, h0138, Proofs.Try.f138, hty139, heq139, h0139, Proofs.Try.f139, reduceCtorEq, Nat.reduceEqDiff, Nat.reduceAdd, Nat.reduceLeDiff, Nat.reduceMul, Nat.reduceSub, Nat.reduceBEq, Nat.reduceLT, Int.reduceLT, Int.reduceLE, Int.reduceGT, Int.reduceGE, Int.reduceBEq, Int.reduceEq, Int.reduceToNat, Int.reduceAdd, Int.reduceSub, F46_s2, h1, F46_s3, h2, h8, h9, h11, h12]
          try simp only [bindO_assoc]
          refine bindO_ext fun r11 => ?_
          try simp -implicitDefEqProofs only [push_cast, hty, heq, h0, Proofs.Try.f46, g46_91, g46_93, q46_136, g93_138, g93_139, g138_94, hty93, heq93, h093, Proofs.Try.f93, hty138, heq138, h0138, Proofs.Try.f138, hty139, heq139, h0139, Proofs.Try.f139, reduceCtorEq, Nat.reduceEqDiff, Nat.reduceAdd, Nat.reduceLeDiff, Nat.reduceMul, Nat.reduceSub, Nat.reduceBEq, Nat.reduceLT, Int.reduceLT, Int.reduceLE, Int.reduceGT, Int.reduceGE, Int.reduceBEq, Int.reduceEq, Int.reduceToNat, Int.reduceAdd, Int.reduceSub, F46_s2, h1, F46_s3, h2, h8, h9, h11, h12]
          try simp only [bindO_assoc]
          refine ite_ext (fun h13 => ?_) (fun h13 => ?_)
          · simp -implicitDefEqProofs only [push_cast, hty, heq, h0, Proofs.Try.f46, g46_91, g46_93, q46_136, g93_138, g93_139, g138_94, hty93, heq93, h093, Proofs.Try.f93, hty138, heq138, h0138, Proofs.Try.f138, hty139, heq139, h0139, Proofs.Try.f139, reduceCtorEq, Nat.reduceEqDiff, Nat.reduceAdd, Nat.reduceLeDiff, Nat.reduceMul, Nat.reduceSub, Nat.reduceBEq, Nat.reduceLT, Int.reduceLT, Int.reduceLE, Int.reduceGT, Int.reduceGE, Int.reduceBEq, Int.reduceEq, Int.reduceToNat, Int.reduceAdd, Int.reduceSub, F46_s2, h1, F46_s3, h2, h8, h9, h11, h12, h13]
          · try simp -implicitDefEqProofs only [push_cast, hty, heq, h0, Proofs.Try.f46, g46_91, g46_93, q46_136, g93_138, g93_139, g138_94, hty93, heq93, h093, Proofs.Try.f93, hty138, heq138, h0138, Proofs.Try.f138, hty139, heq139, h0139, Proofs.Try.f139, reduceCtorEq, Nat.reduceEqDiff, Nat.reduceAdd, Nat.reduceLeDiff, Nat.reduceMul, Nat.reduceSub, Nat.reduceBEq, Nat.reduceLT, Int.reduceLT, Int.reduceLE, Int.reduceGT, Int.reduceGE, Int.reduceBEq, Int.reduceEq, Int.reduceToNat, Int.reduceAdd, Int.reduceSub, F46_s2, h1, F46_s3, h2, h8, h9, h11, h12, h13]
            try simp only [bindO_assoc]
            refine ite_ext (fun h14 => ?_) (fun h14 => ?_)
            · try simp -implicitDefEqProofs only [push_cast, hty, heq, h0, Proofs.Try.f46, g46_91, g46_93, q46_136, g93_138, g93_139, g138_94, hty93, heq93, h093, Proofs.Try.f93, hty138, heq138, h0138, Proofs.Try.f138, hty139, heq139, h0139, Proofs.Try.f139, reduceCtorEq, Nat.reduceEqDiff, Nat.reduceAdd, Nat.reduceLeDiff, Nat.reduceMul, Nat.reduceSub, Nat.reduceBEq, Nat.reduceLT, Int.reduceLT, Int.reduceLE, Int.reduceGT, Int.reduceGE, Int.reduceBEq, Int.reduceEq, Int.reduceToNat, Int.reduceAdd, Int.reduceSub, F46_s2, h1, F46_s3, h2, h8, h9, h11, h12, h13, h14]
              try simp only [bindO_assoc]
              refine ite_ext (fun h15 => ?_) (fun h15 => ?_)
              · try simp -implicitDefEqProofs only [push_cast, hty, heq, h0, Proofs.Try.f46, g46_91, g46_93, q46_136, g93_138, g93_139, g138_94, hty93, heq93, h093, Proofs.Try.f93, hty138, heq138, h0138, Proofs.Try.f138, hty139, heq139, h0139, Proofs.Try.f139, reduceCtorEq, Nat.reduceEqDiff, Nat.reduceAdd, Nat.reduceLeDiff, Nat.reduceMul, Nat.reduceSub, Nat.reduceBEq, Nat.reduceLT, Int.reduceLT, Int.reduceLE, Int.reduceGT, Int.reduceGE, Int.reduceBEq, Int.reduceEq, Int.reduceToNat, Int.reduceAdd, Int.reduceSub, F46_s2, h1, F46_s3, h2, h8, h9, h11, h12, h13, h14, h15]
                try simp only [bindO_assoc]
                refine ite_ext (fun h16 => ?_) (fun h16 => ?_)
                · simp -implicitDefEqProofs only [push_cast, hty, heq, h0, Proofs.Try.f46, g46_91, g46_93, q46_136, g93_138, g93_139, g138_94, hty93, heq93, h093, Proofs.Try.f93, hty138, heq138, h0138, Proofs.Try.f138, hty139, heq139, h0139, Proofs.Try.f139, reduceCtorEq, Nat.reduceEqDiff, Nat.reduceAdd, Nat.reduceLeDiff, Nat.reduceMul, Nat.reduceSub, Nat.reduceBEq, Nat.reduceLT, Int.reduceLT, Int.reduceLE, Int.reduceGT, Int.reduceGE, Int.reduceBEq, Int.reduceEq, Int.reduceToNat, Int.reduceAdd, Int.reduceSub, F46_s2, h1, F46_s3, h2, h8, h9, h11, h12, h13, h14, h15, h16]
                · simp -implicitDefEqProofs only [push_cast, hty, heq, h0, Proofs.Try.f46, g46_91, g46_93, q46_136, g93_138, g93_139, g138_94, hty93, heq93, h093, Proofs.Try.f93, hty138, heq138, h0138, Proofs.Try.f138, hty139, heq139, h0139, Proofs.Try.f139, reduceCtorEq, Nat.reduceEqDiff, Nat.reduceAdd, Nat.reduceLeDiff, Nat.reduceMul, Nat.reduceSub, Nat.reduceBEq, Nat.reduceLT, Int.reduceLT, Int.reduceLE, Int.reduceGT, Int.reduceGE, Int.reduceBEq, Int.reduceEq, Int.reduceToNat, Int.reduceAdd, Int.reduceSub, F46_s2, h1, F46_s3, h2, h8, h9, h11, h12, h13, h14, h15, h16]
              · simp -implicitDefEqProofs only [push_cast, hty, heq, h0, Proofs.Try.f46, g46_91, g46_93, q46_136, g93_138, g93_139, g138_94, hty93, heq93, h093, Proofs.Try.f93, hty138, heq138, h0138, Proofs.Try.f138, hty139, heq139, h0139, Proofs.Try.f139, reduceCtorEq, Nat.reduceEqDiff, Nat.reduceAdd, Nat.reduceLeDiff, Nat.reduceMul, Nat.reduceSub, Nat.reduceBEq, Nat.reduceLT, Int.reduceLT, Int.reduceLE, Int.reduceGT, Int.reduceGE, Int.reduceBEq, Int.reduceEq, Int.reduceToNat, Int.reduceAdd, Int.reduceSub, F46_s2, h1, F46_s3, h2, h8, h9, h11, h12, h13, h14, h15]
            · simp -implicitDefEqProofs only [push_cast, hty, heq, h0, Proofs.Try.f46, g46_91, g46_93, q46_136, g93_138, g93_139, g138_94, hty93, heq93, h093, Proofs.Try.f93, hty138, heq138, h0138, Proofs.Try.f138, hty139, heq139, h0139, Proofs.Try.f139, reduceCtorEq, Nat.reduceEqDiff, Nat.reduceAdd, Nat.reduceLeDiff, Nat.reduceMul, Nat.reduceSub, Nat.reduceBEq, Nat.reduceLT, Int.reduceLT, Int.reduceLE, Int.reduceGT, Int.reduceGE, Int.reduceBEq, Int.reduceEq, Int.reduceToNat, Int.reduceAdd, Int.reduceSub, F46_s2, h1, F46_s3, h2, h8, h9, h11, h12, h13, h14]
        · try simp -implicitDefEqProofs only [push_cast, hty, heq, h0, Proofs.Try.f46, g46_91, g46_93, q46_136, g93_138, g93_139, g138_94, hty93, heq93, h093, Proofs.Try.f93, hty138, heq138, h0138, Proofs.Try.f138, hty139, heq139, h0139, Proofs.Try.f139, reduceCtorEq, Nat.reduceEqDiff, Nat.reduceAdd, Nat.reduceLeDiff, Nat.reduceMul, Nat.reduceSub, Nat.reduceBEq, Nat.reduceLT, Int.reduceLT, Int.reduceLE, Int.reduceGT, Int.reduceGE, Int.reduceBEq, Int.reduceEq, Int.reduceToNat, Int.reduceAdd, Int.reduceSub, F46_s2, h1, F46_s3, h2, h8]
          try simp only [bindO_assoc]
          refine ite_ext (fun h17 => ?_) (fun h17 => ?_)
          · try simp -implicitDefEqProofs only [push_cast, hty, heq, h0, Proofs.Try.f46, g46_91, g46_93, q46_136, g93_138, g93_139, g138_94, hty93, heq93, h093, Proofs.Try.f93, hty138, heq138, h0138, Proofs.Try.f138, hty139, heq139, h0139, Proofs.Try.f139, reduceCtorEq, Nat.reduceEqDiff, Nat.reduceAdd, Nat.reduceLeDiff, Nat.reduceMul, Nat.reduceSub, Nat.reduceBEq, Nat.reduceLT, Int.reduceLT, Int.reduceLE, Int.reduceGT, Int.reduceGE, Int.reduceBEq, Int.reduceEq, Int.reduceToNat, Int.reduceAdd, Int.reduceSub, F46_s2, h1, F46_s3, h2, h8, h17]
            try simp only [bindO_assoc]
            refine ite_ext (fun h18 => ?_) (fun h18 => ?_)
            · try simp -implicitDefEqProofs only [push_cast, hty, heq, h0, Proofs.Try.f46, g46_91, g46_93, q46_136, g93_138, g93_139, g138_94, hty93, heq93, h093, Proofs.Try.f93, hty138, heq138, h0138, Proofs.Try.f138, hty139, heq139, h0139, Proofs.Try.f139, reduceCtorEq, Nat.reduceEqDiff, Nat.reduceAdd, Nat.reduceLeDiff, Nat.reduceMul, Nat.reduceSub, Nat.reduceBEq, Nat.reduceLT, Int.reduceLT, Int.reduceLE, Int.reduceGT, Int.reduceGE, Int.reduceBEq, Int.reduceEq, Int.reduceToNat, Int.reduceAdd, Int.reduceSub, F46_s2, h1, F46_s3, h2, h8, h17, h18]
              try simp only [bindO_assoc]
              refine ite_ext (fun h19 => ?_) (fun h19 => ?_)
              · simp -implicitDefEqProofs only [push_cast, hty, heq, h0, Proofs.Try.f46, g46_91, g46_93, q46_136, g93_138, g93_139, g138_94, hty93, heq93, h093, Proofs.Try.f93, hty138, heq138, h0138, Proofs.Try.f138, hty139, heq139, h0139, Proofs.Try.f139, reduceCtorEq, Nat.reduceEqDiff, Nat.reduceAdd, Nat.reduceLeDiff, Nat.reduceMul, Nat.reduceSub, Nat.reduceBEq, Nat.reduceLT, Int.reduceLT, Int.reduceLE, Int.reduceGT, Int.reduceGE, Int.reduceBEq, Int.reduceEq, Int.reduceToNat, Int.reduceAdd, Int.reduceSub, F46_s2, h1, F46_s3, h2, h8, h17, h18, h19]
              · simp -implicitDefEqProofs only [push_cast, hty, heq, h0, Proofs.Try.f46, g46_91, g46_93, q46_136, g93_138, g93_139, g138_94, hty93, heq93, h093, Proofs.Try.f93, hty138, heq138, h0138, Proofs.Try.f138, hty139, heq139, h0139, Proofs.Try.f139, reduceCtorEq, Nat.reduceEqDiff, Nat.reduceAdd, Nat.reduceLeDiff, Nat.reduceMul, Nat.reduceSub, Nat.reduceBEq, Nat.reduceLT, Int.reduceLT, Int.reduceLE, Int.reduceGT, Int.reduceGE, Int.reduceBEq, Int.reduceEq, Int.reduceToNat, Int.reduceAdd, Int.reduceSub, F46_s2, h1, F46_s3, h2, h8, h17, h18, h19]
            · simp -implicitDefEqProofs only [push_cast, hty, heq, h0, Proofs.Try.f46, g46_91, g46_93, q46_136, g93_138, g93_139, g138_94, hty93, heq93, h093, Proofs.Try.f93, hty138, heq138, h0138, Proofs.Try.f138, hty139, heq139, h0139, Proofs.Try.f139, reduceCtorEq, Nat.reduceEqDiff, Nat.reduceAdd, Nat.reduceLeDiff, Nat.reduceMul, Nat.reduceSub, Nat.reduceBEq, Nat.reduceLT, Int.reduceLT, Int.reduceLE, Int.reduceGT, Int.reduceGE, Int.reduceBEq, Int.reduceEq, Int.reduceToNat, Int.reduceAdd, Int.reduceSub, F46_s2, h1, F46_s3, h2, h8, h17, h18]
          · simp -implicitDefEqProofs only [push_cast, hty, heq, h0, Proofs.Try.f46, g46_91, g46_93, q46_136, g93_138, g93_139, g138_94, hty93, heq93, h093, Proofs.Try.f93, hty138, heq138, h0138, Proofs.Try.f138, hty139, heq139, h0139, Proofs.Try.f139, reduceCtorEq, Nat.reduceEqDiff, Nat.reduceAdd, Nat.reduceLeDiff, Nat.reduceMul, Nat.reduceSub, Nat.reduceBEq, Nat.reduceLT, Int.reduceLT, Int.reduceLE, Int.reduceGT, Int.reduceGE, Int.reduceBEq, Int.reduceEq, Int.reduceToNat, Int.reduceAdd, Int.reduceSub, F46_s2, h1, F46_s3, h2, h8, h17]
    · simp -implicitDefEqProofs only [push_cast, hty, heq, h0, Proofs.Try.f46, g46_91, g46_93, q46_136, g93_138, g93_139, g138_94, hty93, heq93, h093, Proofs.Try.f93, hty138, heq138, h0138, Proofs.Try.f138, hty139, heq139, h0139, Proofs.Try.f139, reduceCtorEq, Nat.reduceEqDiff, Nat.reduceAdd, Nat.reduceLeDiff, Nat.reduceMul, Nat.reduceSub, Nat.reduceBEq, Nat.reduceLT, Int.reduceLT, Int.reduceLE, Int.reduceGT, Int.reduceGE, Int.reduceBEq, Int.reduceEq, Int.reduceToNat, Int.reduceAdd, Int.reduceSub, F46_s2, h1]
  · intro s6
    simp -implicitDefEqProofs only [push_cast, hty, heq, h0, Proofs.Try.f46, g46_91, g46_93, q46_136, g93_138, g93_139, g138_94, hty93, heq93, h093, Proofs.Try.f93, hty138, heq138, h0138, Proofs.Try.f138, hty139, heq139, h0139, Proofs.Try.f139, reduceCtorEq, Nat.reduceEqDiff, Nat.reduceAdd, Nat.reduceLeDiff, Nat.reduceMul, Nat.reduceSub, Nat.reduceBEq, Nat.reduceLT, Int.reduceLT, Int.reduceLE, Int.reduceGT, Int.reduceGE, Int.reduceBEq, Int.reduceEq, Int.reduceToNat, Int.reduceAdd, Int.reduceSub, F46_f2]
theorem ev12 {E : Env} {N : Nat} (hB : N ≤ 4611686018427387904) (hty : E.ty = tys) (heq : E.eqt = eqts) (h0 : E.n0 = 0) (g12_14 : ∀ vs σ, E.tab 14 vs σ = plain (t14 N) vs σ) (g12_37 : ∀ vs σ, E.tab 37 vs σ = plain (t37) vs σ) (g12_46 : ∀ vs σ, E.tab 46 vs σ = plain (t46 N) vs σ)  :
    bindO (aPure E Proofs.Try.f12 H12 N []) (cv sh12) = bindO (F12 N) fun r => some (v12 r) := by
  unfold F12
  rw [r_pure]
  unfold sh12
  try simp -implicitDefEqProofs only [push_cast, hty, heq, h0, Proofs.Try.f12, g12_14, g12_37, g12_46, reduceCtorEq, Nat.reduceEqDiff, Nat.reduceAdd, Nat.reduceLeDiff, Nat.reduceMul, Nat.reduceSub, Nat.reduceBEq, Nat.reduceLT, Int.reduceLT, Int.reduceLE, Int.reduceGT, Int.reduceGE, Int.reduceBEq, Int.reduceEq, Int.reduceToNat, Int.reduceAdd, Int.reduceSub]
  try simp only [bindO_assoc]
  refine bindO_ext fun r1 => ?_
  try simp -implicitDefEqProofs only [push_cast, hty, heq, h0, Proofs.Try.f12, g12_14, g12_37, g12_46, reduceCtorEq, Nat.reduceEqDiff, Nat.reduceAdd, Nat.reduceLeDiff, Nat.reduceMul, Nat.reduceSub, Nat.reduceBEq, Nat.reduceLT, Int.reduceLT, Int.reduceLE, Int.reduceGT, Int.reduceGE, Int.reduceBEq, Int.reduceEq, Int.reduceToNat, Int.reduceAdd, Int.reduceSub]
  try simp only [bindO_assoc]
  refine ite_ext (fun h1 => ?_) (fun h1 => ?_)
  · try simp -implicitDefEqProofs only [push_cast, hty, heq, h0, Proofs.Try.f12, g12_14, g12_37, g12_46, reduceCtorEq, Nat.reduceEqDiff, Nat.reduceAdd, Nat.reduceLeDiff, Nat.reduceMul, Nat.reduceSub, Nat.reduceBEq, Nat.reduceLT, Int.reduceLT, Int.reduceLE, Int.reduceGT, Int.reduceGE, Int.reduceBEq, Int.reduceEq, Int.reduceToNat, Int.reduceAdd, Int.reduceSub, h1]
    try simp only [bindO_assoc]
    refine bindO_ext fun r2 => ?_
    try simp -implicitDefEqProofs only [push_cast, hty, heq, h0, Proofs.Try.f12, g12_14, g12_37, g12_46, reduceCtorEq, Nat.reduceEqDiff, Nat.reduceAdd, Nat.reduceLeDiff, Nat.reduceMul, Nat.reduceSub, Nat.reduceBEq, Nat.reduceLT, Int.reduceLT, Int.reduceLE, Int.reduceGT, Int.reduceGE, Int.reduceBEq, Int.reduceEq, Int.reduceToNat, Int.reduceAdd, Int.reduceSub, h1]
    try simp only [bindO_assoc]
    refine ite_ext (fun h2 => ?_) (fun h2 => ?_)
    · try simp -implicitDefEqProofs only [push_cast, hty, heq, h0, Proofs.Try.f12, g12_14, g12_37, g12_46, reduceCtorEq, Nat.reduceEqDiff, Nat.reduceAdd, Nat.reduceLeDiff, Nat.reduceMul, Nat.reduceSub, Nat.reduceBEq, Nat.reduceLT, Int.reduceLT, Int.reduceLE, Int.reduceGT, Int.reduceGE, Int.reduceBEq, Int.reduceEq, Int.reduceToNat, Int.reduceAdd, Int.reduceSub, h1, h2]
      try simp only [bindO_assoc]
      refine bindO_ext fun r3 => ?_
      simp -implicitDefEqProofs only [push_cast, hty, heq, h0, Proofs.Try.f12, g12_14, g12_37, g12_46, reduceCtorEq, Nat.reduceEqDiff, Nat.reduceAdd, Nat.reduceLeDiff, Nat.reduceMul, Nat.reduceSub, Nat.reduceBEq, Nat.reduceLT, Int.reduceLT, Int.reduceLE, Int.reduceGT, Int.reduceGE, Int.reduceBEq, Int.reduceEq, Int.reduceToNat, Int.reduceAdd, Int.reduceSub, h1, h2]
    · simp -implicitDefEqProofs only [push_cast, hty, heq, h0, Proofs.Try.f12, g12_14, g12_37, g12_46, reduceCtorEq, Nat.reduceEqDiff, Nat.reduceAdd, Nat.reduceLeDiff, Nat.reduceMul, Nat.reduceSub, Nat.reduceBEq, Nat.reduceLT, Int.reduceLT, Int.reduceLE, Int.reduceGT, Int.reduceGE, Int.reduceBEq, Int.reduceEq, Int.reduceToNat, Int.reduceAdd, Int.reduceSub, h1, h2]
  · simp -implicitDefEqProofs only [push_cast, hty, heq, h0, Proofs.Try.f12, g12_14, g12_37, g12_46, reduceCtorEq, Nat.reduceEqDiff, Nat.reduceAdd, Nat.reduceLeDiff, Nat.reduceMul, Nat.reduceSub, Nat.reduceBEq, Nat.reduceLT, Int.reduceLT, Int.reduceLE, Int.reduceGT, Int.reduceGE, Int.reduceBEq, Int.reduceEq, Int.reduceToNat, Int.reduceAdd, Int.reduceSub, h1]
theorem ev27 {E : Env} {N : Nat} (hB : N ≤ 4611686018427387904) (self27 : Node → Option (Int)) (hty : E.ty = tys) (heq : E.eqt = eqts) (h0 : E.n0 = 0) (g27_27 : ∀ vs σ, E.tab 27 vs σ = plain (ts27 self27) vs σ) (n : Node) :
    bindO (aPure E Proofs.Try.f27 H27 N [.agg (Node.cells n)]) (cv sh27) = bindO (F27b self27 N n) fun r => some (v27 r) := by
  unfold F27b
  rw [r_pure]
  unfold sh27
  try simp -implicitDefEqProofs only [push_cast, hty, heq, h0, Proofs.Try.f27, g27_27, reduceCtorEq, Nat.reduceEqDiff, Nat.reduceAdd, Nat.reduceLeDiff, Nat.reduceMul, Nat.reduceSub, Nat.reduceBEq, Nat.reduceLT, Int.reduceLT, Int.reduceLE, Int.reduceGT, Int.reduceGE, Int.reduceBEq, Int.reduceEq, Int.reduceToNat, Int.reduceAdd, Int.reduceSub]
  try simp only [bindO_assoc]
  refine fold_loop (S := Int) n.kids (fun (i1 : Nat) (s3 : Int) => [.top, .top, .top, .int .i64 s3, .top, .top, .top, .sl false 5 (List.map Node.cells n.kids), .int .i64 (n.kids.length : Int), .int .i64 (i1 : Int), .top, .top, .top, .top, .top, .top, .top, .top, .top]) (fun (_ : Nat) (s3 : Int) => [.var [.int .i64 n.op, .int .i64 n.sortf, .str n.name, .int .i64 n.num, .sl false 5 (List.map Node.cells n.kids)]]) 1 ?_ ?_
  · intro s3 i1 x2 h1 h2 h3
    have h4 := rng_wrap h3 hB
    have h5 := lt_true h2
    have h6 := inB_lt h2
    have h7 := rng_get (c := Node.cells) h1
    have h8 := rng_getq (c := Node.cells) h1
    try simp -implicitDefEqProofs only [push_cast, hty, heq, h0, Proofs.Try.f27, g27_27, reduceCtorEq, Nat.reduceEqDiff, Nat.reduceAdd, Nat.reduceLeDiff, Nat.reduceMul, Nat.reduceSub, Nat.reduceBEq, Nat.reduceLT, Int.reduceLT, Int.reduceLE, Int.reduceGT, Int.reduceGE, Int.reduceBEq, Int.reduceEq, Int.reduceToNat, Int.reduceAdd, Int.reduceSub, h4, h5, h6, h7, h8, F27_s1]
    try simp only [bindO_assoc]
    refine bindO_ext fun r4 => ?_
    simp -implicitDefEqProofs only [push_cast, hty, heq, h0, Proofs.Try.f27, g27_27, reduceCtorEq, Nat.reduceEqDiff, Nat.reduceAdd, Nat.reduceLeDiff, Nat.reduceMul, Nat.reduceSub, Nat.reduceBEq, Nat.reduceLT, Int.reduceLT, Int.reduceLE, Int.reduceGT, Int.reduceGE, Int.reduceBEq, Int.reduceEq, Int.reduceToNat, Int.reduceAdd, Int.reduceSub, h4, h5, h6, h7, h8, F27_s1]
  · intro s3
    have h9 := lt_self (n := n.kids.length)
    simp -implicitDefEqProofs only [push_cast, hty, heq, h0, Proofs.Try.f27, g27_27, reduceCtorEq, Nat.reduceEqDiff, Nat.reduceAdd, Nat.reduceLeDiff, Nat.reduceMul, Nat.reduceSub, Nat.reduceBEq, Nat.reduceLT, Int.reduceLT, Int.reduceLE, Int.reduceGT, Int.reduceGE, Int.reduceBEq, Int.reduceEq, Int.reduceToNat, Int.reduceAdd, Int.reduceSub, h9, F27_f1]
end Go.Abs.Try
