import Derived.Test.YtjjajifecniidaaOD
namespace Go.Abs.Try
open Go.RowKit
set_option linter.unusedSimpArgs false
set_option linter.unusedVariables false
set_option maxRecDepth 100000
set_option maxHeartbeats 4000000
attribute [local push_cast] ty2 ty3 ty4 ty9 ty22 ty24
theorem ev13 {E : Env} {N : Nat} (hB : N ≤ 4611686018427387904) (hty : E.ty = tys) (heq : E.eqt = eqts) (h0 : E.n0 = 0) (g13_27 : ∀ vs σ, E.tab 27 vs σ = plain (t27 N) vs σ) (most : Int) (l : List Node) :
    bindO (aPure E Proofs.Try.f13 H13 N [.int .i64 most, .sl false 5 (List.map Node.cells l)]) (cv sh13) = bindO (F13 N most l) fun r => some (v13 r) := by
  unfold F13
  rw [r_pure]
  unfold sh13
  try simp -implicitDefEqProofs only [push_cast, hty, heq, h0, Proofs.Try.f13, g13_27, reduceCtorEq, Nat.reduceEqDiff, Nat.reduceAdd, Nat.reduceLeDiff, Nat.reduceMul, Nat.reduceSub, Nat.reduceBEq, Nat.reduceLT, Int.reduceLT, Int.reduceLE, Int.reduceGT, Int.reduceGE, Int.reduceBEq, Int.reduceEq, Int.reduceToNat, Int.reduceAdd, Int.reduceSub]
  try simp only [bindO_assoc]
  refine fold_loop (S := Int) l (fun (i1 : Nat) (s3 : Int) => [.int .i64 s3, .top, .top, .top, .top, .top, .top, .sl false 5 (List.map Node.cells l), .int .i64 (l.length : Int), .int .i64 (i1 : Int), .top, .top, .top, .top, .top, .top, .top, .top, .top, .top]) (fun (_ : Nat) (s3 : Int) => []) most ?_ ?_
  · intro s3 i1 x2 h1 h2 h3
    have h4 := rng_wrap h3 hB
    have h5 := lt_true h2
    have h6 := inB_lt h2
    have h7 := rng_get (c := Node.cells) h1
    have h8 := rng_getq (c := Node.cells) h1
    try simp -implicitDefEqProofs only [push_cast, hty, heq, h0, Proofs.Try.f13, g13_27, reduceCtorEq, Nat.reduceEqDiff, Nat.reduceAdd, Nat.reduceLeDiff, Nat.reduceMul, Nat.reduceSub, Nat.reduceBEq, Nat.reduceLT, Int.reduceLT, Int.reduceLE, Int.reduceGT, Int.reduceGE, Int.reduceBEq, Int.reduceEq, Int.reduceToNat, Int.reduceAdd, Int.reduceSub, h4, h5, h6, h7, h8, F13_s1]
    try simp only [bindO_assoc]
    refine bindO_ext fun r4 => ?_
    simp -implicitDefEqProofs only [push_cast, hty, heq, h0, Proofs.Try.f13, g13_27, reduceCtorEq, Nat.reduceEqDiff, Nat.reduceAdd, Nat.reduceLeDiff, Nat.reduceMul, Nat.reduceSub, Nat.reduceBEq, Nat.reduceLT, Int.reduceLT, Int.reduceLE, Int.reduceGT, Int.reduceGE, Int.reduceBEq, Int.reduceEq, Int.reduceToNat, Int.reduceAdd, Int.reduceSub, h4, h5, h6, h7, h8, F13_s1]
  · intro s3
    have h9 := lt_self (n := l.length)
    simp -implicitDefEqProofs only [push_cast, hty, heq, h0, Proofs.Try.f13, g13_27, reduceCtorEq, Nat.reduceEqDiff, Nat.reduceAdd, Nat.reduceLeDiff, Nat.reduceMul, Nat.reduceSub, Nat.reduceBEq, Nat.reduceLT, Int.reduceLT, Int.reduceLE, Int.reduceGT, Int.reduceGE, Int.reduceBEq, Int.reduceEq, Int.reduceToNat, Int.reduceAdd, Int.reduceSub, h9, F13_f1]
theorem ev80 {E : Env} {N : Nat} (hB : N ≤ 4611686018427387904) (hty : E.ty = tys) (heq : E.eqt = eqts) (h0 : E.n0 = 0)  (a : Int) (b : Int) :
    bindO (aPure E Proofs.Try.f80 H80 N [.int .i64 a, .int .i64 b]) (cv sh80) = bindO (F80 a b) fun r => some (v80 r) := by
  unfold F80
  rw [r_pure]
  unfold sh80
  try simp -implicitDefEqProofs only [push_cast, hty, heq, h0, Proofs.Try.f80, reduceCtorEq, Nat.reduceEqDiff, Nat.reduceAdd, Nat.reduceLeDiff, Nat.reduceMul, Nat.reduceSub, Nat.reduceBEq, Nat.reduceLT, Int.reduceLT, Int.reduceLE, Int.reduceGT, Int.reduceGE, Int.reduceBEq, Int.reduceEq, Int.reduceToNat, Int.reduceAdd, Int.reduceSub]
  try simp only [bindO_assoc]
  refine ite_ext (fun h1 => ?_) (fun h1 => ?_)
  · simp -implicitDefEqProofs only [push_cast, hty, heq, h0, Proofs.Try.f80, reduceCtorEq, Nat.reduceEqDiff, Nat.reduceAdd, Nat.reduceLeDiff, Nat.reduceMul, Nat.reduceSub, Nat.reduceBEq, Nat.reduceLT, Int.reduceLT, Int.reduceLE, Int.reduceGT, Int.reduceGE, Int.reduceBEq, Int.reduceEq, Int.reduceToNat, Int.reduceAdd, Int.reduceSub, h1]
  · try simp -implicitDefEqProofs only [push_cast, hty, heq, h0, Proofs.Try.f80, reduceCtorEq, Nat.reduceEqDiff, Nat.reduceAdd, Nat.reduceLeDiff, Nat.reduceMul, Nat.reduceSub, Nat.reduceBEq, Nat.reduceLT, Int.reduceLT, Int.reduceLE, Int.reduceGT, Int.reduceGE, Int.reduceBEq, Int.reduceEq, Int.reduceToNat, Int.reduceAdd, Int.reduceSub, h1]
    try simp only [bindO_assoc]
    refine ite_ext (fun h2 => ?_) (fun h2 => ?_)
    · simp -implicitDefEqProofs only [push_cast, hty, heq, h0, Proofs.Try.f80, reduceCtorEq, Nat.reduceEqDiff, Nat.reduceAdd, Nat.reduceLeDiff, Nat.reduceMul, Nat.reduceSub, Nat.reduceBEq, Nat.reduceLT, Int.reduceLT, Int.reduceLE, Int.reduceGT, Int.reduceGE, Int.reduceBEq, Int.reduceEq, Int.reduceToNat, Int.reduceAdd, Int.reduceSub, h1, h2]
    · simp -implicitDefEqProofs only [push_cast, hty, heq, h0, Proofs.Try.f80, reduceCtorEq, Nat.reduceEqDiff, Nat.reduceAdd, Nat.reduceLeDiff, Nat.reduceMul, Nat.reduceSub, Nat.reduceBEq, Nat.reduceLT, Int.reduceLT, Int.reduceLE, Int.reduceGT, Int.reduceGE, Int.reduceBEq, Int.reduceEq, Int.reduceToNat, Int.reduceAdd, Int.reduceSub, h1, h2]
theorem ev18 {E : Env} {N : Nat} (hB : N ≤ 4611686018427387904) (self18 : Node → Node → Option (Int)) (hty : E.ty = tys) (heq : E.eqt = eqts) (h0 : E.n0 = 0) (g18_78 : ∀ vs σ, E.tab 78 vs σ = plain (t78) vs σ) (g18_79 : ∀ vs σ, E.tab 79 vs σ = plain (t79) vs σ) (g18_80 : ∀ vs σ, E.tab 80 vs σ = plain (t80) vs σ) (g18_18 : ∀ vs σ, E.tab 18 vs σ = plain (ts18 self18) vs σ) (a : Node) (b : Node) :
    bindO (aPure E Proofs.Try.f18 H18 N [.agg (Node.cells a), .agg (Node.cells b)]) (cv sh18) = bindO (F18b self18 N a b) fun r => some (v18 r) := by
  unfold F18b
  rw [r_pure]
  unfold sh18
  try simp -implicitDefEqProofs only [push_cast, hty, heq, h0, Proofs.Try.f18, g18_78, g18_79, g18_80, g18_18, reduceCtorEq, Nat.reduceEqDiff, Nat.reduceAdd, Nat.reduceLeDiff, Nat.reduceMul, Nat.reduceSub, Nat.reduceBEq, Nat.reduceLT, Int.reduceLT, Int.reduceLE, Int.reduceGT, Int.reduceGE, Int.reduceBEq, Int.reduceEq, Int.reduceToNat, Int.reduceAdd, Int.reduceSub]
  try simp only [bindO_assoc]
  refine bindO_ext fun r1 => ?_
  try simp -implicitDefEqProofs only [push_cast, hty, heq, h0, Proofs.Try.f18, g18_78, g18_79, g18_80, g18_18, reduceCtorEq, Nat.reduceEqDiff, Nat.reduceAdd, Nat.reduceLeDiff, Nat.reduceMul, Nat.reduceSub, Nat.reduceBEq, Nat.reduceLT, Int.reduceLT, Int.reduceLE, Int.reduceGT, Int.reduceGE, Int.reduceBEq, Int.reduceEq, Int.reduceToNat, Int.reduceAdd, Int.reduceSub]
  try simp only [bindO_assoc]
  refine iten_ext (fun h1 => ?_) (fun h1 => ?_)
  · try simp -implicitDefEqProofs only [push_cast, hty, heq, h0, Proofs.Try.f18, g18_78, g18_79, g18_80, g18_18, reduceCtorEq, Nat.reduceEqDiff, Nat.reduceAdd, Nat.reduceLeDiff, Nat.reduceMul, Nat.reduceSub, Nat.reduceBEq, Nat.reduceLT, Int.reduceLT, Int.reduceLE, Int.reduceGT, Int.reduceGE, Int.reduceBEq, Int.reduceEq, Int.reduceToNat, Int.reduceAdd, Int.reduceSub, h1]
    try simp only [bindO_assoc]
    refine bindO_ext fun r2 => ?_
    try simp -implicitDefEqProofs only [push_cast, hty, heq, h0, Proofs.Try.f18, g18_78, g18_79, g18_80, g18_18, reduceCtorEq, Nat.reduceEqDiff, Nat.reduceAdd, Nat.reduceLeDiff, Nat.reduceMul, Nat.reduceSub, Nat.reduceBEq, Nat.reduceLT, Int.reduceLT, Int.reduceLE, Int.reduceGT, Int.reduceGE, Int.reduceBEq, Int.reduceEq, Int.reduceToNat, Int.reduceAdd, Int.reduceSub, h1]
    try simp only [bindO_assoc]
    refine iten_ext (fun h2 => ?_) (fun h2 => ?_)
    · try simp -implicitDefEqProofs only [push_cast, hty, heq, h0, Proofs.Try.f18, g18_78, g18_79, g18_80, g18_18, reduceCtorEq, Nat.reduceEqDiff, Nat.reduceAdd, Nat.reduceLeDiff, Nat.reduceMul, Nat.reduceSub, Nat.reduceBEq, Nat.reduceLT, Int.reduceLT, Int.reduceLE, Int.reduceGT, Int.reduceGE, Int.reduceBEq, Int.reduceEq, Int.reduceToNat, Int.reduceAdd, Int.reduceSub, h1, h2]
      try simp only [bindO_assoc]
      refine bindO_ext fun r3 => ?_
      try simp -implicitDefEqProofs only [push_cast, hty, heq, h0, Proofs.Try.f18, g18_78, g18_79, g18_80, g18_18, reduceCtorEq, Nat.reduceEqDiff, Nat.reduceAdd, Nat.reduceLeDiff, Nat.reduceMul, Nat.reduceSub, Nat.reduceBEq, Nat.reduceLT, Int.reduceLT, Int.reduceLE, Int.reduceGT, Int.reduceGE, Int.reduceBEq, Int.reduceEq, Int.reduceToNat, Int.reduceAdd, Int.reduceSub, h1, h2]
      try simp only [bindO_assoc]
      refine iten_ext (fun h3 => ?_) (fun h3 => ?_)
      · try simp -implicitDefEqProofs only [push_cast, hty, heq, h0, Proofs.Try.f18, g18_78, g18_79, g18_80, g18_18, reduceCtorEq, Nat.reduceEqDiff, Nat.reduceAdd, Nat.reduceLeDiff, Nat.reduceMul, Nat.reduceSub, Nat.reduceBEq, Nat.reduceLT, Int.reduceLT, Int.reduceLE, Int.reduceGT, Int.reduceGE, Int.reduceBEq, Int.reduceEq, Int.reduceToNat, Int.reduceAdd, Int.reduceSub, h1, h2, h3]
        try simp only [bindO_assoc]
        refine bindO_ext fun r4 => ?_
        try simp -implicitDefEqProofs only [push_cast, hty, heq, h0, Proofs.Try.f18, g18_78, g18_79, g18_80, g18_18, reduceCtorEq, Nat.reduceEqDiff, Nat.reduceAdd, Nat.reduceLeDiff, Nat.reduceMul, Nat.reduceSub, Nat.reduceBEq, Nat.reduceLT, Int.reduceLT, Int.reduceLE, Int.reduceGT, Int.reduceGE, Int.reduceBEq, Int.reduceEq, Int.reduceToNat, Int.reduceAdd, Int.reduceSub, h1, h2, h3]
        try simp only [bindO_assoc]
        refine iten_ext (fun h4 => ?_) (fun h4 => ?_)
        · try simp -implicitDefEqProofs only [push_cast, hty, heq, h0, Proofs.Try.f18, g18_78, g18_79, g18_80, g18_18, reduceCtorEq, Nat.reduceEqDiff, Nat.reduceAdd, Nat.reduceLeDiff, Nat.reduceMul, Nat.reduceSub, Nat.reduceBEq, Nat.reduceLT, Int.reduceLT, Int.reduceLE, Int.reduceGT, Int.reduceGE, Int.reduceBEq, Int.reduceEq, Int.reduceToNat, Int.reduceAdd, Int.reduceSub, h1, h2, h3, h4]
          try simp only [bindO_assoc]
          refine bindO_ext fun r5 => ?_
          try simp -implicitDefEqProofs only [push_cast, hty, heq, h0, Proofs.Try.f18, g18_78, g18_79, g18_80, g18_18, reduceCtorEq, Nat.reduceEqDiff, Nat.reduceAdd, Nat.reduceLeDiff, Nat.reduceMul, Nat.reduceSub, Nat.reduceBEq, Nat.reduceLT, Int.reduceLT, Int.reduceLE, Int.reduceGT, Int.reduceGE, Int.reduceBEq, Int.reduceEq, Int.reduceToNat, Int.reduceAdd, Int.reduceSub, h1, h2, h3, h4]
          try simp only [bindO_assoc]
          refine iten_ext (fun h5 => ?_) (fun h5 => ?_)
          · try simp -implicitDefEqProofs only [push_cast, hty, heq, h0, Proofs.Try.f18, g18_78, g18_79, g18_80, g18_18, reduceCtorEq, Nat.reduceEqDiff, Nat.reduceAdd, Nat.reduceLeDiff, Nat.reduceMul, Nat.reduceSub, Nat.reduceBEq, Nat.reduceLT, Int.reduceLT, Int.reduceLE, Int.reduceGT, Int.reduceGE, Int.reduceBEq, Int.reduceEq, Int.reduceToNat, Int.reduceAdd, Int.reduceSub, h1, h2, h3, h4, h5]
            try simp only [bindO_assoc]
            refine fold_loop (S := Unit) a.kids (fun (i6 : Nat) (s8 : Unit) => [.top, .top, .ptr 0 0, .ptr 1 0, .top, .top, .top, .top, .top, .top, .top, .top, .top, .top, .top, .top, .top, .top, .top, .top, .top, .top, .top, .top, .top, .top, .top, .top, .top, .top, .top, .top, .top, .top, .top, .top, .top, .top, .top, .top, .top, .top, .top, .top, .top, .top, .top, .top, .top, .top, .top, .top, .top, .top, .top, .top, .int .i64 (a.kids.length : Int), .int .i64 (i6 : Int), .top, .top, .top, .top, .top, .top, .top, .top, .top, .top, .top, .top, .top, .top, .top, .top, .top]) (fun (_ : Nat) (s8 : Unit) => [.var [.int .i64 a.op, .int .i64 a.sortf, .str a.name, .int .i64 a.num, .sl false 5 (List.map Node.cells a.kids)], .var [.int .i64 b.op, .int .i64 b.sortf, .str b.name, .int .i64 b.num, .sl false 5 (List.map Node.cells b.kids)]]) () ?_ ?_
            · intro s8 i6 x7 h6 h7 h8
              have h9 := rng_wrap h8 hB
              have h10 := lt_true h7
              have h11 := inB_lt h7
              have h12 := rng_get (c := Node.cells) h6
              have h13 := rng_getq (c := Node.cells) h6
              try simp -implicitDefEqProofs only [push_cast, hty, heq, h0, Proofs.Try.f18, g18_78, g18_79, g18_80, g18_18, reduceCtorEq, Nat.reduceEqDiff, Nat.reduceAdd, Nat.reduceLeDiff, Nat.reduceMul, Nat.reduceSub, Nat.reduceBEq, Nat.reduceLT, Int.reduceLT, Int.reduceLE, Int.reduceGT, Int.reduceGE, Int.reduceBEq, Int.reduceEq, Int.reduceToNat, Int.reduceAdd, Int.reduceSub, h1, h2, h3, h4, h5, h9, h10, h11, h12, h13, F18_s1]
              try simp only [bindO_assoc]
              refine at_sl (c := Node.cells) fun x9 h14 h15 h16 h17 => ?_
              try simp only [Int.reduceToNat, Int.toNat_natCast] at h16 h17
              try simp -implicitDefEqProofs only [push_cast, hty, heq, h0, Proofs.Try.f18, g18_78, g18_79, g18_80, g18_18, reduceCtorEq, Nat.reduceEqDiff, Nat.reduceAdd, Nat.reduceLeDiff, Nat.reduceMul, Nat.reduceSub, Nat.reduceBEq, Nat.reduceLT, Int.reduceLT, Int.reduceLE, Int.reduceGT, Int.reduceGE, Int.reduceBEq, Int.reduceEq, Int.reduceToNat, Int.reduceAdd, Int.reduceSub, h1, h2, h3, h4, h5, h9, h10, h11, h12, h13, F18_s1, h14, h16, h17]
              try simp only [bindO_assoc]
              refine bindO_ext fun r10 => ?_
              try simp -implicitDefEqProofs only [push_cast, hty, heq, h0, Proofs.Try.f18, g18_78, g18_79, g18_80, g18_18, reduceCtorEq, Nat.reduceEqDiff, Nat.reduceAdd, Nat.reduceLeDiff, Nat.reduceMul, Nat.reduceSub, Nat.reduceBEq, Nat.reduceLT, Int.reduceLT, Int.reduceLE, Int.reduceGT, Int.reduceGE, Int.reduceBEq, Int.reduceEq, Int.reduceToNat, Int.reduceAdd, Int.reduceSub, h1, h2, h3, h4, h5, h9, h10, h11, h12, h13, F18_s1, h14, h16, h17]
              try simp only [bindO_assoc]
              refine iten_ext (fun h18 => ?_) (fun h18 => ?_)
              · simp -implicitDefEqProofs only [push_cast, hty, heq, h0, Proofs.Try.f18, g18_78, g18_79, g18_80, g18_18, reduceCtorEq, Nat.reduceEqDiff, Nat.reduceAdd, Nat.reduceLeDiff, Nat.reduceMul, Nat.reduceSub, Nat.reduceBEq, Nat.reduceLT, Int.reduceLT, Int.reduceLE, Int.reduceGT, Int.reduceGE, Int.reduceBEq, Int.reduceEq, Int.reduceToNat, Int.reduceAdd, Int.reduceSub, h1, h2, h3, h4, h5, h9, h10, h11, h12, h13, F18_s1, h14, h16, h17, h18]
              · simp -implicitDefEqProofs only [push_cast, hty, heq, h0, Proofs.Try.f18, g18_78, g18_79, g18_80, g18_18, reduceCtorEq, Nat.reduceEqDiff, Nat.reduceAdd, Nat.reduceLeDiff, Nat.reduceMul, Nat.reduceSub, Nat.reduceBEq, Nat.reduceLT, Int.reduceLT, Int.reduceLE, Int.reduceGT, Int.reduceGE, Int.reduceBEq, Int.reduceEq, Int.reduceToNat, Int.reduceAdd, Int.reduceSub, h1, h2, h3, h4, h5, h9, h10, h11, h12, h13, F18_s1, h14, h16, h17, h18]
            · intro s8
              have h19 := lt_self (n := a.kids.length)
              simp -implicitDefEqProofs only [push_cast, hty, heq, h0, Proofs.Try.f18, g18_78, g18_79, g18_80, g18_18, reduceCtorEq, Nat.reduceEqDiff, Nat.reduceAdd, Nat.reduceLeDiff, Nat.reduceMul, Nat.reduceSub, Nat.reduceBEq, Nat.reduceLT, Int.reduceLT, Int.reduceLE, Int.reduceGT, Int.reduceGE, Int.reduceBEq, Int.reduceEq, Int.reduceToNat, Int.reduceAdd, Int.reduceSub, h1, h2, h3, h4, h5, h19, F18_f1]
          · simp -implicitDefEqProofs only [push_cast, hty, heq, h0, Proofs.Try.f18, g18_78, g18_79, g18_80, g18_18, reduceCtorEq, Nat.reduceEqDiff, Nat.reduceAdd, Nat.reduceLeDiff, Nat.reduceMul, Nat.reduceSub, Nat.reduceBEq, Nat.reduceLT, Int.reduceLT, Int.reduceLE, Int.reduceGT, Int.reduceGE, Int.reduceBEq, Int.reduceEq, Int.reduceToNat, Int.reduceAdd, Int.reduceSub, h1, h2, h3, h4, h5]
        · simp -implicitDefEqProofs only [push_cast, hty, heq, h0, Proofs.Try.f18, g18_78, g18_79, g18_80, g18_18, reduceCtorEq, Nat.reduceEqDiff, Nat.reduceAdd, Nat.reduceLeDiff, Nat.reduceMul, Nat.reduceSub, Nat.reduceBEq, Nat.reduceLT, Int.reduceLT, Int.reduceLE, Int.reduceGT, Int.reduceGE, Int.reduceBEq, Int.reduceEq, Int.reduceToNat, Int.reduceAdd, Int.reduceSub, h1, h2, h3, h4]
      · simp -implicitDefEqProofs only [push_cast, hty, heq, h0, Proofs.Try.f18, g18_78, g18_79, g18_80, g18_18, reduceCtorEq, Nat.reduceEqDiff, Nat.reduceAdd, Nat.reduceLeDiff, Nat.reduceMul, Nat.reduceSub, Nat.reduceBEq, Nat.reduceLT, Int.reduceLT, Int.reduceLE, Int.reduceGT, Int.reduceGE, Int.reduceBEq, Int.reduceEq, Int.reduceToNat, Int.reduceAdd, Int.reduceSub, h1, h2, h3]
    · simp -implicitDefEqProofs only [push_cast, hty, heq, h0, Proofs.Try.f18, g18_78, g18_79, g18_80, g18_18, reduceCtorEq, Nat.reduceEqDiff, Nat.reduceAdd, Nat.reduceLeDiff, Nat.reduceMul, Nat.reduceSub, Nat.reduceBEq, Nat.reduceLT, Int.reduceLT, Int.reduceLE, Int.reduceGT, Int.reduceGE, Int.reduceBEq, Int.reduceEq, Int.reduceToNat, Int.reduceAdd, Int.reduceSub, h1, h2]
  · simp -implicitDefEqProofs only [push_cast, hty, heq, h0, Proofs.Try.f18, g18_78, g18_79, g18_80, g18_18, reduceCtorEq, Nat.reduceEqDiff, Nat.reduceAdd, Nat.reduceLeDiff, Nat.reduceMul, Nat.reduceSub, Nat.reduceBEq, Nat.reduceLT, Int.reduceLT, Int.reduceLE, Int.reduceGT, Int.reduceGE, Int.reduceBEq, Int.reduceEq, Int.reduceToNat, Int.reduceAdd, Int.reduceSub, h1]
theorem ev81 {E : Env} {N : Nat} (hB : N ≤ 4611686018427387904) (hty : E.ty = tys) (heq : E.eqt = eqts) (h0 : E.n0 = 0)  (a : Int) (b : Int) :
    bindO (aPure E Proofs.Try.f81 H81 N [.int .i64 a, .int .i64 b]) (cv sh81) = bindO (F81 a b) fun r => some (v81 r) := by
  unfold F81
  rw [r_pure]
  unfold sh81
  try simp -implicitDefEqProofs only [push_cast, hty, heq, h0, Proofs.Try.f81, reduceCtorEq, Nat.reduceEqDiff, Nat.reduceAdd, Nat.reduceLeDiff, Nat.reduceMul, Nat.reduceSub, Nat.reduceBEq, Nat.reduceLT, Int.reduceLT, Int.reduceLE, Int.reduceGT, Int.reduceGE, Int.reduceBEq, Int.reduceEq, Int.reduceToNat, Int.reduceAdd, Int.reduceSub]
  try simp only [bindO_assoc]
  refine ite_ext (fun h1 => ?_) (fun h1 => ?_)
  · simp -implicitDefEqProofs only [push_cast, hty, heq, h0, Proofs.Try.f81, reduceCtorEq, Nat.reduceEqDiff, Nat.reduceAdd, Nat.reduceLeDiff, Nat.reduceMul, Nat.reduceSub, Nat.reduceBEq, Nat.reduceLT, Int.reduceLT, Int.reduceLE, Int.reduceGT, Int.reduceGE, Int.reduceBEq, Int.reduceEq, Int.reduceToNat, Int.reduceAdd, Int.reduceSub, h1]
  · try simp -implicitDefEqProofs only [push_cast, hty, heq, h0, Proofs.Try.f81, reduceCtorEq, Nat.reduceEqDiff, Nat.reduceAdd, Nat.reduceLeDiff, Nat.reduceMul, Nat.reduceSub, Nat.reduceBEq, Nat.reduceLT, Int.reduceLT, Int.reduceLE, Int.reduceGT, Int.reduceGE, Int.reduceBEq, Int.reduceEq, Int.reduceToNat, Int.reduceAdd, Int.reduceSub, h1]
    try simp only [bindO_assoc]
    refine ite_ext (fun h2 => ?_) (fun h2 => ?_)
    · simp -implicitDefEqProofs only [push_cast, hty, heq, h0, Proofs.Try.f81, reduceCtorEq, Nat.reduceEqDiff, Nat.reduceAdd, Nat.reduceLeDiff, Nat.reduceMul, Nat.reduceSub, Nat.reduceBEq, Nat.reduceLT, Int.reduceLT, Int.reduceLE, Int.reduceGT, Int.reduceGE, Int.reduceBEq, Int.reduceEq, Int.reduceToNat, Int.reduceAdd, Int.reduceSub, h1, h2]
    · simp -implicitDefEqProofs only [push_cast, hty, heq, h0, Proofs.Try.f81, reduceCtorEq, Nat.reduceEqDiff, Nat.reduceAdd, Nat.reduceLeDiff, Nat.reduceMul, Nat.reduceSub, Nat.reduceBEq, Nat.reduceLT, Int.reduceLT, Int.reduceLE, Int.reduceGT, Int.reduceGE, Int.reduceBEq, Int.reduceEq, Int.reduceToNat, Int.reduceAdd, Int.reduceSub, h1, h2]
theorem ev19 {E : Env} {N : Nat} (hB : N ≤ 4611686018427387904) (self19 : Node → Node → Option (Int)) (hty : E.ty = tys) (heq : E.eqt = eqts) (h0 : E.n0 = 0) (g19_81 : ∀ vs σ, E.tab 81 vs σ = plain (t81) vs σ) (g19_19 : ∀ vs σ, E.tab 19 vs σ = plain (ts19 self19) vs σ) (a : Node) (b : Node) :
    bindO (aPure E Proofs.Try.f19 H19 N [.agg (Node.cells a), .agg (Node.cells b)]) (cv sh19) = bindO (F19b self19 N a b) fun r => some (v19 r) := by
  unfold F19b
  rw [r_pure]
  unfold sh19
  try simp -implicitDefEqProofs only [push_cast, hty, heq, h0, Proofs.Try.f19, g19_81, g19_19, reduceCtorEq, Nat.reduceEqDiff, Nat.reduceAdd, Nat.reduceLeDiff, Nat.reduceMul, Nat.reduceSub, Nat.reduceBEq, Nat.reduceLT, Int.reduceLT, Int.reduceLE, Int.reduceGT, Int.reduceGE, Int.reduceBEq, Int.reduceEq, Int.reduceToNat, Int.reduceAdd, Int.reduceSub]
  try simp only [bindO_assoc]
  refine bindO_ext fun r1 => ?_
  try simp -implicitDefEqProofs only [push_cast, hty, heq, h0, Proofs.Try.f19, g19_81, g19_19, reduceCtorEq, Nat.reduceEqDiff, Nat.reduceAdd, Nat.reduceLeDiff, Nat.reduceMul, Nat.reduceSub, Nat.reduceBEq, Nat.reduceLT, Int.reduceLT, Int.reduceLE, Int.reduceGT, Int.reduceGE, Int.reduceBEq, Int.reduceEq, Int.reduceToNat, Int.reduceAdd, Int.reduceSub]
  try simp only [bindO_assoc]
  refine ite_ext (fun h1 => ?_) (fun h1 => ?_)
  · try simp -implicitDefEqProofs only [push_cast, hty, heq, h0, Proofs.Try.f19, g19_81, g19_19, reduceCtorEq, Nat.reduceEqDiff, Nat.reduceAdd, Nat.reduceLeDiff, Nat.reduceMul, Nat.reduceSub, Nat.reduceBEq, Nat.reduceLT, Int.reduceLT, Int.reduceLE, Int.reduceGT, Int.reduceGE, Int.reduceBEq, Int.reduceEq, Int.reduceToNat, Int.reduceAdd, Int.reduceSub, h1]
    try simp only [bindO_assoc]
    refine bindO_ext fun r2 => ?_
    try simp -implicitDefEqProofs only [push_cast, hty, heq, h0, Proofs.Try.f19, g19_81, g19_19, reduceCtorEq, Nat.reduceEqDiff, Nat.reduceAdd, Nat.reduceLeDiff, Nat.reduceMul, Nat.reduceSub, Nat.reduceBEq, Nat.reduceLT, Int.reduceLT, Int.reduceLE, Int.reduceGT, Int.reduceGE, Int.reduceBEq, Int.reduceEq, Int.reduceToNat, Int.reduceAdd, Int.reduceSub, h1]
    try simp only [bindO_assoc]
    refine ite_ext (fun h2 => ?_) (fun h2 => ?_)
    · try simp -implicitDefEqProofs only [push_cast, hty, heq, h0, Proofs.Try.f19, g19_81, g19_19, reduceCtorEq, Nat.reduceEqDiff, Nat.reduceAdd, Nat.reduceLeDiff, Nat.reduceMul, Nat.reduceSub, Nat.reduceBEq, Nat.reduceLT, Int.reduceLT, Int.reduceLE, Int.reduceGT, Int.reduceGE, Int.reduceBEq, Int.reduceEq, Int.reduceToNat, Int.reduceAdd, Int.reduceSub, h1, h2]
      try simp only [bindO_assoc]
      refine ite_ext (fun h3 => ?_) (fun h3 => ?_)
      · try simp -implicitDefEqProofs only [push_cast, hty, heq, h0, Proofs.Try.f19, g19_81, g19_19, reduceCtorEq, Nat.reduceEqDiff, Nat.reduceAdd, Nat.reduceLeDiff, Nat.reduceMul, Nat.reduceSub, Nat.reduceBEq, Nat.reduceLT, Int.reduceLT, Int.reduceLE, Int.reduceGT, Int.reduceGE, Int.reduceBEq, Int.reduceEq, Int.reduceToNat, Int.reduceAdd, Int.reduceSub, h1, h2, h3]
        try simp only [bindO_assoc]
        refine while_loop (S := Unit) (fun (s3 : Unit) => [.top, .top, .ptr 0 0, .ptr 1 0, .top, .int .i64 (-1), .int .i64 0, .top, .top, .top, .top, .top, .top, .top, .top, .top, .top, .top, .top, .top, .top, .top, .top, .top, .top, .top, .top, .top, .top, .top, .top, .top, .top, .top, .top, .top, .top, .top, .top, .top, .top, .top, .top, .top, .top, .top, .top, .top, .top, .top, .top, .top, .top, .top, .top, .top, .top, .top, .top, .top, .top, .top, .top, .top, .top, .top, .top, .top, .top, .top, .top, .top, .top, .top, .top, .top]) (fun (s3 : Unit) => [.var [.int .i64 a.op, .int .i64 a.sortf, .str a.name, .int .i64 a.num, .sl false 5 (List.map Node.cells a.kids)], .var [.int .i64 b.op, .int .i64 b.sortf, .str b.name, .int .i64 b.num, .sl false 5 (List.map Node.cells b.kids)]]) ?_ N ()
        intro s3
        simp -implicitDefEqProofs only [push_cast, hty, heq, h0, Proofs.Try.f19, g19_81, g19_19, reduceCtorEq, Nat.reduceEqDiff, Nat.reduceAdd, Nat.reduceLeDiff, Nat.reduceMul, Nat.reduceSub, Nat.reduceBEq, Nat.reduceLT, Int.reduceLT, Int.reduceLE, Int.reduceGT, Int.reduceGE, Int.reduceBEq, Int.reduceEq, Int.reduceToNat, Int.reduceAdd, Int.reduceSub, h1, h2, h3, F19_s1]
      · try simp -implicitDefEqProofs only [push_cast, hty, heq, h0, Proofs.Try.f19, g19_81, g19_19, reduceCtorEq, Nat.reduceEqDiff, Nat.reduceAdd, Nat.reduceLeDiff, Nat.reduceMul, Nat.reduceSub, Nat.reduceBEq, Nat.reduceLT, Int.reduceLT, Int.reduceLE, Int.reduceGT, Int.reduceGE, Int.reduceBEq, Int.reduceEq, Int.reduceToNat, Int.reduceAdd, Int.reduceSub, h1, h2, h3]
        try simp only [bindO_assoc]
        refine iten_ext (fun h4 => ?_) (fun h4 => ?_)
        · try simp -implicitDefEqProofs only [push_cast, hty, heq, h0, Proofs.Try.f19, g19_81, g19_19, reduceCtorEq, Nat.reduceEqDiff, Nat.reduceAdd, Nat.reduceLeDiff, Nat.reduceMul, Nat.reduceSub, Nat.reduceBEq, Nat.reduceLT, Int.reduceLT, Int.reduceLE, Int.reduceGT, Int.reduceGE, Int.reduceBEq, Int.reduceEq, Int.reduceToNat, Int.reduceAdd, Int.reduceSub, h1, h2, h3, h4]
          try simp only [bindO_assoc]
          refine bindO_ext fun r5 => ?_
          try simp -implicitDefEqProofs only [push_cast, hty, heq, h0, Proofs.Try.f19, g19_81, g19_19, reduceCtorEq, Nat.reduceEqDiff, Nat.reduceAdd, Nat.reduceLeDiff, Nat.reduceMul, Nat.reduceSub, Nat.reduceBEq, Nat.reduceLT, Int.reduceLT, Int.reduceLE, Int.reduceGT, Int.reduceGE, Int.reduceBEq, Int.reduceEq, Int.reduceToNat, Int.reduceAdd, Int.reduceSub, h1, h2, h3, h4]
          try simp only [bindO_assoc]
          refine ite_ext (fun h5 => ?_) (fun h5 => ?_)
          · try simp -implicitDefEqProofs only [push_cast, hty, heq, h0, Proofs.Try.f19, g19_81, g19_19, reduceCtorEq, Nat.reduceEqDiff, Nat.reduceAdd, Nat.reduceLeDiff, Nat.reduceMul, Nat.reduceSub, Nat.reduceBEq, Nat.reduceLT, Int.reduceLT, Int.reduceLE, Int.reduceGT, Int.reduceGE, Int.reduceBEq, Int.reduceEq, Int.reduceToNat, Int.reduceAdd, Int.reduceSub, h1, h2, h3, h4, h5]
            try simp only [bindO_assoc]
            refine bindO_ext fun r6 => ?_
            try simp -implicitDefEqProofs only [push_cast, hty, heq, h0, Proofs.Try.f19, g19_81, g19_19, reduceCtorEq, Nat.reduceEqDiff, Nat.reduceAdd, Nat.reduceLeDiff, Nat.reduceMul, Nat.reduceSub, Nat.reduceBEq, Nat.reduceLT, Int.reduceLT, Int.reduceLE, Int.reduceGT, Int.reduceGE, Int.reduceBEq, Int.reduceEq, Int.reduceToNat, Int.reduceAdd, Int.reduceSub, h1, h2, h3, h4, h5]
            try simp only [bindO_assoc]
            refine while_loop (S := Int × Int) (fun (s7 : Int × Int) => [.top, .top, .ptr 0 0, .ptr 1 0, .top, .int .i64 s7.1, .int .i64 s7.2, .top, .top, .top, .top, .top, .top, .top, .top, .top, .top, .top, .top, .top, .top, .top, .top, .top, .top, .top, .top, .top, .top, .top, .top, .top, .top, .top, .top, .top, .top, .top, .top, .top, .top, .top, .top, .top, .top, .top, .top, .top, .top, .top, .top, .top, .top, .top, .top, .top, .top, .top, .top, .top, .top, .top, .top, .top, .top, .top, .top, .top, .top, .top, .top, .top, .top, .top, .top, .top]) (fun (s7 : Int × Int) => [.var [.int .i64 a.op, .int .i64 a.sortf, .str a.name, .int .i64 a.num, .sl false 5 (List.map Node.cells a.kids)], .var [.int .i64 b.op, .int .i64 b.sortf, .str b.name, .int .i64 b.num, .sl false 5 (List.map Node.cells b.kids)]]) ?_ N (r6, 0)
            intro s7
            try simp -implicitDefEqProofs only [push_cast, hty, heq, h0, Proofs.Try.f19, g19_81, g19_19, reduceCtorEq, Nat.reduceEqDiff, Nat.reduceAdd, Nat.reduceLeDiff, Nat.reduceMul, Nat.reduceSub, Nat.reduceBEq, Nat.reduceLT, Int.reduceLT, Int.reduceLE, Int.reduceGT, Int.reduceGE, Int.reduceBEq, Int.reduceEq, Int.reduceToNat, Int.reduceAdd, Int.reduceSub, h1, h2, h3, h4, h5, F19_s3]
            try simp only [bindO_assoc]
            refine ite_ext (fun h6 => ?_) (fun h6 => ?_)
            · try simp -implicitDefEqProofs only [push_cast, hty, heq, h0, Proofs.Try.f19, g19_81, g19_19, reduceCtorEq, Nat.reduceEqDiff, Nat.reduceAdd, Nat.reduceLeDiff, Nat.reduceMul, Nat.reduceSub, Nat.reduceBEq, Nat.reduceLT, Int.reduceLT, Int.reduceLE, Int.reduceGT, Int.reduceGE, Int.reduceBEq, Int.reduceEq, Int.reduceToNat, Int.reduceAdd, Int.reduceSub, h1, h2, h3, h4, h5, F19_s3, h6]
              try simp only [bindO_assoc]
              refine ite_ext (fun h7 => ?_) (fun h7 => ?_)
              · try simp -implicitDefEqProofs only [push_cast, hty, heq, h0, Proofs.Try.f19, g19_81, g19_19, reduceCtorEq, Nat.reduceEqDiff, Nat.reduceAdd, Nat.reduceLeDiff, Nat.reduceMul, Nat.reduceSub, Nat.reduceBEq, Nat.reduceLT, Int.reduceLT, Int.reduceLE, Int.reduceGT, Int.reduceGE, Int.reduceBEq, Int.reduceEq, Int.reduceToNat, Int.reduceAdd, Int.reduceSub, h1, h2, h3, h4, h5, F19_s3, h6, h7]
                try simp only [bindO_assoc]
                refine at_sl (c := Node.cells) fun x8 h8 h9 h10 h11 => ?_
                try simp only [Int.reduceToNat, Int.toNat_natCast] at h10 h11
                try simp -implicitDefEqProofs only [push_cast, hty, heq, h0, Proofs.Try.f19, g19_81, g19_19, reduceCtorEq, Nat.reduceEqDiff, Nat.reduceAdd, Nat.reduceLeDiff, Nat.reduceMul, Nat.reduceSub, Nat.reduceBEq, Nat.reduceLT, Int.reduceLT, Int.reduceLE, Int.reduceGT, Int.reduceGE, Int.reduceBEq, Int.reduceEq, Int.reduceToNat, Int.reduceAdd, Int.reduceSub, h1, h2, h3, h4, h5, F19_s3, h6, h7, h8, h10, h11]
                try simp only [bindO_assoc]
                refine at_sl (c := Node.cells) fun x9 h12 h13 h14 h15 => ?_
                try simp only [Int.reduceToNat, Int.toNat_natCast] at h14 h15
                try simp -implicitDefEqProofs only [push_cast, hty, heq, h0, Proofs.Try.f19, g19_81, g19_19, reduceCtorEq, Nat.reduceEqDiff, Nat.reduceAdd, Nat.reduceLeDiff, Nat.reduceMul, Nat.reduceSub, Nat.reduceBEq, Nat.reduceLT, Int.reduceLT, Int.reduceLE, Int.reduceGT, Int.reduceGE, Int.reduceBEq, Int.reduceEq, Int.reduceToNat, Int.reduceAdd, Int.reduceSub, h1, h2, h3, h4, h5, F19_s3, h6, h7, h8, h10, h11, h12, h14, h15]
                try simp only [bindO_assoc]
                refine bindO_ext fun r10 => ?_
                simp -implicitDefEqProofs only [push_cast, hty, heq, h0, Proofs.Try.f19, g19_81, g19_19, reduceCtorEq, Nat.reduceEqDiff, Nat.reduceAdd, Nat.reduceLeDiff, Nat.reduceMul, Nat.reduceSub, Nat.reduceBEq, Nat.reduceLT, Int.reduceLT, Int.reduceLE, Int.reduceGT, Int.reduceGE, Int.reduceBEq, Int.reduceEq, Int.reduceToNat, Int.reduceAdd, Int.reduceSub, h1, h2, h3, h4, h5, F19_s3, h6, h7, h8, h10, h11, h12, h14, h15]
              · simp -implicitDefEqProofs only [push_cast, hty, heq, h0, Proofs.Try.f19, g19_81, g19_19, reduceCtorEq, Nat.reduceEqDiff, Nat.reduceAdd, Nat.reduceLeDiff, Nat.reduceMul, Nat.reduceSub, Nat.reduceBEq, Nat.reduceLT, Int.reduceLT, Int.reduceLE, Int.reduceGT, Int.reduceGE, Int.reduceBEq, Int.reduceEq, Int.reduceToNat, Int.reduceAdd, Int.reduceSub, h1, h2, h3, h4, h5, F19_s3, h6, h7]
            · simp -implicitDefEqProofs only [push_cast, hty, heq, h0, Proofs.Try.f19, g19_81, g19_19, reduceCtorEq, Nat.reduceEqDiff, Nat.reduceAdd, Nat.reduceLeDiff, Nat.reduceMul, Nat.reduceSub, Nat.reduceBEq, Nat.reduceLT, Int.reduceLT, Int.reduceLE, Int.reduceGT, Int.reduceGE, Int.reduceBEq, Int.reduceEq, Int.reduceToNat, Int.reduceAdd, Int.reduceSub, h1, h2, h3, h4, h5, F19_s3, h6]
          · try simp -implicitDefEqProofs only [push_cast, hty, heq, h0, Proofs.Try.f19, g19_81, g19_19, reduceCtorEq, Nat.reduceEqDiff, Nat.reduceAdd, Nat.reduceLeDiff, Nat.reduceMul, Nat.reduceSub, Nat.reduceBEq, Nat.reduceLT, Int.reduceLT, Int.reduceLE, Int.reduceGT, Int.reduceGE, Int.reduceBEq, Int.reduceEq, Int.reduceToNat, Int.reduceAdd, Int.reduceSub, h1, h2, h3, h4, h5]
            try simp only [bindO_assoc]
            refine while_loop (S := Unit) (fun (s11 : Unit) => [.top, .top, .ptr 0 0, .ptr 1 0, .top, .int .i64 r5, .int .i64 0, .top, .top, .top, .top, .top, .top, .top, .top, .top, .top, .top, .top, .top, .top, .top, .top, .top, .top, .top, .top, .top, .top, .top, .top, .top, .top, .top, .top, .top, .top, .top, .top, .top, .top, .top, .top, .top, .top, .top, .top, .top, .top, .top, .top, .top, .top, .top, .top, .top, .top, .top, .top, .top, .top, .top, .top, .top, .top, .top, .top, .top, .top, .top, .top, .top, .top, .top, .top, .top]) (fun (s11 : Unit) => [.var [.int .i64 a.op, .int .i64 a.sortf, .str a.name, .int .i64 a.num, .sl false 5 (List.map Node.cells a.kids)], .var [.int .i64 b.op, .int .i64 b.sortf, .str b.name, .int .i64 b.num, .sl false 5 (List.map Node.cells b.kids)]]) ?_ N ()
            intro s11
            simp -implicitDefEqProofs only [push_cast, hty, heq, h0, Proofs.Try.f19, g19_81, g19_19, reduceCtorEq, Nat.reduceEqDiff, Nat.reduceAdd, Nat.reduceLeDiff, Nat.reduceMul, Nat.reduceSub, Nat.reduceBEq, Nat.reduceLT, Int.reduceLT, Int.reduceLE, Int.reduceGT, Int.reduceGE, Int.reduceBEq, Int.reduceEq, Int.reduceToNat, Int.reduceAdd, Int.reduceSub, h1, h2, h3, h4, h5, F19_s4]
        · try simp -implicitDefEqProofs only [push_cast, hty, heq, h0, Proofs.Try.f19, g19_81, g19_19, reduceCtorEq, Nat.reduceEqDiff, Nat.reduceAdd, Nat.reduceLeDiff, Nat.reduceMul, Nat.reduceSub, Nat.reduceBEq, Nat.reduceLT, Int.reduceLT, Int.reduceLE, Int.reduceGT, Int.reduceGE, Int.reduceBEq, Int.reduceEq, Int.reduceToNat, Int.reduceAdd, Int.reduceSub, h1, h2, h3, h4]
          try simp only [bindO_assoc]
          refine while_loop (S := Unit) (fun (s4 : Unit) => [.top, .top, .ptr 0 0, .ptr 1 0, .top, .int .i64 1, .int .i64 0, .top, .top, .top, .top, .top, .top, .top, .top, .top, .top, .top, .top, .top, .top, .top, .top, .top, .top, .top, .top, .top, .top, .top, .top, .top, .top, .top, .top, .top, .top, .top, .top, .top, .top, .top, .top, .top, .top, .top, .top, .top, .top, .top, .top, .top, .top, .top, .top, .top, .top, .top, .top, .top, .top, .top, .top, .top, .top, .top, .top, .top, .top, .top, .top, .top, .top, .top, .top, .top]) (fun (s4 : Unit) => [.var [.int .i64 a.op, .int .i64 a.sortf, .str a.name, .int .i64 a.num, .sl false 5 (List.map Node.cells a.kids)], .var [.int .i64 b.op, .int .i64 b.sortf, .str b.name, .int .i64 b.num, .sl false 5 (List.map Node.cells b.kids)]]) ?_ N ()
          intro s4
          simp -implicitDefEqProofs only [push_cast, hty, heq, h0, Proofs.Try.f19, g19_81, g19_19, reduceCtorEq, Nat.reduceEqDiff, Nat.reduceAdd, Nat.reduceLeDiff, Nat.reduceMul, Nat.reduceSub, Nat.reduceBEq, Nat.reduceLT, Int.reduceLT, Int.reduceLE, Int.reduceGT, Int.reduceGE, Int.reduceBEq, Int.reduceEq, Int.reduceToNat, Int.reduceAdd, Int.reduceSub, h1, h2, h3, h4, F19_s2]
    · try simp -implicitDefEqProofs only [push_cast, hty, heq, h0, Proofs.Try.f19, g19_81, g19_19, reduceCtorEq, Nat.reduceEqDiff, Nat.reduceAdd, Nat.reduceLeDiff, Nat.reduceMul, Nat.reduceSub, Nat.reduceBEq, Nat.reduceLT, Int.reduceLT, Int.reduceLE, Int.reduceGT, Int.reduceGE, Int.reduceBEq, Int.reduceEq, Int.reduceToNat, Int.reduceAdd, Int.reduceSub, h1, h2]
      try simp only [bindO_assoc]
      refine while_loop (S := Unit) (fun (s12 : Unit) => [.top, .top, .ptr 0 0, .ptr 1 0, .top, .int .i64 r2, .int .i64 0, .top, .top, .top, .top, .top, .top, .top, .top, .top, .top, .top, .top, .top, .top, .top, .top, .top, .top, .top, .top, .top, .top, .top, .top, .top, .top, .top, .top, .top, .top, .top, .top, .top, .top, .top, .top, .top, .top, .top, .top, .top, .top, .top, .top, .top, .top, .top, .top, .top, .top, .top, .top, .top, .top, .top, .top, .top, .top, .top, .top, .top, .top, .top, .top, .top, .top, .top, .top, .top]) (fun (s12 : Unit) => [.var [.int .i64 a.op, .int .i64 a.sortf, .str a.name, .int .i64 a.num, .sl false 5 (List.map Node.cells a.kids)], .var [.int .i64 b.op, .int .i64 b.sortf, .str b.name, .int .i64 b.num, .sl false 5 (List.map Node.cells b.kids)]]) ?_ N ()
      intro s12
      simp -implicitDefEqProofs only [push_cast, hty, heq, h0, Proofs.Try.f19, g19_81, g19_19, reduceCtorEq, Nat.reduceEqDiff, Nat.reduceAdd, Nat.reduceLeDiff, Nat.reduceMul, Nat.reduceSub, Nat.reduceBEq, Nat.reduceLT, Int.reduceLT, Int.reduceLE, Int.reduceGT, Int.reduceGE, Int.reduceBEq, Int.reduceEq, Int.reduceToNat, Int.reduceAdd, Int.reduceSub, h1, h2, F19_s5]
  · try simp -implicitDefEqProofs only [push_cast, hty, heq, h0, Proofs.Try.f19, g19_81, g19_19, reduceCtorEq, Nat.reduceEqDiff, Nat.reduceAdd, Nat.reduceLeDiff, Nat.reduceMul, Nat.reduceSub, Nat.reduceBEq, Nat.reduceLT, Int.reduceLT, Int.reduceLE, Int.reduceGT, Int.reduceGE, Int.reduceBEq, Int.reduceEq, Int.reduceToNat, Int.reduceAdd, Int.reduceSub, h1]
    try simp only [bindO_assoc]
    refine while_loop (S := Unit) (fun (s13 : Unit) => [.top, .top, .ptr 0 0, .ptr 1 0, .top, .int .i64 r1, .int .i64 0, .top, .top, .top, .top, .top, .top, .top, .top, .top, .top, .top, .top, .top, .top, .top, .top, .top, .top, .top, .top, .top, .top, .top, .top, .top, .top, .top, .top, .top, .top, .top, .top, .top, .top, .top, .top, .top, .top, .top, .top, .top, .top, .top, .top, .top, .top, .top, .top, .top, .top, .top, .top, .top, .top, .top, .top, .top, .top, .top, .top, .top, .top, .top, .top, .top, .top, .top, .top, .top]) (fun (s13 : Unit) => [.var [.int .i64 a.op, .int .i64 a.sortf, .str a.name, .int .i64 a.num, .sl false 5 (List.map Node.cells a.kids)], .var [.int .i64 b.op, .int .i64 b.sortf, .str b.name, .int .i64 b.num, .sl false 5 (List.map Node.cells b.kids)]]) ?_ N ()
    intro s13
    simp -implicitDefEqProofs only [push_cast, hty, heq, h0, Proofs.Try.f19, g19_81, g19_19, reduceCtorEq, Nat.reduceEqDiff, Nat.reduceAdd, Nat.reduceLeDiff, Nat.reduceMul, Nat.reduceSub, Nat.reduceBEq, Nat.reduceLT, Int.reduceLT, Int.reduceLE, Int.reduceGT, Int.reduceGE, Int.reduceBEq, Int.reduceEq, Int.reduceToNat, Int.reduceAdd, Int.reduceSub, h1, F19_s6]
theorem ev20 {E : Env} {N : Nat} (hB : N ≤ 4611686018427387904) (hty : E.ty = tys) (heq : E.eqt = eqts) (h0 : E.n0 = 0) (g20_18 : ∀ vs σ, E.tab 18 vs σ = plain (t18 N) vs σ) (a : Node) (b : Node) :
    bindO (aPure E Proofs.Try.f20 H20 N [.agg (Node.cells a), .agg (Node.cells b)]) (cv sh20) = bindO (F20 N a b) fun r => some (v20 r) := by
  unfold F20
  rw [r_pure]
  unfold sh20
  try simp -implicitDefEqProofs only [push_cast, hty, heq, h0, Proofs.Try.f20, g20_18, reduceCtorEq, Nat.reduceEqDiff, Nat.reduceAdd, Nat.reduceLeDiff, Nat.reduceMul, Nat.reduceSub, Nat.reduceBEq, Nat.reduceLT, Int.reduceLT, Int.reduceLE, Int.reduceGT, Int.reduceGE, Int.reduceBEq, Int.reduceEq, Int.reduceToNat, Int.reduceAdd, Int.reduceSub]
  try simp only [bindO_assoc]
  refine bindO_ext fun r1 => ?_
  simp -implicitDefEqProofs only [push_cast, hty, heq, h0, Proofs.Try.f20, g20_18, reduceCtorEq, Nat.reduceEqDiff, Nat.reduceAdd, Nat.reduceLeDiff, Nat.reduceMul, Nat.reduceSub, Nat.reduceBEq, Nat.reduceLT, Int.reduceLT, Int.reduceLE, Int.reduceGT, Int.reduceGE, Int.reduceBEq, Int.reduceEq, Int.reduceToNat, Int.reduceAdd, Int.reduceSub]
theorem ev4 {E : Env} {N : Nat} (hB : N ≤ 4611686018427387904) (hty : E.ty = tys) (heq : E.eqt = eqts) (h0 : E.n0 = 0) (g4_12 : ∀ vs σ, E.tab 12 vs σ = plain (t12 N) vs σ) (g4_13 : ∀ vs σ, E.tab 13 vs σ = plain (t13 N) vs σ) (g4_18 : ∀ vs σ, E.tab 18 vs σ = plain (t18 N) vs σ) (g4_19 : ∀ vs σ, E.tab 19 vs σ = plain (t19 N) vs σ) (g4_20 : ∀ vs σ, E.tab 20 vs σ = plain (t20 N) vs σ) (a : Node) (b : Node) (c : Node) :
    bindO (aPure E Proofs.Try.f4 H4 N [.agg (Node.cells a), .agg (Node.cells b), .agg (Node.cells c)]) (cv sh4) = bindO (F4 N a b c) fun r => some (v4 r) := by
  unfold F4
  rw [r_pure]
  unfold sh4
  try simp -implicitDefEqProofs only [push_cast, hty, heq, h0, Proofs.Try.f4, g4_12, g4_13, g4_18, g4_19, g4_20, reduceCtorEq, Nat.reduceEqDiff, Nat.reduceAdd, Nat.reduceLeDiff, Nat.reduceMul, Nat.reduceSub, Nat.reduceBEq, Nat.reduceLT, Int.reduceLT, Int.reduceLE, Int.reduceGT, Int.reduceGE, Int.reduceBEq, Int.reduceEq, Int.reduceToNat, Int.reduceAdd, Int.reduceSub]
  try simp only [bindO_assoc]
  refine bindO_ext fun r1 => ?_
  try simp -implicitDefEqProofs only [push_cast, hty, heq, h0, Proofs.Try.f4, g4_12, g4_13, g4_18, g4_19, g4_20, reduceCtorEq, Nat.reduceEqDiff, Nat.reduceAdd, Nat.reduceLeDiff, Nat.reduceMul, Nat.reduceSub, Nat.reduceBEq, Nat.reduceLT, Int.reduceLT, Int.reduceLE, Int.reduceGT, Int.reduceGE, Int.reduceBEq, Int.reduceEq, Int.reduceToNat, Int.reduceAdd, Int.reduceSub]
  try simp only [bindO_assoc]
  refine iten_ext (fun h1 => ?_) (fun h1 => ?_)
  · try simp -implicitDefEqProofs only [push_cast, hty, heq, h0, Proofs.Try.f4, g4_12, g4_13, g4_18, g4_19, g4_20, reduceCtorEq, Nat.reduceEqDiff, Nat.reduceAdd, Nat.reduceLeDiff, Nat.reduceMul, Nat.reduceSub, Nat.reduceBEq, Nat.reduceLT, Int.reduceLT, Int.reduceLE, Int.reduceGT, Int.reduceGE, Int.reduceBEq, Int.reduceEq, Int.reduceToNat, Int.reduceAdd, Int.reduceSub, h1]
    try simp only [bindO_assoc]
    refine bindO_ext fun r2 => ?_
    try simp -implicitDefEqProofs only [push_cast, hty, heq, h0, Proofs.Try.f4, g4_12, g4_13, g4_18, g4_19, g4_20, reduceCtorEq, Nat.reduceEqDiff, Nat.reduceAdd, Nat.reduceLeDiff, Nat.reduceMul, Nat.reduceSub, Nat.reduceBEq, Nat.reduceLT, Int.reduceLT, Int.reduceLE, Int.reduceGT, Int.reduceGE, Int.reduceBEq, Int.reduceEq, Int.reduceToNat, Int.reduceAdd, Int.reduceSub, h1]
    try simp only [bindO_assoc]
    refine ite_ext (fun h2 => ?_) (fun h2 => ?_)
    · try simp -implicitDefEqProofs only [push_cast, hty, heq, h0, Proofs.Try.f4, g4_12, g4_13, g4_18, g4_19, g4_20, reduceCtorEq, Nat.reduceEqDiff, Nat.reduceAdd, Nat.reduceLeDiff, Nat.reduceMul, Nat.reduceSub, Nat.reduceBEq, Nat.reduceLT, Int.reduceLT, Int.reduceLE, Int.reduceGT, Int.reduceGE, Int.reduceBEq, Int.reduceEq, Int.reduceToNat, Int.reduceAdd, Int.reduceSub, h1, h2]
      try simp only [bindO_assoc]
      refine bindO_ext fun r3 => ?_
      try simp -implicitDefEqProofs only [push_cast, hty, heq, h0, Proofs.Try.f4, g4_12, g4_13, g4_18, g4_19, g4_20, reduceCtorEq, Nat.reduceEqDiff, Nat.reduceAdd, Nat.reduceLeDiff, Nat.reduceMul, Nat.reduceSub, Nat.reduceBEq, Nat.reduceLT, Int.reduceLT, Int.reduceLE, Int.reduceGT, Int.reduceGE, Int.reduceBEq, Int.reduceEq, Int.reduceToNat, Int.reduceAdd, Int.reduceSub, h1, h2]
      try simp only [bindO_assoc]
      refine ite_ext (fun h3 => ?_) (fun h3 => ?_)
      · try simp -implicitDefEqProofs only [push_cast, hty, heq, h0, Proofs.Try.f4, g4_12, g4_13, g4_18, g4_19, g4_20, reduceCtorEq, Nat.reduceEqDiff, Nat.reduceAdd, Nat.reduceLeDiff, Nat.reduceMul, Nat.reduceSub, Nat.reduceBEq, Nat.reduceLT, Int.reduceLT, Int.reduceLE, Int.reduceGT, Int.reduceGE, Int.reduceBEq, Int.reduceEq, Int.reduceToNat, Int.reduceAdd, Int.reduceSub, h1, h2, h3]
        try simp only [bindO_assoc]
        refine bindO_ext fun r4 => ?_
        try simp -implicitDefEqProofs only [push_cast, hty, heq, h0, Proofs.Try.f4, g4_12, g4_13, g4_18, g4_19, g4_20, reduceCtorEq, Nat.reduceEqDiff, Nat.reduceAdd, Nat.reduceLeDiff, Nat.reduceMul, Nat.reduceSub, Nat.reduceBEq, Nat.reduceLT, Int.reduceLT, Int.reduceLE, Int.reduceGT, Int.reduceGE, Int.reduceBEq, Int.reduceEq, Int.reduceToNat, Int.reduceAdd, Int.reduceSub, h1, h2, h3]
        try simp only [bindO_assoc]
        refine iten_ext (fun h4 => ?_) (fun h4 => ?_)
        · try simp -implicitDefEqProofs only [push_cast, hty, heq, h0, Proofs.Try.f4, g4_12, g4_13, g4_18, g4_19, g4_20, reduceCtorEq, Nat.reduceEqDiff, Nat.reduceAdd, Nat.reduceLeDiff, Nat.reduceMul, Nat.reduceSub, Nat.reduceBEq, Nat.reduceLT, Int.reduceLT, Int.reduceLE, Int.reduceGT, Int.reduceGE, Int.reduceBEq, Int.reduceEq, Int.reduceToNat, Int.reduceAdd, Int.reduceSub, h1, h2, h3, h4]
          try simp only [bindO_assoc]
          refine bindO_ext fun r5 => ?_
          try simp -implicitDefEqProofs only [push_cast, hty, heq, h0, Proofs.Try.f4, g4_12, g4_13, g4_18, g4_19, g4_20, reduceCtorEq, Nat.reduceEqDiff, Nat.reduceAdd, Nat.reduceLeDiff, Nat.reduceMul, Nat.reduceSub, Nat.reduceBEq, Nat.reduceLT, Int.reduceLT, Int.reduceLE, Int.reduceGT, Int.reduceGE, Int.reduceBEq, Int.reduceEq, Int.reduceToNat, Int.reduceAdd, Int.reduceSub, h1, h2, h3, h4]
          try simp only [bindO_assoc]
          refine bindO_ext fun r6 => ?_
          try simp -implicitDefEqProofs only [push_cast, hty, heq, h0, Proofs.Try.f4, g4_12, g4_13, g4_18, g4_19, g4_20, reduceCtorEq, Nat.reduceEqDiff, Nat.reduceAdd, Nat.reduceLeDiff, Nat.reduceMul, Nat.reduceSub, Nat.reduceBEq, Nat.reduceLT, Int.reduceLT, Int.reduceLE, Int.reduceGT, Int.reduceGE, Int.reduceBEq, Int.reduceEq, Int.reduceToNat, Int.reduceAdd, Int.reduceSub, h1, h2, h3, h4]
          try simp only [bindO_assoc]
          refine bindO_ext fun r7 => ?_
          try simp -implicitDefEqProofs only [push_cast, hty, heq, h0, Proofs.Try.f4, g4_12, g4_13, g4_18, g4_19, g4_20, reduceCtorEq, Nat.reduceEqDiff, Nat.reduceAdd, Nat.reduceLeDiff, Nat.reduceMul, Nat.reduceSub, Nat.reduceBEq, Nat.reduceLT, Int.reduceLT, Int.reduceLE, Int.reduceGT, Int.reduceGE, Int.reduceBEq, Int.reduceEq, Int.reduceToNat, Int.reduceAdd, Int.reduceSub, h1, h2, h3, h4]
          try simp only [bindO_assoc]
          refine bindO_ext fun r8 => ?_
          try simp -implicitDefEqProofs only [push_cast, hty, heq, h0, Proofs.Try.f4, g4_12, g4_13, g4_18, g4_19, g4_20, reduceCtorEq, Nat.reduceEqDiff, Nat.reduceAdd, Nat.reduceLeDiff, Nat.reduceMul, Nat.reduceSub, Nat.reduceBEq, Nat.reduceLT, Int.reduceLT, Int.reduceLE, Int.reduceGT, Int.reduceGE, Int.reduceBEq, Int.reduceEq, Int.reduceToNat, Int.reduceAdd, Int.reduceSub, h1, h2, h3, h4]
          try simp only [bindO_assoc]
          refine ite_ext (fun h5 => ?_) (fun h5 => ?_)
          · try simp -implicitDefEqProofs only [push_cast, hty, heq, h0, Proofs.Try.f4, g4_12, g4_13, g4_18, g4_19, g4_20, reduceCtorEq, Nat.reduceEqDiff, Nat.reduceAdd, Nat.reduceLeDiff, Nat.reduceMul, Nat.reduceSub, Nat.reduceBEq, Nat.reduceLT, Int.reduceLT, Int.reduceLE, Int.reduceGT, Int.reduceGE, Int.reduceBEq, Int.reduceEq, Int.reduceToNat, Int.reduceAdd, Int.reduceSub, h1, h2, h3, h4, h5]
            try simp only [bindO_assoc]
            refine bindO_ext fun r9 => ?_
            try simp -implicitDefEqProofs only [push_cast, hty, heq, h0, Proofs.Try.f4, g4_12, g4_13, g4_18, g4_19, g4_20, reduceCtorEq, Nat.reduceEqDiff, Nat.reduceAdd, Nat.reduceLeDiff, Nat.reduceMul, Nat.reduceSub, Nat.reduceBEq, Nat.reduceLT, Int.reduceLT, Int.reduceLE, Int.reduceGT, Int.reduceGE, Int.reduceBEq, Int.reduceEq, Int.reduceToNat, Int.reduceAdd, Int.reduceSub, h1, h2, h3, h4, h5]
            try simp only [bindO_assoc]
            refine ite_ext (fun h6 => ?_) (fun h6 => ?_)
            · try simp -implicitDefEqProofs only [push_cast, hty, heq, h0, Proofs.Try.f4, g4_12, g4_13, g4_18, g4_19, g4_20, reduceCtorEq, Nat.reduceEqDiff, Nat.reduceAdd, Nat.reduceLeDiff, Nat.reduceMul, Nat.reduceSub, Nat.reduceBEq, Nat.reduceLT, Int.reduceLT, Int.reduceLE, Int.reduceGT, Int.reduceGE, Int.reduceBEq, Int.reduceEq, Int.reduceToNat, Int.reduceAdd, Int.reduceSub, h1, h2, h3, h4, h5, h6]
              try simp only [bindO_assoc]
              refine bindO_ext fun r10 => ?_
              try simp -implicitDefEqProofs only [push_cast, hty, heq, h0, Proofs.Try.f4, g4_12, g4_13, g4_18, g4_19, g4_20, reduceCtorEq, Nat.reduceEqDiff, Nat.reduceAdd, Nat.reduceLeDiff, Nat.reduceMul, Nat.reduceSub, Nat.reduceBEq, Nat.reduceLT, Int.reduceLT, Int.reduceLE, Int.reduceGT, Int.reduceGE, Int.reduceBEq, Int.reduceEq, Int.reduceToNat, Int.reduceAdd, Int.reduceSub, h1, h2, h3, h4, h5, h6]
              try simp only [bindO_assoc]
              refine ite_ext (fun h7 => ?_) (fun h7 => ?_)
              · try simp -implicitDefEqProofs only [push_cast, hty, heq, h0, Proofs.Try.f4, g4_12, g4_13, g4_18, g4_19, g4_20, reduceCtorEq, Nat.reduceEqDiff, Nat.reduceAdd, Nat.reduceLeDiff, Nat.reduceMul, Nat.reduceSub, Nat.reduceBEq, Nat.reduceLT, Int.reduceLT, Int.reduceLE, Int.reduceGT, Int.reduceGE, Int.reduceBEq, Int.reduceEq, Int.reduceToNat, Int.reduceAdd, Int.reduceSub, h1, h2, h3, h4, h5, h6, h7]
                try simp only [bindO_assoc]
                refine bindO_ext fun r11 => ?_
                try simp -implicitDefEqProofs only [push_cast, hty, heq, h0, Proofs.Try.f4, g4_12, g4_13, g4_18, g4_19, g4_20, reduceCtorEq, Nat.reduceEqDiff, Nat.reduceAdd, Nat.reduceLeDiff, Nat.reduceMul, Nat.reduceSub, Nat.reduceBEq, Nat.reduceLT, Int.reduceLT, Int.reduceLE, Int.reduceGT, Int.reduceGE, Int.reduceBEq, Int.reduceEq, Int.reduceToNat, Int.reduceAdd, Int.reduceSub, h1, h2, h3, h4, h5, h6, h7]
                try simp only [bindO_assoc]
                refine iten_ext (fun h8 => ?_) (fun h8 => ?_)
                · try simp -implicitDefEqProofs only [push_cast, hty, heq, h0, Proofs.Try.f4, g4_12, g4_13, g4_18, g4_19, g4_20, reduceCtorEq, Nat.reduceEqDiff, Nat.reduceAdd, Nat.reduceLeDiff, Nat.reduceMul, Nat.reduceSub, Nat.reduceBEq, Nat.reduceLT, Int.reduceLT, Int.reduceLE, Int.reduceGT, Int.reduceGE, Int.reduceBEq, Int.reduceEq, Int.reduceToNat, Int.reduceAdd, Int.reduceSub, h1, h2, h3, h4, h5, h6, h7, h8]
                  try simp only [bindO_assoc]
                  refine ite_ext (fun h9 => ?_) (fun h9 => ?_)
                  · try simp -implicitDefEqProofs only [push_cast, hty, heq, h0, Proofs.Try.f4, g4_12, g4_13, g4_18, g4_19, g4_20, reduceCtorEq, Nat.reduceEqDiff, Nat.reduceAdd, Nat.reduceLeDiff, Nat.reduceMul, Nat.reduceSub, Nat.reduceBEq, Nat.reduceLT, Int.reduceLT, Int.reduceLE, Int.reduceGT, Int.reduceGE, Int.reduceBEq, Int.reduceEq, Int.reduceToNat, Int.reduceAdd, Int.reduceSub, h1, h2, h3, h4, h5, h6, h7, h8, h9]
                    try simp only [bindO_assoc]
                    refine ite_ext (fun h10 => ?_) (fun h10 => ?_)
                    · try simp -implicitDefEqProofs only [push_cast, hty, heq, h0, Proofs.Try.f4, g4_12, g4_13, g4_18, g4_19, g4_20, reduceCtorEq, Nat.reduceEqDiff, Nat.reduceAdd, Nat.reduceLeDiff, Nat.reduceMul, Nat.reduceSub, Nat.reduceBEq, Nat.reduceLT, Int.reduceLT, Int.reduceLE, Int.reduceGT, Int.reduceGE, Int.reduceBEq, Int.reduceEq, Int.reduceToNat, Int.reduceAdd, Int.reduceSub, h1, h2, h3, h4, h5, h6, h7, h8, h9, h10]
                      try simp only [bindO_assoc]
                      refine ite_ext (fun h11 => ?_) (fun h11 => ?_)
                      · try simp -implicitDefEqProofs only [push_cast, hty, heq, h0, Proofs.Try.f4, g4_12, g4_13, g4_18, g4_19, g4_20, reduceCtorEq, Nat.reduceEqDiff, Nat.reduceAdd, Nat.reduceLeDiff, Nat.reduceMul, Nat.reduceSub, Nat.reduceBEq, Nat.reduceLT, Int.reduceLT, Int.reduceLE, Int.reduceGT, Int.reduceGE, Int.reduceBEq, Int.reduceEq, Int.reduceToNat, Int.reduceAdd, Int.reduceSub, h1, h2, h3, h4, h5, h6, h7, h8, h9, h10, h11]
                        try simp only [bindO_assoc]
                        refine iten_ext (fun h12 => ?_) (fun h12 => ?_)
                        · simp -implicitDefEqProofs only [push_cast, hty, heq, h0, Proofs.Try.f4, g4_12, g4_13, g4_18, g4_19, g4_20, reduceCtorEq, Nat.reduceEqDiff, Nat.reduceAdd, Nat.reduceLeDiff, Nat.reduceMul, Nat.reduceSub, Nat.reduceBEq, Nat.reduceLT, Int.reduceLT, Int.reduceLE, Int.reduceGT, Int.reduceGE, Int.reduceBEq, Int.reduceEq, Int.reduceToNat, Int.reduceAdd, Int.reduceSub, h1, h2, h3, h4, h5, h6, h7, h8, h9, h10, h11, h12]
                        · try simp -implicitDefEqProofs only [push_cast, hty, heq, h0, Proofs.Try.f4, g4_12, g4_13, g4_18, g4_19, g4_20, reduceCtorEq, Nat.reduceEqDiff, Nat.reduceAdd, Nat.reduceLeDiff, Nat.reduceMul, Nat.reduceSub, Nat.reduceBEq, Nat.reduceLT, Int.reduceLT, Int.reduceLE, Int.reduceGT, Int.reduceGE, Int.reduceBEq, Int.reduceEq, Int.reduceToNat, Int.reduceAdd, Int.reduceSub, h1, h2, h3, h4, h5, h6, h7, h8, h9, h10, h11, h12]
                          try simp only [bindO_assoc]
                          refine ite_ext (fun h13 => ?_) (fun h13 => ?_)
                          · simp -implicitDefEqProofs only [push_cast, hty, heq, h0, Proofs.Try.f4, g4_12, g4_13, g4_18, g4_19, g4_20, reduceCtorEq, Nat.reduceEqDiff, Nat.reduceAdd, Nat.reduceLeDiff, Nat.reduceMul, Nat.reduceSub, Nat.reduceBEq, Nat.reduceLT, Int.reduceLT, Int.reduceLE, Int.reduceGT, Int.reduceGE, Int.reduceBEq, Int.reduceEq, Int.reduceToNat, Int.reduceAdd, Int.reduceSub, h1, h2, h3, h4, h5, h6, h7, h8, h9, h10, h11, h12, h13]
                          · simp -implicitDefEqProofs only [push_cast, hty, heq, h0, Proofs.Try.f4, g4_12, g4_13, g4_18, g4_19, g4_20, reduceCtorEq, Nat.reduceEqDiff, Nat.reduceAdd, Nat.reduceLeDiff, Nat.reduceMul, Nat.reduceSub, Nat.reduceBEq, Nat.reduceLT, Int.reduceLT, Int.reduceLE, Int.reduceGT, Int.reduceGE, Int.reduceBEq, Int.reduceEq, Int.reduceToNat, Int.reduceAdd, Int.reduceSub, h1, h2, h3, h4, h5, h6, h7, h8, h9, h10, h11, h12, h13]
                      · simp -implicitDefEqProofs only [push_cast, hty, heq, h0, Proofs.Try.f4, g4_12, g4_13, g4_18, g4_19, g4_20, reduceCtorEq, Nat.reduceEqDiff, Nat.reduceAdd, Nat.reduceLeDiff, Nat.reduceMul, Nat.reduceSub, Nat.reduceBEq, Nat.reduceLT, Int.reduceLT, Int.reduceLE, Int.reduceGT, Int.reduceGE, Int.reduceBEq, Int.reduceEq, Int.reduceToNat, Int.reduceAdd, Int.reduceSub, h1, h2, h3, h4, h5, h6, h7, h8, h9, h10, h11]
                    · simp -implicitDefEqProofs only [push_cast, hty, heq, h0, Proofs.Try.f4, g4_12, g4_13, g4_18, g4_19, g4_20, reduceCtorEq, Nat.reduceEqDiff, Nat.reduceAdd, Nat.reduceLeDiff, Nat.reduceMul, Nat.reduceSub, Nat.reduceBEq, Nat.reduceLT, Int.reduceLT, Int.reduceLE, Int.reduceGT, Int.reduceGE, Int.reduceBEq, Int.reduceEq, Int.reduceToNat, Int.reduceAdd, Int.reduceSub, h1, h2, h3, h4, h5, h6, h7, h8, h9, h10]
                  · simp -implicitDefEqProofs only [push_cast, hty, heq, h0, Proofs.Try.f4, g4_12, g4_13, g4_18, g4_19, g4_20, reduceCtorEq, Nat.reduceEqDiff, Nat.reduceAdd, Nat.reduceLeDiff, Nat.reduceMul, Nat.reduceSub, Nat.reduceBEq, Nat.reduceLT, Int.reduceLT, Int.reduceLE, Int.reduceGT, Int.reduceGE, Int.reduceBEq, Int.reduceEq, Int.reduceToNat, Int.reduceAdd, Int.reduceSub, h1, h2, h3, h4, h5, h6, h7, h8, h9]
                · simp -implicitDefEqProofs only [push_cast, hty, heq, h0, Proofs.Try.f4, g4_12, g4_13, g4_18, g4_19, g4_20, reduceCtorEq, Nat.reduceEqDiff, Nat.reduceAdd, Nat.reduceLeDiff, Nat.reduceMul, Nat.reduceSub, Nat.reduceBEq, Nat.reduceLT, Int.reduceLT, Int.reduceLE, Int.reduceGT, Int.reduceGE, Int.reduceBEq, Int.reduceEq, Int.reduceToNat, Int.reduceAdd, Int.reduceSub, h1, h2, h3, h4, h5, h6, h7, h8]
              · simp -implicitDefEqProofs only [push_cast, hty, heq, h0, Proofs.Try.f4, g4_12, g4_13, g4_18, g4_19, g4_20, reduceCtorEq, Nat.reduceEqDiff, Nat.reduceAdd, Nat.reduceLeDiff, Nat.reduceMul, Nat.reduceSub, Nat.reduceBEq, Nat.reduceLT, Int.reduceLT, Int.reduceLE, Int.reduceGT, Int.reduceGE, Int.reduceBEq, Int.reduceEq, Int.reduceToNat, Int.reduceAdd, Int.reduceSub, h1, h2, h3, h4, h5, h6, h7]
            · simp -implicitDefEqProofs only [push_cast, hty, heq, h0, Proofs.Try.f4, g4_12, g4_13, g4_18, g4_19, g4_20, reduceCtorEq, Nat.reduceEqDiff, Nat.reduceAdd, Nat.reduceLeDiff, Nat.reduceMul, Nat.reduceSub, Nat.reduceBEq, Nat.reduceLT, Int.reduceLT, Int.reduceLE, Int.reduceGT, Int.reduceGE, Int.reduceBEq, Int.reduceEq, Int.reduceToNat, Int.reduceAdd, Int.reduceSub, h1, h2, h3, h4, h5, h6]
          · simp -implicitDefEqProofs only [push_cast, hty, heq, h0, Proofs.Try.f4, g4_12, g4_13, g4_18, g4_19, g4_20, reduceCtorEq, Nat.reduceEqDiff, Nat.reduceAdd, Nat.reduceLeDiff, Nat.reduceMul, Nat.reduceSub, Nat.reduceBEq, Nat.reduceLT, Int.reduceLT, Int.reduceLE, Int.reduceGT, Int.reduceGE, Int.reduceBEq, Int.reduceEq, Int.reduceToNat, Int.reduceAdd, Int.reduceSub, h1, h2, h3, h4, h5]
        · simp -implicitDefEqProofs only [push_cast, hty, heq, h0, Proofs.Try.f4, g4_12, g4_13, g4_18, g4_19, g4_20, reduceCtorEq, Nat.reduceEqDiff, Nat.reduceAdd, Nat.reduceLeDiff, Nat.reduceMul, Nat.reduceSub, Nat.reduceBEq, Nat.reduceLT, Int.reduceLT, Int.reduceLE, Int.reduceGT, Int.reduceGE, Int.reduceBEq, Int.reduceEq, Int.reduceToNat, Int.reduceAdd, Int.reduceSub, h1, h2, h3, h4]
      · simp -implicitDefEqProofs only [push_cast, hty, heq, h0, Proofs.Try.f4, g4_12, g4_13, g4_18, g4_19, g4_20, reduceCtorEq, Nat.reduceEqDiff, Nat.reduceAdd, Nat.reduceLeDiff, Nat.reduceMul, Nat.reduceSub, Nat.reduceBEq, Nat.reduceLT, Int.reduceLT, Int.reduceLE, Int.reduceGT, Int.reduceGE, Int.reduceBEq, Int.reduceEq, Int.reduceToNat, Int.reduceAdd, Int.reduceSub, h1, h2, h3]
    · simp -implicitDefEqProofs only [push_cast, hty, heq, h0, Proofs.Try.f4, g4_12, g4_13, g4_18, g4_19, g4_20, reduceCtorEq, Nat.reduceEqDiff, Nat.reduceAdd, Nat.reduceLeDiff, Nat.reduceMul, Nat.reduceSub, Nat.reduceBEq, Nat.reduceLT, Int.reduceLT, Int.reduceLE, Int.reduceGT, Int.reduceGE, Int.reduceBEq, Int.reduceEq, Int.reduceToNat, Int.reduceAdd, Int.reduceSub, h1, h2]
  · simp -implicitDefEqProofs only [push_cast, hty, heq, h0, Proofs.Try.f4, g4_12, g4_13, g4_18, g4_19, g4_20, reduceCtorEq, Nat.reduceEqDiff, Nat.reduceAdd, Nat.reduceLeDiff, Nat.reduceMul, Nat.reduceSub, Nat.reduceBEq, Nat.reduceLT, Int.reduceLT, Int.reduceLE, Int.reduceGT, Int.reduceGE, Int.reduceBEq, Int.reduceEq, Int.reduceToNat, Int.reduceAdd, Int.reduceSub, h1]
end Go.Abs.Try
