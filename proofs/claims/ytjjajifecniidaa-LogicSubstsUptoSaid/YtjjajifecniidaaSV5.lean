import Derived.Test.YtjjajifecniidaaSD
namespace Go.Abs.Try
open Go.RowKit
set_option linter.unusedSimpArgs false
set_option linter.unusedVariables false
set_option maxRecDepth 100000
set_option maxHeartbeats 4000000
attribute [local push_cast] ty2 ty3 ty9 ty22 ty24 ty34
theorem ev81 {E : Env} {N : Nat} (hB : N ≤ 4611686018427387904) (hty : E.ty = tys) (heq : E.eqt = eqts) (h0 : E.n0 = 0)  (a : Int) (b : Int) :
    bindO (aPure E Proofs.Try.f81 H81 N [.int .i64 a, .int .i64 b]) (cv sh81) = bindO (F81 a b) fun r => some (v81 r) := by
  unfold F81
  rw [r_pure]
  unfold sh81
  try simp -implicitDefEqProofs only [push_cast, hty, heq, h0, Proofs.Try.f81, reduceCtorEq, Nat.reduceEqDiff, Nat.reduceAdd, Nat.reduceLeDiff, Nat.reduceMul, Nat.reduceSub, Nat.reduceBEq, Nat.reduceLT, Int.reduceLT, Int.reduceLE, Int.reduceGT, Int.reduceGE, Int.reduceBEq, Int.reduceEq, Int.reduceToNat, Int.reduceAdd, Int.reduceSub]
  try simp only [bindO_assoc]
  refine ite_ext (fun h1 => ?_) (fun h1 => ?_)
  · simp -implicitDefEqProofs only [push_cast, hty, heq, h0, Proofs.Try.f81, reduceCtorEq, Nat.reduceEqDiff, Nat.reduceAdd, Nat.reduceLeDiff, Nat.reduceMul, Nat.reduceSub, Nat.reduceBEq, Nat.reduceLT, Int.reduceLT, Int.reduceLE, Int.reduceGT, Int.reduceGE, Int.reduceBEq, Int.reduceEq, Int.reduceToNat, Int.reduceAdd, Int.reduceSub, h1]
  · try simp -implicitDefEqProofs only [push_cast, hty, heq, h0, Proofs.Try.f81, reduceCtorEq, Nat.reduceEqDiff, Nat.reduceAdd, Nat.reduceLeDiff, Nat.reduceMul, Nat.reduceSub, Nat.reduceBEq, Nat.reduceLT, Int.reduceLT, Int.reduceLE, Int.reduceGT, Int.reduceGE, Int.reduceBEq, Int.reduceEq, Int.reduceToNat, Int.reduceAdd, Int.reduceSub, h1]
    try simp only [bindO_assoc]
    refine ite_ext (fun h2 => ?_) (fun h2 => ?_)
    · simp -implicitDefEqProofs only [push_cast, hty, heq, h0, Proofs.Try.f81, reduceCtorEq, Nat.reduceEqDiff, Nat.reduceAdd, Nat.reduceLeDiff, Nat.reduceMul, Nat.reduceSub, Nat.reduceBEq, Nat.reduceLT, Int.reduceLT, Int.reduceLE, Int.reduceGT, Int.reduceGE, Int.reduceBEq, Int.reduceEq, Int.reduceToNat, Int.reduceAdd, Int.reduceSub, h1, h2]
    · simp -implicitDefEqProofs only [push_cast, hty, heq, h0, Proofs.Try.f81, reduceCtorEq, Nat.reduceEqDiff, Nat.reduceAdd, Nat.reduceLeDiff, Nat.reduceMul, Nat.reduceSub, Nat.reduceBEq, Nat.reduceLT, Int.reduceLT, Int.reduceLE, Int.reduceGT, Int.reduceGE, Int.reduceBEq, Int.reduceEq, Int.reduceToNat, Int.reduceAdd, Int.reduceSub, h1, h2]
theorem ev19 {E : Env} {N : Nat} (hB : N ≤ 4611686018427387904) (self19 : Node → Node → Option (Int)) (hty : E.ty = tys) (heq : E.eqt = eqts) (h0 : E.n0 = 0) (g19_81 : ∀ vs σ, E.tab 81 vs σ = plain (t81) vs σ) (g19_19 : ∀ vs σ, E.tab 19 vs σ = plain (ts19 self19) vs σ) (a : Node) (b : Node) :
    bindO (aPure E Proofs.Try.f19 H19 N [.agg (Node.cells a), .agg (Node.cells b)]) (cv sh19) = bindO (F19b self19 N a b) fun r => some (v19 r) := by
  unfold F19b
  rw [r_pure]
  unfold sh19
  try simp -implicitDefEqProofs only [push_cast, hty, heq, h0, Proofs.Try.f19, g19_81, g19_19, reduceCtorEq, Nat.reduceEqDiff, Nat.reduceAdd, Nat.reduceLeDiff, Nat.reduceMul, Nat.reduceSub, Nat.reduceBEq, Nat.reduceLT, Int.reduceLT, Int.reduceLE, Int.reduceGT, Int.reduceGE, Int.reduceBEq, Int.reduceEq, Int.reduceToNat, Int.reduceAdd, Int.reduceSub]
  try simp only [bindO_assoc]
  refine bindO_ext fun r1 => ?_
  try simp -implicitDefEqProofs only [push_cast, hty, heq, h0, Proofs.Try.f19, g19_81, g19_19, reduceCtorEq, Nat.reduceEqDiff, Nat.reduceAdd, Nat.reduceLeDiff, Nat.reduceMul, Nat.reduceSub, Nat.reduceBEq, Nat.reduceLT, Int.reduceLT, Int.reduceLE, Int.reduceGT, Int.reduceGE, Int.reduceBEq, Int.reduceEq, Int.reduceToNat, Int.reduceAdd, Int.reduceSub]
  try simp only [bindO_assoc]
  refine ite_ext (fun h1 => ?_) (fun h1 => ?_)
  · try simp -implicitDefEqProofs only [push_cast, hty, heq, h0, Proofs.Try.f19, g19_81, g19_19, reduceCtorEq, Nat.reduceEqDiff, Nat.reduceAdd, Nat.reduceLeDiff, Nat.reduceMul, Nat.reduceSub, Nat.reduceBEq, Nat.reduceLT, Int.reduceLT, Int.reduceLE, Int.reduceGT, Int.reduceGE, Int.reduceBEq, Int.reduceEq, Int.reduceToNat, Int.reduceAdd, Int.reduceSub, h1]
    try simp only [bindO_assoc]
    refine bindO_ext fun r2 => ?_
    try simp -implicitDefEqProofs only [push_cast, hty, heq, h0, Proofs.Try.f19, g19_81, g19_19, reduceCtorEq, Nat.reduceEqDiff, Nat.reduceAdd, Nat.reduceLeDiff, Nat.reduceMul, Nat.reduceSub, Nat.reduceBEq, Nat.reduceLT, Int.reduceLT, Int.reduceLE, Int.reduceGT, Int.reduceGE, Int.reduceBEq, Int.reduceEq, Int.reduceToNat, Int.reduceAdd, Int.reduceSub, h1]
    try simp only [bindO_assoc]
    refine ite_ext (fun h2 => ?_) (fun h2 => ?_)
    · try simp -implicitDefEqProofs only [push_cast, hty, heq, h0, Proofs.Try.f19, g19_81, g19_19, reduceCtorEq, Nat.reduceEqDiff, Nat.reduceAdd, Nat.reduceLeDiff, Nat.reduceMul, Nat.reduceSub, Nat.reduceBEq, Nat.reduceLT, Int.reduceLT, Int.reduceLE, Int.reduceGT, Int.reduceGE, Int.reduceBEq, Int.reduceEq, Int.reduceToNat, Int.reduceAdd, Int.reduceSub, h1, h2]
      try simp only [bindO_assoc]
      refine ite_ext (fun h3 => ?_) (fun h3 => ?_)
      · try simp -implicitDefEqProofs only [push_cast, hty, heq, h0, Proofs.Try.f19, g19_81, g19_19, reduceCtorEq, Nat.reduceEqDiff, Nat.reduceAdd, Nat.reduceLeDiff, Nat.reduceMul, Nat.reduceSub, Nat.reduceBEq, Nat.reduceLT, Int.reduceLT, Int.reduceLE, Int.reduceGT, Int.reduceGE, Int.reduceBEq, Int.reduceEq, Int.reduceToNat, Int.reduceAdd, Int.reduceSub, h1, h2, h3]
        try simp only [bindO_assoc]
        refine while_loop (S := Unit) (fun (s3 : Unit) => [.top, .top, .ptr 0 0, .ptr 1 0, .top, .int .i64 (-1), .int .i64 0, .top, .top, .top, .top, .top, .top, .top, .top, .top, .top, .top, .top, .top, .top, .top, .top, .top, .top, .top, .top, .top, .top, .top, .top, .top, .top, .top, .top, .top, .top, .top, .top, .top, .top, .top, .top, .top, .top, .top, .top, .top, .top, .top, .top, .top, .top, .top, .top, .top, .top, .top, .top, .top, .top, .top, .top, .top, .top, .top, .top, .top, .top, .top, .top, .top, .top, .top, .top, .top]) (fun (s3 : Unit) => [.var [.int .i64 a.op, .int .i64 a.sortf, .str a.name, .int .i64 a.num, .sl false 5 (List.map Node.cells a.kids)], .var [.int .i64 b.op, .int .i64 b.sortf, .str b.name, .int .i64 b.num, .sl false 5 (List.map Node.cells b.kids)]]) ?_ N ()
        intro s3
        simp -implicitDefEqProofs only [push_cast, hty, heq, h0, Proofs.Try.f19, g19_81, g19_19, reduceCtorEq, Nat.reduceEqDiff, Nat.reduceAdd, Nat.reduceLeDiff, Nat.reduceMul, Nat.reduceSub, Nat.reduceBEq, Nat.reduceLT, Int.reduceLT, Int.reduceLE, Int.reduceGT, Int.reduceGE, Int.reduceBEq, Int.reduceEq, Int.reduceToNat, Int.reduceAdd, Int.reduceSub, h1, h2, h3, F19_s1]
      · try simp -implicitDefEqProofs only [push_cast, hty, heq, h0, Proofs.Try.f19, g19_81, g19_19, reduceCtorEq, Nat.reduceEqDiff, Nat.reduceAdd, Nat.reduceLeDiff, Nat.reduceMul, Nat.reduceSub, Nat.reduceBEq, Nat.reduceLT, Int.reduceLT, Int.reduceLE, Int.reduceGT, Int.reduceGE, Int.reduceBEq, Int.reduceEq, Int.reduceToNat, Int.reduceAdd, Int.reduceSub, h1, h2, h3]
        try simp only [bindO_assoc]
        refine iten_ext (fun h4 => ?_) (fun h4 => ?_)
        · try simp -implicitDefEqProofs only [push_cast, hty, heq, h0, Proofs.Try.f19, g19_81, g19_19, reduceCtorEq, Nat.reduceEqDiff, Nat.reduceAdd, Nat.reduceLeDiff, Nat.reduceMul, Nat.reduceSub, Nat.reduceBEq, Nat.reduceLT, Int.reduceLT, Int.reduceLE, Int.reduceGT, Int.reduceGE, Int.reduceBEq, Int.reduceEq, Int.reduceToNat, Int.reduceAdd, Int.reduceSub, h1, h2, h3, h4]
          try simp only [bindO_assoc]
          refine bindO_ext fun r5 => ?_
          try simp -implicitDefEqProofs only [push_cast, hty, heq, h0, Proofs.Try.f19, g19_81, g19_19, reduceCtorEq, Nat.reduceEqDiff, Nat.reduceAdd, Nat.reduceLeDiff, Nat.reduceMul, Nat.reduceSub, Nat.reduceBEq, Nat.reduceLT, Int.reduceLT, Int.reduceLE, Int.reduceGT, Int.reduceGE, Int.reduceBEq, Int.reduceEq, Int.reduceToNat, Int.reduceAdd, Int.reduceSub, h1, h2, h3, h4]
          try simp only [bindO_assoc]
          refine ite_ext (fun h5 => ?_) (fun h5 => ?_)
          · try simp -implicitDefEqProofs only [push_cast, hty, heq, h0, Proofs.Try.f19, g19_81, g19_19, reduceCtorEq, Nat.reduceEqDiff, Nat.reduceAdd, Nat.reduceLeDiff, Nat.reduceMul, Nat.reduceSub, Nat.reduceBEq, Nat.reduceLT, Int.reduceLT, Int.reduceLE, Int.reduceGT, Int.reduceGE, Int.reduceBEq, Int.reduceEq, Int.reduceToNat, Int.reduceAdd, Int.reduceSub, h1, h2, h3, h4, h5]
            try simp only [bindO_assoc]
            refine bindO_ext fun r6 => ?_
            try simp -implicitDefEqProofs only [push_cast, hty, heq, h0, Proofs.Try.f19, g19_81, g19_19, reduceCtorEq, Nat.reduceEqDiff, Nat.reduceAdd, Nat.reduceLeDiff, Nat.reduceMul, Nat.reduceSub, Nat.reduceBEq, Nat.reduceLT, Int.reduceLT, Int.reduceLE, Int.reduceGT, Int.reduceGE, Int.reduceBEq, Int.reduceEq, Int.reduceToNat, Int.reduceAdd, Int.reduceSub, h1, h2, h3, h4, h5]
            try simp only [bindO_assoc]
            refine while_loop (S := Int × Int) (fun (s7 : Int × Int) => [.top, .top, .ptr 0 0, .ptr 1 0, .top, .int .i64 s7.1, .int .i64 s7.2, .top, .top, .top, .top, .top, .top, .top, .top, .top, .top, .top, .top, .top, .top, .top, .top, .top, .top, .top, .top, .top, .top, .top, .top, .top, .top, .top, .top, .top, .top, .top, .top, .top, .top, .top, .top, .top, .top, .top, .top, .top, .top, .top, .top, .top, .top, .top, .top, .top, .top, .top, .top, .top, .top, .top, .top, .top, .top, .top, .top, .top, .top, .top, .top, .top, .top, .top, .top, .top]) (fun (s7 : Int × Int) => [.var [.int .i64 a.op, .int .i64 a.sortf, .str a.name, .int .i64 a.num, .sl false 5 (List.map Node.cells a.kids)], .var [.int .i64 b.op, .int .i64 b.sortf, .str b.name, .int .i64 b.num, .sl false 5 (List.map Node.cells b.kids)]]) ?_ N (r6, 0)
            intro s7
            try simp -implicitDefEqProofs only [push_cast, hty, heq, h0, Proofs.Try.f19, g19_81, g19_19, reduceCtorEq, Nat.reduceEqDiff, Nat.reduceAdd, Nat.reduceLeDiff, Nat.reduceMul, Nat.reduceSub, Nat.reduceBEq, Nat.reduceLT, Int.reduceLT, Int.reduceLE, Int.reduceGT, Int.reduceGE, Int.reduceBEq, Int.reduceEq, Int.reduceToNat, Int.reduceAdd, Int.reduceSub, h1, h2, h3, h4, h5, F19_s3]
            try simp only [bindO_assoc]
            refine ite_ext (fun h6 => ?_) (fun h6 => ?_)
            · try simp -implicitDefEqProofs only [push_cast, hty, heq, h0, Proofs.Try.f19, g19_81, g19_19, reduceCtorEq, Nat.reduceEqDiff, Nat.reduceAdd, Nat.reduceLeDiff, Nat.reduceMul, Nat.reduceSub, Nat.reduceBEq, Nat.reduceLT, Int.reduceLT, Int.reduceLE, Int.reduceGT, Int.reduceGE, Int.reduceBEq, Int.reduceEq, Int.reduceToNat, Int.reduceAdd, Int.reduceSub, h1, h2, h3, h4, h5, F19_s3, h6]
              try simp only [bindO_assoc]
              refine ite_ext (fun h7 => ?_) (fun h7 => ?_)
              · try simp -implicitDefEqProofs only [push_cast, hty, heq, h0, Proofs.Try.f19, g19_81, g19_19, reduceCtorEq, Nat.reduceEqDiff, Nat.reduceAdd, Nat.reduceLeDiff, Nat.reduceMul, Nat.reduceSub, Nat.reduceBEq, Nat.reduceLT, Int.reduceLT, Int.reduceLE, Int.reduceGT, Int.reduceGE, Int.reduceBEq, Int.reduceEq, Int.reduceToNat, Int.reduceAdd, Int.reduceSub, h1, h2, h3, h4, h5, F19_s3, h6, h7]
                try simp only [bindO_assoc]
                refine at_sl (c := Node.cells) fun x8 h8 h9 h10 h11 => ?_
                try simp only [Int.reduceToNat, Int.toNat_natCast] at h10 h11
                try simp -implicitDefEqProofs only [push_cast, hty, heq, h0, Proofs.Try.f19, g19_81, g19_19, reduceCtorEq, Nat.reduceEqDiff, Nat.reduceAdd, Nat.reduceLeDiff, Nat.reduceMul, Nat.reduceSub, Nat.reduceBEq, Nat.reduceLT, Int.reduceLT, Int.reduceLE, Int.reduceGT, Int.reduceGE, Int.reduceBEq, Int.reduceEq, Int.reduceToNat, Int.reduceAdd, Int.reduceSub, h1, h2, h3, h4, h5, F19_s3, h6, h7, h8, h10, h11]
                try simp only [bindO_assoc]
                refine at_sl (c := Node.cells) fun x9 h12 h13 h14 h15 => ?_
                try simp only [Int.reduceToNat, Int.toNat_natCast] at h14 h15
                try simp -implicitDefEqProofs only [push_cast, hty, heq, h0, Proofs.Try.f19, g19_81, g19_19, reduceCtorEq, Nat.reduceEqDiff, Nat.reduceAdd, Nat.reduceLeDiff, Nat.reduceMul, Nat.reduceSub, Nat.reduceBEq, Nat.reduceLT, Int.reduceLT, Int.reduceLE, Int.reduceGT, Int.reduceGE, Int.reduceBEq, Int.reduceEq, Int.reduceToNat, Int.reduceAdd, Int.reduceSub, h1, h2, h3, h4, h5, F19_s3, h6, h7, h8, h10, h11, h12, h14, h15]
                try simp only [bindO_assoc]
                refine bindO_ext fun r10 => ?_
                simp -implicitDefEqProofs only [push_cast, hty, heq, h0, Proofs.Try.f19, g19_81, g19_19, reduceCtorEq, Nat.reduceEqDiff, Nat.reduceAdd, Nat.reduceLeDiff, Nat.reduceMul, Nat.reduceSub, Nat.reduceBEq, Nat.reduceLT, Int.reduceLT, Int.reduceLE, Int.reduceGT, Int.reduceGE, Int.reduceBEq, Int.reduceEq, Int.reduceToNat, Int.reduceAdd, Int.reduceSub, h1, h2, h3, h4, h5, F19_s3, h6, h7, h8, h10, h11, h12, h14, h15]
              · simp -implicitDefEqProofs only [push_cast, hty, heq, h0, Proofs.Try.f19, g19_81, g19_19, reduceCtorEq, Nat.reduceEqDiff, Nat.reduceAdd, Nat.reduceLeDiff, Nat.reduceMul, Nat.reduceSub, Nat.reduceBEq, Nat.reduceLT, Int.reduceLT, Int.reduceLE, Int.reduceGT, Int.reduceGE, Int.reduceBEq, Int.reduceEq, Int.reduceToNat, Int.reduceAdd, Int.reduceSub, h1, h2, h3, h4, h5, F19_s3, h6, h7]
            · simp -implicitDefEqProofs only [push_cast, hty, heq, h0, Proofs.Try.f19, g19_81, g19_19, reduceCtorEq, Nat.reduceEqDiff, Nat.reduceAdd, Nat.reduceLeDiff, Nat.reduceMul, Nat.reduceSub, Nat.reduceBEq, Nat.reduceLT, Int.reduceLT, Int.reduceLE, Int.reduceGT, Int.reduceGE, Int.reduceBEq, Int.reduceEq, Int.reduceToNat, Int.reduceAdd, Int.reduceSub, h1, h2, h3, h4, h5, F19_s3, h6]
          · try simp -implicitDefEqProofs only [push_cast, hty, heq, h0, Proofs.Try.f19, g19_81, g19_19, reduceCtorEq, Nat.reduceEqDiff, Nat.reduceAdd, Nat.reduceLeDiff, Nat.reduceMul, Nat.reduceSub, Nat.reduceBEq, Nat.reduceLT, Int.reduceLT, Int.reduceLE, Int.reduceGT, Int.reduceGE, Int.reduceBEq, Int.reduceEq, Int.reduceToNat, Int.reduceAdd, Int.reduceSub, h1, h2, h3, h4, h5]
            try simp only [bindO_assoc]
            refine while_loop (S := Unit) (fun (s11 : Unit) => [.top, .top, .ptr 0 0, .ptr 1 0, .top, .int .i64 r5, .int .i64 0, .top, .top, .top, .top, .top, .top, .top, .top, .top, .top, .top, .top, .top, .top, .top, .top, .top, .top, .top, .top, .top, .top, .top, .top, .top, .top, .top, .top, .top, .top, .top, .top, .top, .top, .top, .top, .top, .top, .top, .top, .top, .top, .top, .top, .top, .top, .top, .top, .top, .top, .top, .top, .top, .top, .top, .top, .top, .top, .top, .top, .top, .top, .top, .top, .top, .top, .top, .top, .top]) (fun (s11 : Unit) => [.var [.int .i64 a.op, .int .i64 a.sortf, .str a.name, .int .i64 a.num, .sl false 5 (List.map Node.cells a.kids)], .var [.int .i64 b.op, .int .i64 b.sortf, .str b.name, .int .i64 b.num, .sl false 5 (List.map Node.cells b.kids)]]) ?_ N ()
            intro s11
            simp -implicitDefEqProofs only [push_cast, hty, heq, h0, Proofs.Try.f19, g19_81, g19_19, reduceCtorEq, Nat.reduceEqDiff, Nat.reduceAdd, Nat.reduceLeDiff, Nat.reduceMul, Nat.reduceSub, Nat.reduceBEq, Nat.reduceLT, Int.reduceLT, Int.reduceLE, Int.reduceGT, Int.reduceGE, Int.reduceBEq, Int.reduceEq, Int.reduceToNat, Int.reduceAdd, Int.reduceSub, h1, h2, h3, h4, h5, F19_s4]
        · try simp -implicitDefEqProofs only [push_cast, hty, heq, h0, Proofs.Try.f19, g19_81, g19_19, reduceCtorEq, Nat.reduceEqDiff, Nat.reduceAdd, Nat.reduceLeDiff, Nat.reduceMul, Nat.reduceSub, Nat.reduceBEq, Nat.reduceLT, Int.reduceLT, Int.reduceLE, Int.reduceGT, Int.reduceGE, Int.reduceBEq, Int.reduceEq, Int.reduceToNat, Int.reduceAdd, Int.reduceSub, h1, h2, h3, h4]
          try simp only [bindO_assoc]
          refine while_loop (S := Unit) (fun (s4 : Unit) => [.top, .top, .ptr 0 0, .ptr 1 0, .top, .int .i64 1, .int .i64 0, .top, .top, .top, .top, .top, .top, .top, .top, .top, .top, .top, .top, .top, .top, .top, .top, .top, .top, .top, .top, .top, .top, .top, .top, .top, .top, .top, .top, .top, .top, .top, .top, .top, .top, .top, .top, .top, .top, .top, .top, .top, .top, .top, .top, .top, .top, .top, .top, .top, .top, .top, .top, .top, .top, .top, .top, .top, .top, .top, .top, .top, .top, .top, .top, .top, .top, .top, .top, .top]) (fun (s4 : Unit) => [.var [.int .i64 a.op, .int .i64 a.sortf, .str a.name, .int .i64 a.num, .sl false 5 (List.map Node.cells a.kids)], .var [.int .i64 b.op, .int .i64 b.sortf, .str b.name, .int .i64 b.num, .sl false 5 (List.map Node.cells b.kids)]]) ?_ N ()
          intro s4
          simp -implicitDefEqProofs only [push_cast, hty, heq, h0, Proofs.Try.f19, g19_81, g19_19, reduceCtorEq, Nat.reduceEqDiff, Nat.reduceAdd, Nat.reduceLeDiff, Nat.reduceMul, Nat.reduceSub, Nat.reduceBEq, Nat.reduceLT, Int.reduceLT, Int.reduceLE, Int.reduceGT, Int.reduceGE, Int.reduceBEq, Int.reduceEq, Int.reduceToNat, Int.reduceAdd, Int.reduceSub, h1, h2, h3, h4, F19_s2]
    · try simp -implicitDefEqProofs only [push_cast, hty, heq, h0, Proofs.Try.f19, g19_81, g19_19, reduceCtorEq, Nat.reduceEqDiff, Nat.reduceAdd, Nat.reduceLeDiff, Nat.reduceMul, Nat.reduceSub, Nat.reduceBEq, Nat.reduceLT, Int.reduceLT, Int.reduceLE, Int.reduceGT, Int.reduceGE, Int.reduceBEq, Int.reduceEq, Int.reduceToNat, Int.reduceAdd, Int.reduceSub, h1, h2]
      try simp only [bindO_assoc]
      refine while_loop (S := Unit) (fun (s12 : Unit) => [.top, .top, .ptr 0 0, .ptr 1 0, .top, .int .i64 r2, .int .i64 0, .top, .top, .top, .top, .top, .top, .top, .top, .top, .top, .top, .top, .top, .top, .top, .top, .top, .top, .top, .top, .top, .top, .top, .top, .top, .top, .top, .top, .top, .top, .top, .top, .top, .top, .top, .top, .top, .top, .top, .top, .top, .top, .top, .top, .top, .top, .top, .top, .top, .top, .top, .top, .top, .top, .top, .top, .top, .top, .top, .top, .top, .top, .top, .top, .top, .top, .top, .top, .top]) (fun (s12 : Unit) => [.var [.int .i64 a.op, .int .i64 a.sortf, .str a.name, .int .i64 a.num, .sl false 5 (List.map Node.cells a.kids)], .var [.int .i64 b.op, .int .i64 b.sortf, .str b.name, .int .i64 b.num, .sl false 5 (List.map Node.cells b.kids)]]) ?_ N ()
      intro s12
      simp -implicitDefEqProofs only [push_cast, hty, heq, h0, Proofs.Try.f19, g19_81, g19_19, reduceCtorEq, Nat.reduceEqDiff, Nat.reduceAdd, Nat.reduceLeDiff, Nat.reduceMul, Nat.reduceSub, Nat.reduceBEq, Nat.reduceLT, Int.reduceLT, Int.reduceLE, Int.reduceGT, Int.reduceGE, Int.reduceBEq, Int.reduceEq, Int.reduceToNat, Int.reduceAdd, Int.reduceSub, h1, h2, F19_s5]
  · try simp -implicitDefEqProofs only [push_cast, hty, heq, h0, Proofs.Try.f19, g19_81, g19_19, reduceCtorEq, Nat.reduceEqDiff, Nat.reduceAdd, Nat.reduceLeDiff, Nat.reduceMul, Nat.reduceSub, Nat.reduceBEq, Nat.reduceLT, Int.reduceLT, Int.reduceLE, Int.reduceGT, Int.reduceGE, Int.reduceBEq, Int.reduceEq, Int.reduceToNat, Int.reduceAdd, Int.reduceSub, h1]
    try simp only [bindO_assoc]
    refine while_loop (S := Unit) (fun (s13 : Unit) => [.top, .top, .ptr 0 0, .ptr 1 0, .top, .int .i64 r1, .int .i64 0, .top, .top, .top, .top, .top, .top, .top, .top, .top, .top, .top, .top, .top, .top, .top, .top, .top, .top, .top, .top, .top, .top, .top, .top, .top, .top, .top, .top, .top, .top, .top, .top, .top, .top, .top, .top, .top, .top, .top, .top, .top, .top, .top, .top, .top, .top, .top, .top, .top, .top, .top, .top, .top, .top, .top, .top, .top, .top, .top, .top, .top, .top, .top, .top, .top, .top, .top, .top, .top]) (fun (s13 : Unit) => [.var [.int .i64 a.op, .int .i64 a.sortf, .str a.name, .int .i64 a.num, .sl false 5 (List.map Node.cells a.kids)], .var [.int .i64 b.op, .int .i64 b.sortf, .str b.name, .int .i64 b.num, .sl false 5 (List.map Node.cells b.kids)]]) ?_ N ()
    intro s13
    simp -implicitDefEqProofs only [push_cast, hty, heq, h0, Proofs.Try.f19, g19_81, g19_19, reduceCtorEq, Nat.reduceEqDiff, Nat.reduceAdd, Nat.reduceLeDiff, Nat.reduceMul, Nat.reduceSub, Nat.reduceBEq, Nat.reduceLT, Int.reduceLT, Int.reduceLE, Int.reduceGT, Int.reduceGE, Int.reduceBEq, Int.reduceEq, Int.reduceToNat, Int.reduceAdd, Int.reduceSub, h1, F19_s6]
theorem ev21 {E : Env} {N : Nat} (hB : N ≤ 4611686018427387904) (hty : E.ty = tys) (heq : E.eqt = eqts) (h0 : E.n0 = 0) (g21_19 : ∀ vs σ, E.tab 19 vs σ = plain (t19 N) vs σ) (a : Node) (b : Node) :
    bindO (aPure E Proofs.Try.f21 H21 N [.agg (Node.cells a), .agg (Node.cells b)]) (cv sh21) = bindO (F21 N a b) fun r => some (v21 r) := by
  unfold F21
  rw [r_pure]
  unfold sh21
  try simp -implicitDefEqProofs only [push_cast, hty, heq, h0, Proofs.Try.f21, g21_19, reduceCtorEq, Nat.reduceEqDiff, Nat.reduceAdd, Nat.reduceLeDiff, Nat.reduceMul, Nat.reduceSub, Nat.reduceBEq, Nat.reduceLT, Int.reduceLT, Int.reduceLE, Int.reduceGT, Int.reduceGE, Int.reduceBEq, Int.reduceEq, Int.reduceToNat, Int.reduceAdd, Int.reduceSub]
  try simp only [bindO_assoc]
  refine bindO_ext fun r1 => ?_
  simp -implicitDefEqProofs only [push_cast, hty, heq, h0, Proofs.Try.f21, g21_19, reduceCtorEq, Nat.reduceEqDiff, Nat.reduceAdd, Nat.reduceLeDiff, Nat.reduceMul, Nat.reduceSub, Nat.reduceBEq, Nat.reduceLT, Int.reduceLT, Int.reduceLE, Int.reduceGT, Int.reduceGE, Int.reduceBEq, Int.reduceEq, Int.reduceToNat, Int.reduceAdd, Int.reduceSub]
theorem ev24 {E : Env} {N : Nat} (hB : N ≤ 4611686018427387904) (hty : E.ty = tys) (heq : E.eqt = eqts) (h0 : E.n0 = 0) (g24_22 : ∀ vs σ, E.tab 22 vs σ = plain (t22 N) vs σ) (n : Node) (name : ByteArray) (withq : Node) :
    bindO (aPure E Proofs.Try.f24 H24 N [.agg (Node.cells n), .str name, .agg (Node.cells withq)]) (cv sh24) = bindO (F24 N n name withq) fun r => some (v24 r) := by
  unfold F24
  rw [r_pure]
  unfold sh24
  try simp -implicitDefEqProofs only [push_cast, hty, heq, h0, Proofs.Try.f24, g24_22, reduceCtorEq, Nat.reduceEqDiff, Nat.reduceAdd, Nat.reduceLeDiff, Nat.reduceMul, Nat.reduceSub, Nat.reduceBEq, Nat.reduceLT, Int.reduceLT, Int.reduceLE, Int.reduceGT, Int.reduceGE, Int.reduceBEq, Int.reduceEq, Int.reduceToNat, Int.reduceAdd, Int.reduceSub]
  try simp only [bindO_assoc]
  refine bindO_ext fun r1 => ?_
  simp -implicitDefEqProofs only [push_cast, hty, heq, h0, Proofs.Try.f24, g24_22, reduceCtorEq, Nat.reduceEqDiff, Nat.reduceAdd, Nat.reduceLeDiff, Nat.reduceMul, Nat.reduceSub, Nat.reduceBEq, Nat.reduceLT, Int.reduceLT, Int.reduceLE, Int.reduceGT, Int.reduceGE, Int.reduceBEq, Int.reduceEq, Int.reduceToNat, Int.reduceAdd, Int.reduceSub]
theorem ev25 {E : Env} {N : Nat} (hB : N ≤ 4611686018427387904) (hty : E.ty = tys) (heq : E.eqt = eqts) (h0 : E.n0 = 0) (g25_23 : ∀ vs σ, E.tab 23 vs σ = plain (t23 N) vs σ) (n : Node) (name : ByteArray) (withq : Node) :
    bindO (aPure E Proofs.Try.f25 H25 N [.agg (Node.cells n), .str name, .agg (Node.cells withq)]) (cv sh25) = bindO (F25 N n name withq) fun r => some (v25 r) := by
  unfold F25
  rw [r_pure]
  unfold sh25
  try simp -implicitDefEqProofs only [push_cast, hty, heq, h0, Proofs.Try.f25, g25_23, reduceCtorEq, Nat.reduceEqDiff, Nat.reduceAdd, Nat.reduceLeDiff, Nat.reduceMul, Nat.reduceSub, Nat.reduceBEq, Nat.reduceLT, Int.reduceLT, Int.reduceLE, Int.reduceGT, Int.reduceGE, Int.reduceBEq, Int.reduceEq, Int.reduceToNat, Int.reduceAdd, Int.reduceSub]
  try simp only [bindO_assoc]
  refine bindO_ext fun r1 => ?_
  simp -implicitDefEqProofs only [push_cast, hty, heq, h0, Proofs.Try.f25, g25_23, reduceCtorEq, Nat.reduceEqDiff, Nat.reduceAdd, Nat.reduceLeDiff, Nat.reduceMul, Nat.reduceSub, Nat.reduceBEq, Nat.reduceLT, Int.reduceLT, Int.reduceLE, Int.reduceGT, Int.reduceGE, Int.reduceBEq, Int.reduceEq, Int.reduceToNat, Int.reduceAdd, Int.reduceSub]
theorem ev5 {E : Env} {N : Nat} (hB : N ≤ 4611686018427387904) (hty : E.ty = tys) (heq : E.eqt = eqts) (h0 : E.n0 = 0) (g5_12 : ∀ vs σ, E.tab 12 vs σ = plain (t12 N) vs σ) (g5_13 : ∀ vs σ, E.tab 13 vs σ = lent (t13 N) vs σ) (g5_22 : ∀ vs σ, E.tab 22 vs σ = plain (t22 N) vs σ) (g5_23 : ∀ vs σ, E.tab 23 vs σ = plain (t23 N) vs σ) (g5_21 : ∀ vs σ, E.tab 21 vs σ = plain (t21 N) vs σ) (g5_24 : ∀ vs σ, E.tab 24 vs σ = plain (t24 N) vs σ) (g5_25 : ∀ vs σ, E.tab 25 vs σ = plain (t25 N) vs σ) (n : Node) (names : List ByteArray) (withq : List Node) :
    bindO (aPure E Proofs.Try.f5 H5 N [.agg (Node.cells n), .sl false 1 (List.map cS names), .sl false 5 (List.map Node.cells withq)]) (cv sh5) = bindO (F5 N n names withq) fun r => some (v5 r) := by
  unfold F5
  rw [r_pure]
  unfold sh5
  try simp -implicitDefEqProofs only [push_cast, hty, heq, h0, Proofs.Try.f5, g5_12, g5_13, g5_22, g5_23, g5_21, g5_24, g5_25, reduceCtorEq, Nat.reduceEqDiff, Nat.reduceAdd, Nat.reduceLeDiff, Nat.reduceMul, Nat.reduceSub, Nat.reduceBEq, Nat.reduceLT, Int.reduceLT, Int.reduceLE, Int.reduceGT, Int.reduceGE, Int.reduceBEq, Int.reduceEq, Int.reduceToNat, Int.reduceAdd, Int.reduceSub]
  try simp only [bindO_assoc]
  refine bindO_ext fun r1 => ?_
  try simp -implicitDefEqProofs only [push_cast, hty, heq, h0, Proofs.Try.f5, g5_12, g5_13, g5_22, g5_23, g5_21, g5_24, g5_25, reduceCtorEq, Nat.reduceEqDiff, Nat.reduceAdd, Nat.reduceLeDiff, Nat.reduceMul, Nat.reduceSub, Nat.reduceBEq, Nat.reduceLT, Int.reduceLT, Int.reduceLE, Int.reduceGT, Int.reduceGE, Int.reduceBEq, Int.reduceEq, Int.reduceToNat, Int.reduceAdd, Int.reduceSub]
  try simp only [bindO_assoc]
  refine iten_ext (fun h1 => ?_) (fun h1 => ?_)
  · try simp -implicitDefEqProofs only [push_cast, hty, heq, h0, Proofs.Try.f5, g5_12, g5_13, g5_22, g5_23, g5_21, g5_24, g5_25, reduceCtorEq, Nat.reduceEqDiff, Nat.reduceAdd, Nat.reduceLeDiff, Nat.reduceMul, Nat.reduceSub, Nat.reduceBEq, Nat.reduceLT, Int.reduceLT, Int.reduceLE, Int.reduceGT, Int.reduceGE, Int.reduceBEq, Int.reduceEq, Int.reduceToNat, Int.reduceAdd, Int.reduceSub, h1]
    try simp only [bindO_assoc]
    refine iten_ext (fun h2 => ?_) (fun h2 => ?_)
    · simp -implicitDefEqProofs only [push_cast, hty, heq, h0, Proofs.Try.f5, g5_12, g5_13, g5_22, g5_23, g5_21, g5_24, g5_25, reduceCtorEq, Nat.reduceEqDiff, Nat.reduceAdd, Nat.reduceLeDiff, Nat.reduceMul, Nat.reduceSub, Nat.reduceBEq, Nat.reduceLT, Int.reduceLT, Int.reduceLE, Int.reduceGT, Int.reduceGE, Int.reduceBEq, Int.reduceEq, Int.reduceToNat, Int.reduceAdd, Int.reduceSub, h1, h2]
    · try simp -implicitDefEqProofs only [push_cast, hty, heq, h0, Proofs.Try.f5, g5_12, g5_13, g5_22, g5_23, g5_21, g5_24, g5_25, reduceCtorEq, Nat.reduceEqDiff, Nat.reduceAdd, Nat.reduceLeDiff, Nat.reduceMul, Nat.reduceSub, Nat.reduceBEq, Nat.reduceLT, Int.reduceLT, Int.reduceLE, Int.reduceGT, Int.reduceGE, Int.reduceBEq, Int.reduceEq, Int.reduceToNat, Int.reduceAdd, Int.reduceSub, h1, h2]
      try simp only [bindO_assoc]
      refine iten_ext (fun h3 => ?_) (fun h3 => ?_)
      · simp -implicitDefEqProofs only [push_cast, hty, heq, h0, Proofs.Try.f5, g5_12, g5_13, g5_22, g5_23, g5_21, g5_24, g5_25, reduceCtorEq, Nat.reduceEqDiff, Nat.reduceAdd, Nat.reduceLeDiff, Nat.reduceMul, Nat.reduceSub, Nat.reduceBEq, Nat.reduceLT, Int.reduceLT, Int.reduceLE, Int.reduceGT, Int.reduceGE, Int.reduceBEq, Int.reduceEq, Int.reduceToNat, Int.reduceAdd, Int.reduceSub, h1, h2, h3]
      · try simp -implicitDefEqProofs only [push_cast, hty, heq, h0, Proofs.Try.f5, g5_12, g5_13, g5_22, g5_23, g5_21, g5_24, g5_25, reduceCtorEq, Nat.reduceEqDiff, Nat.reduceAdd, Nat.reduceLeDiff, Nat.reduceMul, Nat.reduceSub, Nat.reduceBEq, Nat.reduceLT, Int.reduceLT, Int.reduceLE, Int.reduceGT, Int.reduceGE, Int.reduceBEq, Int.reduceEq, Int.reduceToNat, Int.reduceAdd, Int.reduceSub, h1, h2, h3]
        try simp only [bindO_assoc]
        refine ite_ext (fun h4 => ?_) (fun h4 => ?_)
        · try simp -implicitDefEqProofs only [push_cast, hty, heq, h0, Proofs.Try.f5, g5_12, g5_13, g5_22, g5_23, g5_21, g5_24, g5_25, reduceCtorEq, Nat.reduceEqDiff, Nat.reduceAdd, Nat.reduceLeDiff, Nat.reduceMul, Nat.reduceSub, Nat.reduceBEq, Nat.reduceLT, Int.reduceLT, Int.reduceLE, Int.reduceGT, Int.reduceGE, Int.reduceBEq, Int.reduceEq, Int.reduceToNat, Int.reduceAdd, Int.reduceSub, h1, h2, h3, h4]
          try simp only [bindO_assoc]
          refine ite_ext (fun h5 => ?_) (fun h5 => ?_)
          · try simp -implicitDefEqProofs only [push_cast, hty, heq, h0, Proofs.Try.f5, g5_12, g5_13, g5_22, g5_23, g5_21, g5_24, g5_25, reduceCtorEq, Nat.reduceEqDiff, Nat.reduceAdd, Nat.reduceLeDiff, Nat.reduceMul, Nat.reduceSub, Nat.reduceBEq, Nat.reduceLT, Int.reduceLT, Int.reduceLE, Int.reduceGT, Int.reduceGE, Int.reduceBEq, Int.reduceEq, Int.reduceToNat, Int.reduceAdd, Int.reduceSub, h1, h2, h3, h4, h5]
            try simp only [bindO_assoc]
            refine bindO_ext fun r2 => ?_
            try simp -implicitDefEqProofs only [push_cast, hty, heq, h0, Proofs.Try.f5, g5_12, g5_13, g5_22, g5_23, g5_21, g5_24, g5_25, reduceCtorEq, Nat.reduceEqDiff, Nat.reduceAdd, Nat.reduceLeDiff, Nat.reduceMul, Nat.reduceSub, Nat.reduceBEq, Nat.reduceLT, Int.reduceLT, Int.reduceLE, Int.reduceGT, Int.reduceGE, Int.reduceBEq, Int.reduceEq, Int.reduceToNat, Int.reduceAdd, Int.reduceSub, h1, h2, h3, h4, h5]
            try simp only [bindO_assoc]
            refine iten_ext (fun h6 => ?_) (fun h6 => ?_)
            · try simp -implicitDefEqProofs only [push_cast, hty, heq, h0, Proofs.Try.f5, g5_12, g5_13, g5_22, g5_23, g5_21, g5_24, g5_25, reduceCtorEq, Nat.reduceEqDiff, Nat.reduceAdd, Nat.reduceLeDiff, Nat.reduceMul, Nat.reduceSub, Nat.reduceBEq, Nat.reduceLT, Int.reduceLT, Int.reduceLE, Int.reduceGT, Int.reduceGE, Int.reduceBEq, Int.reduceEq, Int.reduceToNat, Int.reduceAdd, Int.reduceSub, h1, h2, h3, h4, h5, h6]
              try simp only [bindO_assoc]
              refine bindO_ext fun r3 => ?_
              try simp -implicitDefEqProofs only [push_cast, hty, heq, h0, Proofs.Try.f5, g5_12, g5_13, g5_22, g5_23, g5_21, g5_24, g5_25, reduceCtorEq, Nat.reduceEqDiff, Nat.reduceAdd, Nat.reduceLeDiff, Nat.reduceMul, Nat.reduceSub, Nat.reduceBEq, Nat.reduceLT, Int.reduceLT, Int.reduceLE, Int.reduceGT, Int.reduceGE, Int.reduceBEq, Int.reduceEq, Int.reduceToNat, Int.reduceAdd, Int.reduceSub, h1, h2, h3, h4, h5, h6]
              try simp only [bindO_assoc]
              refine bindO_ext fun r4 => ?_
              try simp -implicitDefEqProofs only [push_cast, hty, heq, h0, Proofs.Try.f5, g5_12, g5_13, g5_22, g5_23, g5_21, g5_24, g5_25, reduceCtorEq, Nat.reduceEqDiff, Nat.reduceAdd, Nat.reduceLeDiff, Nat.reduceMul, Nat.reduceSub, Nat.reduceBEq, Nat.reduceLT, Int.reduceLT, Int.reduceLE, Int.reduceGT, Int.reduceGE, Int.reduceBEq, Int.reduceEq, Int.reduceToNat, Int.reduceAdd, Int.reduceSub, h1, h2, h3, h4, h5, h6]
              try simp only [bindO_assoc]
              refine bindO_ext fun r5 => ?_
              try simp -implicitDefEqProofs only [push_cast, hty, heq, h0, Proofs.Try.f5, g5_12, g5_13, g5_22, g5_23, g5_21, g5_24, g5_25, reduceCtorEq, Nat.reduceEqDiff, Nat.reduceAdd, Nat.reduceLeDiff, Nat.reduceMul, Nat.reduceSub, Nat.reduceBEq, Nat.reduceLT, Int.reduceLT, Int.reduceLE, Int.reduceGT, Int.reduceGE, Int.reduceBEq, Int.reduceEq, Int.reduceToNat, Int.reduceAdd, Int.reduceSub, h1, h2, h3, h4, h5, h6]
              try simp only [bindO_assoc]
              refine iten_ext (fun h7 => ?_) (fun h7 => ?_)
              · try simp -implicitDefEqProofs only [push_cast, hty, heq, h0, Proofs.Try.f5, g5_12, g5_13, g5_22, g5_23, g5_21, g5_24, g5_25, reduceCtorEq, Nat.reduceEqDiff, Nat.reduceAdd, Nat.reduceLeDiff, Nat.reduceMul, Nat.reduceSub, Nat.reduceBEq, Nat.reduceLT, Int.reduceLT, Int.reduceLE, Int.reduceGT, Int.reduceGE, Int.reduceBEq, Int.reduceEq, Int.reduceToNat, Int.reduceAdd, Int.reduceSub, h1, h2, h3, h4, h5, h6, h7]
                try simp only [bindO_assoc]
                refine iten_ext (fun h8 => ?_) (fun h8 => ?_)
                · try simp -implicitDefEqProofs only [push_cast, hty, heq, h0, Proofs.Try.f5, g5_12, g5_13, g5_22, g5_23, g5_21, g5_24, g5_25, reduceCtorEq, Nat.reduceEqDiff, Nat.reduceAdd, Nat.reduceLeDiff, Nat.reduceMul, Nat.reduceSub, Nat.reduceBEq, Nat.reduceLT, Int.reduceLT, Int.reduceLE, Int.reduceGT, Int.reduceGE, Int.reduceBEq, Int.reduceEq, Int.reduceToNat, Int.reduceAdd, Int.reduceSub, h1, h2, h3, h4, h5, h6, h7, h8]
                  try simp only [bindO_assoc]
                  refine bindO_ext fun r13 => ?_
                  try simp -implicitDefEqProofs only [push_cast, hty, heq, h0, Proofs.Try.f5, g5_12, g5_13, g5_22, g5_23, g5_21, g5_24, g5_25, reduceCtorEq, Nat.reduceEqDiff, Nat.reduceAdd, Nat.reduceLeDiff, Nat.reduceMul, Nat.reduceSub, Nat.reduceBEq, Nat.reduceLT, Int.reduceLT, Int.reduceLE, Int.reduceGT, Int.reduceGE, Int.reduceBEq, Int.reduceEq, Int.reduceToNat, Int.reduceAdd, Int.reduceSub, h1, h2, h3, h4, h5, h6, h7, h8]
                  try simp only [bindO_assoc]
                  refine bindO_ext fun r14 => ?_
                  simp -implicitDefEqProofs only [push_cast, hty, heq, h0, Proofs.Try.f5, g5_12, g5_13, g5_22, g5_23, g5_21, g5_24, g5_25, reduceCtorEq, Nat.reduceEqDiff, Nat.reduceAdd, Nat.reduceLeDiff, Nat.reduceMul, Nat.reduceSub, Nat.reduceBEq, Nat.reduceLT, Int.reduceLT, Int.reduceLE, Int.reduceGT, Int.reduceGE, Int.reduceBEq, Int.reduceEq, Int.reduceToNat, Int.reduceAdd, Int.reduceSub, h1, h2, h3, h4, h5, h6, h7, h8]
                · try simp -implicitDefEqProofs only [push_cast, hty, heq, h0, Proofs.Try.f5, g5_12, g5_13, g5_22, g5_23, g5_21, g5_24, g5_25, reduceCtorEq, Nat.reduceEqDiff, Nat.reduceAdd, Nat.reduceLeDiff, Nat.reduceMul, Nat.reduceSub, Nat.reduceBEq, Nat.reduceLT, Int.reduceLT, Int.reduceLE, Int.reduceGT, Int.reduceGE, Int.reduceBEq, Int.reduceEq, Int.reduceToNat, Int.reduceAdd, Int.reduceSub, h1, h2, h3, h4, h5, h6, h7, h8]
                  try simp only [bindO_assoc]
                  refine ite_ext (fun h9 => ?_) (fun h9 => ?_)
                  · try simp -implicitDefEqProofs only [push_cast, hty, heq, h0, Proofs.Try.f5, g5_12, g5_13, g5_22, g5_23, g5_21, g5_24, g5_25, reduceCtorEq, Nat.reduceEqDiff, Nat.reduceAdd, Nat.reduceLeDiff, Nat.reduceMul, Nat.reduceSub, Nat.reduceBEq, Nat.reduceLT, Int.reduceLT, Int.reduceLE, Int.reduceGT, Int.reduceGE, Int.reduceBEq, Int.reduceEq, Int.reduceToNat, Int.reduceAdd, Int.reduceSub, h1, h2, h3, h4, h5, h6, h7, h8, h9]
                    try simp only [bindO_assoc]
                    refine bindO_ext fun r6 => ?_
                    try simp -implicitDefEqProofs only [push_cast, hty, heq, h0, Proofs.Try.f5, g5_12, g5_13, g5_22, g5_23, g5_21, g5_24, g5_25, reduceCtorEq, Nat.reduceEqDiff, Nat.reduceAdd, Nat.reduceLeDiff, Nat.reduceMul, Nat.reduceSub, Nat.reduceBEq, Nat.reduceLT, Int.reduceLT, Int.reduceLE, Int.reduceGT, Int.reduceGE, Int.reduceBEq, Int.reduceEq, Int.reduceToNat, Int.reduceAdd, Int.reduceSub, h1, h2, h3, h4, h5, h6, h7, h8, h9]
                    try simp only [bindO_assoc]
                    refine bindO_ext fun r7 => ?_
                    simp -implicitDefEqProofs only [push_cast, hty, heq, h0, Proofs.Try.f5, g5_12, g5_13, g5_22, g5_23, g5_21, g5_24, g5_25, reduceCtorEq, Nat.reduceEqDiff, Nat.reduceAdd, Nat.reduceLeDiff, Nat.reduceMul, Nat.reduceSub, Nat.reduceBEq, Nat.reduceLT, Int.reduceLT, Int.reduceLE, Int.reduceGT, Int.reduceGE, Int.reduceBEq, Int.reduceEq, Int.reduceToNat, Int.reduceAdd, Int.reduceSub, h1, h2, h3, h4, h5, h6, h7, h8, h9]
                  · try simp -implicitDefEqProofs only [push_cast, hty, heq, h0, Proofs.Try.f5, g5_12, g5_13, g5_22, g5_23, g5_21, g5_24, g5_25, reduceCtorEq, Nat.reduceEqDiff, Nat.reduceAdd, Nat.reduceLeDiff, Nat.reduceMul, Nat.reduceSub, Nat.reduceBEq, Nat.reduceLT, Int.reduceLT, Int.reduceLE, Int.reduceGT, Int.reduceGE, Int.reduceBEq, Int.reduceEq, Int.reduceToNat, Int.reduceAdd, Int.reduceSub, h1, h2, h3, h4, h5, h6, h7, h8, h9]
                    try simp only [bindO_assoc]
                    refine at_sl (c := cS) fun x8 h10 h11 h12 h13 => ?_
                    try simp only [Int.reduceToNat, Int.toNat_natCast] at h12 h13
                    try simp -implicitDefEqProofs only [push_cast, hty, heq, h0, Proofs.Try.f5, g5_12, g5_13, g5_22, g5_23, g5_21, g5_24, g5_25, reduceCtorEq, Nat.reduceEqDiff, Nat.reduceAdd, Nat.reduceLeDiff, Nat.reduceMul, Nat.reduceSub, Nat.reduceBEq, Nat.reduceLT, Int.reduceLT, Int.reduceLE, Int.reduceGT, Int.reduceGE, Int.reduceBEq, Int.reduceEq, Int.reduceToNat, Int.reduceAdd, Int.reduceSub, h1, h2, h3, h4, h5, h6, h7, h8, h9, h10, h12, h13]
                    try simp only [bindO_assoc]
                    refine at_sl (c := Node.cells) fun x9 h14 h15 h16 h17 => ?_
                    try simp only [Int.reduceToNat, Int.toNat_natCast] at h16 h17
                    try simp -implicitDefEqProofs only [push_cast, hty, heq, h0, Proofs.Try.f5, g5_12, g5_13, g5_22, g5_23, g5_21, g5_24, g5_25, reduceCtorEq, Nat.reduceEqDiff, Nat.reduceAdd, Nat.reduceLeDiff, Nat.reduceMul, Nat.reduceSub, Nat.reduceBEq, Nat.reduceLT, Int.reduceLT, Int.reduceLE, Int.reduceGT, Int.reduceGE, Int.reduceBEq, Int.reduceEq, Int.reduceToNat, Int.reduceAdd, Int.reduceSub, h1, h2, h3, h4, h5, h6, h7, h8, h9, h10, h12, h13, h14, h16, h17]
                    try simp only [bindO_assoc]
                    refine bindO_ext fun r10 => ?_
                    try simp -implicitDefEqProofs only [push_cast, hty, heq, h0, Proofs.Try.f5, g5_12, g5_13, g5_22, g5_23, g5_21, g5_24, g5_25, reduceCtorEq, Nat.reduceEqDiff, Nat.reduceAdd, Nat.reduceLeDiff, Nat.reduceMul, Nat.reduceSub, Nat.reduceBEq, Nat.reduceLT, Int.reduceLT, Int.reduceLE, Int.reduceGT, Int.reduceGE, Int.reduceBEq, Int.reduceEq, Int.reduceToNat, Int.reduceAdd, Int.reduceSub, h1, h2, h3, h4, h5, h6, h7, h8, h9, h10, h12, h13, h14, h16, h17]
                    try simp only [bindO_assoc]
                    refine bindO_ext fun r11 => ?_
                    try simp -implicitDefEqProofs only [push_cast, hty, heq, h0, Proofs.Try.f5, g5_12, g5_13, g5_22, g5_23, g5_21, g5_24, g5_25, reduceCtorEq, Nat.reduceEqDiff, Nat.reduceAdd, Nat.reduceLeDiff, Nat.reduceMul, Nat.reduceSub, Nat.reduceBEq, Nat.reduceLT, Int.reduceLT, Int.reduceLE, Int.reduceGT, Int.reduceGE, Int.reduceBEq, Int.reduceEq, Int.reduceToNat, Int.reduceAdd, Int.reduceSub, h1, h2, h3, h4, h5, h6, h7, h8, h9, h10, h12, h13, h14, h16, h17]
                    try simp only [bindO_assoc]
                    refine bindO_ext fun r12 => ?_
                    simp -implicitDefEqProofs only [push_cast, hty, heq, h0, Proofs.Try.f5, g5_12, g5_13, g5_22, g5_23, g5_21, g5_24, g5_25, reduceCtorEq, Nat.reduceEqDiff, Nat.reduceAdd, Nat.reduceLeDiff, Nat.reduceMul, Nat.reduceSub, Nat.reduceBEq, Nat.reduceLT, Int.reduceLT, Int.reduceLE, Int.reduceGT, Int.reduceGE, Int.reduceBEq, Int.reduceEq, Int.reduceToNat, Int.reduceAdd, Int.reduceSub, h1, h2, h3, h4, h5, h6, h7, h8, h9, h10, h12, h13, h14, h16, h17]
              · simp -implicitDefEqProofs only [push_cast, hty, heq, h0, Proofs.Try.f5, g5_12, g5_13, g5_22, g5_23, g5_21, g5_24, g5_25, reduceCtorEq, Nat.reduceEqDiff, Nat.reduceAdd, Nat.reduceLeDiff, Nat.reduceMul, Nat.reduceSub, Nat.reduceBEq, Nat.reduceLT, Int.reduceLT, Int.reduceLE, Int.reduceGT, Int.reduceGE, Int.reduceBEq, Int.reduceEq, Int.reduceToNat, Int.reduceAdd, Int.reduceSub, h1, h2, h3, h4, h5, h6, h7]
            · simp -implicitDefEqProofs only [push_cast, hty, heq, h0, Proofs.Try.f5, g5_12, g5_13, g5_22, g5_23, g5_21, g5_24, g5_25, reduceCtorEq, Nat.reduceEqDiff, Nat.reduceAdd, Nat.reduceLeDiff, Nat.reduceMul, Nat.reduceSub, Nat.reduceBEq, Nat.reduceLT, Int.reduceLT, Int.reduceLE, Int.reduceGT, Int.reduceGE, Int.reduceBEq, Int.reduceEq, Int.reduceToNat, Int.reduceAdd, Int.reduceSub, h1, h2, h3, h4, h5, h6]
          · try simp -implicitDefEqProofs only [push_cast, hty, heq, h0, Proofs.Try.f5, g5_12, g5_13, g5_22, g5_23, g5_21, g5_24, g5_25, reduceCtorEq, Nat.reduceEqDiff, Nat.reduceAdd, Nat.reduceLeDiff, Nat.reduceMul, Nat.reduceSub, Nat.reduceBEq, Nat.reduceLT, Int.reduceLT, Int.reduceLE, Int.reduceGT, Int.reduceGE, Int.reduceBEq, Int.reduceEq, Int.reduceToNat, Int.reduceAdd, Int.reduceSub, h1, h2, h3, h4, h5]
            try simp only [bindO_assoc]
            refine bindO_ext fun r15 => ?_
            try simp -implicitDefEqProofs only [push_cast, hty, heq, h0, Proofs.Try.f5, g5_12, g5_13, g5_22, g5_23, g5_21, g5_24, g5_25, reduceCtorEq, Nat.reduceEqDiff, Nat.reduceAdd, Nat.reduceLeDiff, Nat.reduceMul, Nat.reduceSub, Nat.reduceBEq, Nat.reduceLT, Int.reduceLT, Int.reduceLE, Int.reduceGT, Int.reduceGE, Int.reduceBEq, Int.reduceEq, Int.reduceToNat, Int.reduceAdd, Int.reduceSub, h1, h2, h3, h4, h5]
            try simp only [bindO_assoc]
            refine iten_ext (fun h18 => ?_) (fun h18 => ?_)
            · try simp -implicitDefEqProofs only [push_cast, hty, heq, h0, Proofs.Try.f5, g5_12, g5_13, g5_22, g5_23, g5_21, g5_24, g5_25, reduceCtorEq, Nat.reduceEqDiff, Nat.reduceAdd, Nat.reduceLeDiff, Nat.reduceMul, Nat.reduceSub, Nat.reduceBEq, Nat.reduceLT, Int.reduceLT, Int.reduceLE, Int.reduceGT, Int.reduceGE, Int.reduceBEq, Int.reduceEq, Int.reduceToNat, Int.reduceAdd, Int.reduceSub, h1, h2, h3, h4, h5, h18]
              try simp only [bindO_assoc]
              refine bindO_ext fun r16 => ?_
              try simp -implicitDefEqProofs only [push_cast, hty, heq, h0, Proofs.Try.f5, g5_12, g5_13, g5_22, g5_23, g5_21, g5_24, g5_25, reduceCtorEq, Nat.reduceEqDiff, Nat.reduceAdd, Nat.reduceLeDiff, Nat.reduceMul, Nat.reduceSub, Nat.reduceBEq, Nat.reduceLT, Int.reduceLT, Int.reduceLE, Int.reduceGT, Int.reduceGE, Int.reduceBEq, Int.reduceEq, Int.reduceToNat, Int.reduceAdd, Int.reduceSub, h1, h2, h3, h4, h5, h18]
              try simp only [bindO_assoc]
              refine bindO_ext fun r17 => ?_
              try simp -implicitDefEqProofs only [push_cast, hty, heq, h0, Proofs.Try.f5, g5_12, g5_13, g5_22, g5_23, g5_21, g5_24, g5_25, reduceCtorEq, Nat.reduceEqDiff, Nat.reduceAdd, Nat.reduceLeDiff, Nat.reduceMul, Nat.reduceSub, Nat.reduceBEq, Nat.reduceLT, Int.reduceLT, Int.reduceLE, Int.reduceGT, Int.reduceGE, Int.reduceBEq, Int.reduceEq, Int.reduceToNat, Int.reduceAdd, Int.reduceSub, h1, h2, h3, h4, h5, h18]
              try simp only [bindO_assoc]
              refine bindO_ext fun r18 => ?_
              try simp -implicitDefEqProofs only [push_cast, hty, heq, h0, Proofs.Try.f5, g5_12, g5_13, g5_22, g5_23, g5_21, g5_24, g5_25, reduceCtorEq, Nat.reduceEqDiff, Nat.reduceAdd, Nat.reduceLeDiff, Nat.reduceMul, Nat.reduceSub, Nat.reduceBEq, Nat.reduceLT, Int.reduceLT, Int.reduceLE, Int.reduceGT, Int.reduceGE, Int.reduceBEq, Int.reduceEq, Int.reduceToNat, Int.reduceAdd, Int.reduceSub, h1, h2, h3, h4, h5, h18]
              try simp only [bindO_assoc]
              refine iten_ext (fun h19 => ?_) (fun h19 => ?_)
              · try simp -implicitDefEqProofs only [push_cast, hty, heq, h0, Proofs.Try.f5, g5_12, g5_13, g5_22, g5_23, g5_21, g5_24, g5_25, reduceCtorEq, Nat.reduceEqDiff, Nat.reduceAdd, Nat.reduceLeDiff, Nat.reduceMul, Nat.reduceSub, Nat.reduceBEq, Nat.reduceLT, Int.reduceLT, Int.reduceLE, Int.reduceGT, Int.reduceGE, Int.reduceBEq, Int.reduceEq, Int.reduceToNat, Int.reduceAdd, Int.reduceSub, h1, h2, h3, h4, h5, h18, h19]
                try simp only [bindO_assoc]
                refine iten_ext (fun h20 => ?_) (fun h20 => ?_)
                · try simp -implicitDefEqProofs only [push_cast, hty, heq, h0, Proofs.Try.f5, g5_12, g5_13, g5_22, g5_23, g5_21, g5_24, g5_25, reduceCtorEq, Nat.reduceEqDiff, Nat.reduceAdd, Nat.reduceLeDiff, Nat.reduceMul, Nat.reduceSub, Nat.reduceBEq, Nat.reduceLT, Int.reduceLT, Int.reduceLE, Int.reduceGT, Int.reduceGE, Int.reduceBEq, Int.reduceEq, Int.reduceToNat, Int.reduceAdd, Int.reduceSub, h1, h2, h3, h4, h5, h18, h19, h20]
                  try simp only [bindO_assoc]
                  refine bindO_ext fun r26 => ?_
                  try simp -implicitDefEqProofs only [push_cast, hty, heq, h0, Proofs.Try.f5, g5_12, g5_13, g5_22, g5_23, g5_21, g5_24, g5_25, reduceCtorEq, Nat.reduceEqDiff, Nat.reduceAdd, Nat.reduceLeDiff, Nat.reduceMul, Nat.reduceSub, Nat.reduceBEq, Nat.reduceLT, Int.reduceLT, Int.reduceLE, Int.reduceGT, Int.reduceGE, Int.reduceBEq, Int.reduceEq, Int.reduceToNat, Int.reduceAdd, Int.reduceSub, h1, h2, h3, h4, h5, h18, h19, h20]
                  try simp only [bindO_assoc]
                  refine bindO_ext fun r27 => ?_
                  simp -implicitDefEqProofs only [push_cast, hty, heq, h0, Proofs.Try.f5, g5_12, g5_13, g5_22, g5_23, g5_21, g5_24, g5_25, reduceCtorEq, Nat.reduceEqDiff, Nat.reduceAdd, Nat.reduceLeDiff, Nat.reduceMul, Nat.reduceSub, Nat.reduceBEq, Nat.reduceLT, Int.reduceLT, Int.reduceLE, Int.reduceGT, Int.reduceGE, Int.reduceBEq, Int.reduceEq, Int.reduceToNat, Int.reduceAdd, Int.reduceSub, h1, h2, h3, h4, h5, h18, h19, h20]
                · try simp -implicitDefEqProofs only [push_cast, hty, heq, h0, Proofs.Try.f5, g5_12, g5_13, g5_22, g5_23, g5_21, g5_24, g5_25, reduceCtorEq, Nat.reduceEqDiff, Nat.reduceAdd, Nat.reduceLeDiff, Nat.reduceMul, Nat.reduceSub, Nat.reduceBEq, Nat.reduceLT, Int.reduceLT, Int.reduceLE, Int.reduceGT, Int.reduceGE, Int.reduceBEq, Int.reduceEq, Int.reduceToNat, Int.reduceAdd, Int.reduceSub, h1, h2, h3, h4, h5, h18, h19, h20]
                  try simp only [bindO_assoc]
                  refine ite_ext (fun h21 => ?_) (fun h21 => ?_)
                  · try simp -implicitDefEqProofs only [push_cast, hty, heq, h0, Proofs.Try.f5, g5_12, g5_13, g5_22, g5_23, g5_21, g5_24, g5_25, reduceCtorEq, Nat.reduceEqDiff, Nat.reduceAdd, Nat.reduceLeDiff, Nat.reduceMul, Nat.reduceSub, Nat.reduceBEq, Nat.reduceLT, Int.reduceLT, Int.reduceLE, Int.reduceGT, Int.reduceGE, Int.reduceBEq, Int.reduceEq, Int.reduceToNat, Int.reduceAdd, Int.reduceSub, h1, h2, h3, h4, h5, h18, h19, h20, h21]
                    try simp only [bindO_assoc]
                    refine bindO_ext fun r19 => ?_
                    try simp -implicitDefEqProofs only [push_cast, hty, heq, h0, Proofs.Try.f5, g5_12, g5_13, g5_22, g5_23, g5_21, g5_24, g5_25, reduceCtorEq, Nat.reduceEqDiff, Nat.reduceAdd, Nat.reduceLeDiff, Nat.reduceMul, Nat.reduceSub, Nat.reduceBEq, Nat.reduceLT, Int.reduceLT, Int.reduceLE, Int.reduceGT, Int.reduceGE, Int.reduceBEq, Int.reduceEq, Int.reduceToNat, Int.reduceAdd, Int.reduceSub, h1, h2, h3, h4, h5, h18, h19, h20, h21]
                    try simp only [bindO_assoc]
                    refine bindO_ext fun r20 => ?_
                    simp -implicitDefEqProofs only [push_cast, hty, heq, h0, Proofs.Try.f5, g5_12, g5_13, g5_22, g5_23, g5_21, g5_24, g5_25, reduceCtorEq, Nat.reduceEqDiff, Nat.reduceAdd, Nat.reduceLeDiff, Nat.reduceMul, Nat.reduceSub, Nat.reduceBEq, Nat.reduceLT, Int.reduceLT, Int.reduceLE, Int.reduceGT, Int.reduceGE, Int.reduceBEq, Int.reduceEq, Int.reduceToNat, Int.reduceAdd, Int.reduceSub, h1, h2, h3, h4, h5, h18, h19, h20, h21]
                  · try simp -implicitDefEqProofs only [push_cast, hty, heq, h0, Proofs.Try.f5, g5_12, g5_13, g5_22, g5_23, g5_21, g5_24, g5_25, reduceCtorEq, Nat.reduceEqDiff, Nat.reduceAdd, Nat.reduceLeDiff, Nat.reduceMul, Nat.reduceSub, Nat.reduceBEq, Nat.reduceLT, Int.reduceLT, Int.reduceLE, Int.reduceGT, Int.reduceGE, Int.reduceBEq, Int.reduceEq, Int.reduceToNat, Int.reduceAdd, Int.reduceSub, h1, h2, h3, h4, h5, h18, h19, h20, h21]
                    try simp only [bindO_assoc]
                    refine at_sl (c := cS) fun x21 h22 h23 h24 h25 => ?_
                    try simp only [Int.reduceToNat, Int.toNat_natCast] at h24 h25
                    try simp -implicitDefEqProofs only [push_cast, hty, heq, h0, Proofs.Try.f5, g5_12, g5_13, g5_22, g5_23, g5_21, g5_24, g5_25, reduceCtorEq, Nat.reduceEqDiff, Nat.reduceAdd, Nat.reduceLeDiff, Nat.reduceMul, Nat.reduceSub, Nat.reduceBEq, Nat.reduceLT, Int.reduceLT, Int.reduceLE, Int.reduceGT, Int.reduceGE, Int.reduceBEq, Int.reduceEq, Int.reduceToNat, Int.reduceAdd, Int.reduceSub, h1, h2, h3, h4, h5, h18, h19, h20, h21, h22, h24, h25]
                    try simp only [bindO_assoc]
                    refine at_sl (c := Node.cells) fun x22 h26 h27 h28 h29 => ?_
                    try simp only [Int.reduceToNat, Int.toNat_natCast] at h28 h29
                    try simp -implicitDefEqProofs only [push_cast, hty, heq, h0, Proofs.Try.f5, g5_12, g5_13, g5_22, g5_23, g5_21, g5_24, g5_25, reduceCtorEq, Nat.reduceEqDiff, Nat.reduceAdd, Nat.reduceLeDiff, Nat.reduceMul, Nat.reduceSub, Nat.reduceBEq, Nat.reduceLT, Int.reduceLT, Int.reduceLE, Int.reduceGT, Int.reduceGE, Int.reduceBEq, Int.reduceEq, Int.reduceToNat, Int.reduceAdd, Int.reduceSub, h1, h2, h3, h4, h5, h18, h19, h20, h21, h22, h24, h25, h26, h28, h29]
                    try simp only [bindO_assoc]
                    refine bindO_ext fun r23 => ?_
                    try simp -implicitDefEqProofs only [push_cast, hty, heq, h0, Proofs.Try.f5, g5_12, g5_13, g5_22, g5_23, g5_21, g5_24, g5_25, reduceCtorEq, Nat.reduceEqDiff, Nat.reduceAdd, Nat.reduceLeDiff, Nat.reduceMul, Nat.reduceSub, Nat.reduceBEq, Nat.reduceLT, Int.reduceLT, Int.reduceLE, Int.reduceGT, Int.reduceGE, Int.reduceBEq, Int.reduceEq, Int.reduceToNat, Int.reduceAdd, Int.reduceSub, h1, h2, h3, h4, h5, h18, h19, h20, h21, h22, h24, h25, h26, h28, h29]
                    try simp only [bindO_assoc]
                    refine bindO_ext fun r24 => ?_
                    try simp -implicitDefEqProofs only [push_cast, hty, heq, h0, Proofs.Try.f5, g5_12, g5_13, g5_22, g5_23, g5_21, g5_24, g5_25, reduceCtorEq, Nat.reduceEqDiff, Nat.reduceAdd, Nat.reduceLeDiff, Nat.reduceMul, Nat.reduceSub, Nat.reduceBEq, Nat.reduceLT, Int.reduceLT, Int.reduceLE, Int.reduceGT, Int.reduceGE, Int.reduceBEq, Int.reduceEq, Int.reduceToNat, Int.reduceAdd, Int.reduceSub, h1, h2, h3, h4, h5, h18, h19, h20, h21, h22, h24, h25, h26, h28, h29]
                    try simp only [bindO_assoc]
                    refine bindO_ext fun r25 => ?_
                    simp -implicitDefEqProofs only [push_cast, hty, heq, h0, Proofs.Try.f5, g5_12, g5_13, g5_22, g5_23, g5_21, g5_24, g5_25, reduceCtorEq, Nat.reduceEqDiff, Nat.reduceAdd, Nat.reduceLeDiff, Nat.reduceMul, Nat.reduceSub, Nat.reduceBEq, Nat.reduceLT, Int.reduceLT, Int.reduceLE, Int.reduceGT, Int.reduceGE, Int.reduceBEq, Int.reduceEq, Int.reduceToNat, Int.reduceAdd, Int.reduceSub, h1, h2, h3, h4, h5, h18, h19, h20, h21, h22, h24, h25, h26, h28, h29]
              · simp -implicitDefEqProofs only [push_cast, hty, heq, h0, Proofs.Try.f5, g5_12, g5_13, g5_22, g5_23, g5_21, g5_24, g5_25, reduceCtorEq, Nat.reduceEqDiff, Nat.reduceAdd, Nat.reduceLeDiff, Nat.reduceMul, Nat.reduceSub, Nat.reduceBEq, Nat.reduceLT, Int.reduceLT, Int.reduceLE, Int.reduceGT, Int.reduceGE, Int.reduceBEq, Int.reduceEq, Int.reduceToNat, Int.reduceAdd, Int.reduceSub, h1, h2, h3, h4, h5, h18, h19]
            · simp -implicitDefEqProofs only [push_cast, hty, heq, h0, Proofs.Try.f5, g5_12, g5_13, g5_22, g5_23, g5_21, g5_24, g5_25, reduceCtorEq, Nat.reduceEqDiff, Nat.reduceAdd, Nat.reduceLeDiff, Nat.reduceMul, Nat.reduceSub, Nat.reduceBEq, Nat.reduceLT, Int.reduceLT, Int.reduceLE, Int.reduceGT, Int.reduceGE, Int.reduceBEq, Int.reduceEq, Int.reduceToNat, Int.reduceAdd, Int.reduceSub, h1, h2, h3, h4, h5, h18]
        · simp -implicitDefEqProofs only [push_cast, hty, heq, h0, Proofs.Try.f5, g5_12, g5_13, g5_22, g5_23, g5_21, g5_24, g5_25, reduceCtorEq, Nat.reduceEqDiff, Nat.reduceAdd, Nat.reduceLeDiff, Nat.reduceMul, Nat.reduceSub, Nat.reduceBEq, Nat.reduceLT, Int.reduceLT, Int.reduceLE, Int.reduceGT, Int.reduceGE, Int.reduceBEq, Int.reduceEq, Int.reduceToNat, Int.reduceAdd, Int.reduceSub, h1, h2, h3, h4]
  · simp -implicitDefEqProofs only [push_cast, hty, heq, h0, Proofs.Try.f5, g5_12, g5_13, g5_22, g5_23, g5_21, g5_24, g5_25, reduceCtorEq, Nat.reduceEqDiff, Nat.reduceAdd, Nat.reduceLeDiff, Nat.reduceMul, Nat.reduceSub, Nat.reduceBEq, Nat.reduceLT, Int.reduceLT, Int.reduceLE, Int.reduceGT, Int.reduceGE, Int.reduceBEq, Int.reduceEq, Int.reduceToNat, Int.reduceAdd, Int.reduceSub, h1]
end Go.Abs.Try
