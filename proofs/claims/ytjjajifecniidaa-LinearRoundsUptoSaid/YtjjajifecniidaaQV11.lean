import Derived.Test.YtjjajifecniidaaQD
namespace Go.Abs.Try
open Go.RowKit
set_option linter.unusedSimpArgs false
set_option linter.unusedVariables false
set_option maxRecDepth 100000
set_option maxHeartbeats 4000000
attribute [local push_cast] ty2 ty3 ty9 ty22 ty24 ty41 ty43 ty52
theorem ev15 {E : Env} {N : Nat} (hB : N ≤ 4611686018427387904) (hty : E.ty = tys) (heq : E.eqt = eqts) (h0 : E.n0 = 0) (g15_27 : ∀ vs σ, E.tab 27 vs σ = plain (t27 N) vs σ) (g15_39 : ∀ vs σ, E.tab 39 vs σ = plain (t39 N) vs σ) (g15_72 : ∀ vs σ, E.tab 72 vs σ = plain (t72 N) vs σ) (g15_41 : ∀ vs σ, E.tab 41 vs σ = plain (t41 N) vs σ) (g15_28 : ∀ vs σ, E.tab 28 vs σ = plain (t28 N) vs σ) (n : Node) (sortq : Int) :
    bindO (aPure E Proofs.Try.f15 H15 N [.agg (Node.cells n), .int .i64 sortq]) (cv sh15) = bindO (F15 N n sortq) fun r => some (v15 r) := by
  unfold F15
  rw [r_pure]
  unfold sh15
  try simp -implicitDefEqProofs only [push_cast, hty, heq, h0, Proofs.Try.f15, g15_27, g15_39, g15_72, g15_41, g15_28, seval]
  try simp only [bindO_assoc]
  refine iten_ext (fun h1 => ?_) (fun h1 => ?_)
  · simp -implicitDefEqProofs only [push_cast, hty, heq, h0, Proofs.Try.f15, g15_27, g15_39, g15_72, g15_41, g15_28, seval, h1]
  · try simp -implicitDefEqProofs only [push_cast, hty, heq, h0, Proofs.Try.f15, g15_27, g15_39, g15_72, g15_41, g15_28, seval, h1]
    try simp only [bindO_assoc]
    refine ite_ext (fun h2 => ?_) (fun h2 => ?_)
    · simp -implicitDefEqProofs only [push_cast, hty, heq, h0, Proofs.Try.f15, g15_27, g15_39, g15_72, g15_41, g15_28, seval, h1, h2]
    · try simp -implicitDefEqProofs only [push_cast, hty, heq, h0, Proofs.Try.f15, g15_27, g15_39, g15_72, g15_41, g15_28, seval, h1, h2]
      try simp only [bindO_assoc]
      refine bindO_ext fun r1 => ?_
      try simp -implicitDefEqProofs only [push_cast, hty, heq, h0, Proofs.Try.f15, g15_27, g15_39, g15_72, g15_41, g15_28, seval, h1, h2]
      try simp only [bindO_assoc]
      refine iten_ext (fun h3 => ?_) (fun h3 => ?_)
      · simp -implicitDefEqProofs only [push_cast, hty, heq, h0, Proofs.Try.f15, g15_27, g15_39, g15_72, g15_41, g15_28, seval, h1, h2, h3]
      · try simp -implicitDefEqProofs only [push_cast, hty, heq, h0, Proofs.Try.f15, g15_27, g15_39, g15_72, g15_41, g15_28, seval, h1, h2, h3]
        try simp only [bindO_assoc]
        refine bindO_ext fun r2 => ?_
        try simp -implicitDefEqProofs only [push_cast, hty, heq, h0, Proofs.Try.f15, g15_27, g15_39, g15_72, g15_41, g15_28, seval, h1, h2, h3]
        try simp only [bindO_assoc]
        refine ite_ext (fun h4 => ?_) (fun h4 => ?_)
        · simp -implicitDefEqProofs only [push_cast, hty, heq, h0, Proofs.Try.f15, g15_27, g15_39, g15_72, g15_41, g15_28, seval, h1, h2, h3, h4]
        · try simp -implicitDefEqProofs only [push_cast, hty, heq, h0, Proofs.Try.f15, g15_27, g15_39, g15_72, g15_41, g15_28, seval, h1, h2, h3, h4]
          try simp only [bindO_assoc]
          refine bindO_ext fun r3 => ?_
          try simp -implicitDefEqProofs only [push_cast, hty, heq, h0, Proofs.Try.f15, g15_27, g15_39, g15_72, g15_41, g15_28, seval, h1, h2, h3, h4]
          try simp only [bindO_assoc]
          refine ite_ext (fun h5 => ?_) (fun h5 => ?_)
          · try simp -implicitDefEqProofs only [push_cast, hty, heq, h0, Proofs.Try.f15, g15_27, g15_39, g15_72, g15_41, g15_28, seval, h1, h2, h3, h4, h5]
            try simp only [bindO_assoc]
            refine bindO_ext fun r4 => ?_
            try simp -implicitDefEqProofs only [push_cast, hty, heq, h0, Proofs.Try.f15, g15_27, g15_39, g15_72, g15_41, g15_28, seval, h1, h2, h3, h4, h5]
            try simp only [bindO_assoc]
            refine iten_ext (fun h6 => ?_) (fun h6 => ?_)
            · try simp -implicitDefEqProofs only [push_cast, hty, heq, h0, Proofs.Try.f15, g15_27, g15_39, g15_72, g15_41, g15_28, seval, h1, h2, h3, h4, h5, h6]
              try simp only [bindO_assoc]
              refine iten_ext (fun h7 => ?_) (fun h7 => ?_)
              · simp -implicitDefEqProofs only [push_cast, hty, heq, h0, Proofs.Try.f15, g15_27, g15_39, g15_72, g15_41, g15_28, seval, h1, h2, h3, h4, h5, h6, h7]
              · try simp -implicitDefEqProofs only [push_cast, hty, heq, h0, Proofs.Try.f15, g15_27, g15_39, g15_72, g15_41, g15_28, seval, h1, h2, h3, h4, h5, h6, h7]
                try simp only [bindO_assoc]
                refine bindO_ext fun r5 => ?_
                try simp -implicitDefEqProofs only [push_cast, hty, heq, h0, Proofs.Try.f15, g15_27, g15_39, g15_72, g15_41, g15_28, seval, h1, h2, h3, h4, h5, h6, h7]
                try simp only [bindO_assoc]
                refine iten_ext (fun h8 => ?_) (fun h8 => ?_)
                · simp -implicitDefEqProofs only [push_cast, hty, heq, h0, Proofs.Try.f15, g15_27, g15_39, g15_72, g15_41, g15_28, seval, h1, h2, h3, h4, h5, h6, h7, h8]
                · simp -implicitDefEqProofs only [push_cast, hty, heq, h0, Proofs.Try.f15, g15_27, g15_39, g15_72, g15_41, g15_28, seval, h1, h2, h3, h4, h5, h6, h7, h8]
            · simp -implicitDefEqProofs only [push_cast, hty, heq, h0, Proofs.Try.f15, g15_27, g15_39, g15_72, g15_41, g15_28, seval, h1, h2, h3, h4, h5, h6]
          · simp -implicitDefEqProofs only [push_cast, hty, heq, h0, Proofs.Try.f15, g15_27, g15_39, g15_72, g15_41, g15_28, seval, h1, h2, h3, h4, h5]
theorem ev63 {E : Env} {N : Nat} (hB : N ≤ 4611686018427387904) (hty : E.ty = tys) (heq : E.eqt = eqts) (h0 : E.n0 = 0) (g63_28 : ∀ vs σ, E.tab 28 vs σ = plain (t28 N) vs σ) (g63_15 : ∀ vs σ, E.tab 15 vs σ = plain (t15 N) vs σ) (n : Node) :
    bindO (aPure E Proofs.Try.f63 H63 N [.agg (Node.cells n)]) (cv sh63) = bindO (F63 N n) fun r => some (v63 r) := by
  unfold F63
  rw [r_pure]
  unfold sh63
  try simp -implicitDefEqProofs only [push_cast, hty, heq, h0, Proofs.Try.f63, g63_28, g63_15, seval]
  try simp only [bindO_assoc]
  refine ite_ext (fun h1 => ?_) (fun h1 => ?_)
  · simp -implicitDefEqProofs only [push_cast, hty, heq, h0, Proofs.Try.f63, g63_28, g63_15, seval, h1]
  · try simp -implicitDefEqProofs only [push_cast, hty, heq, h0, Proofs.Try.f63, g63_28, g63_15, seval, h1]
    try simp only [bindO_assoc]
    refine ite_ext (fun h2 => ?_) (fun h2 => ?_)
    · simp -implicitDefEqProofs only [push_cast, hty, heq, h0, Proofs.Try.f63, g63_28, g63_15, seval, h1, h2]
    · try simp -implicitDefEqProofs only [push_cast, hty, heq, h0, Proofs.Try.f63, g63_28, g63_15, seval, h1, h2]
      try simp only [bindO_assoc]
      refine ite_ext (fun h3 => ?_) (fun h3 => ?_)
      · simp -implicitDefEqProofs only [push_cast, hty, heq, h0, Proofs.Try.f63, g63_28, g63_15, seval, h1, h2, h3]
      · try simp -implicitDefEqProofs only [push_cast, hty, heq, h0, Proofs.Try.f63, g63_28, g63_15, seval, h1, h2, h3]
        try simp only [bindO_assoc]
        refine ite_ext (fun h4 => ?_) (fun h4 => ?_)
        · simp -implicitDefEqProofs only [push_cast, hty, heq, h0, Proofs.Try.f63, g63_28, g63_15, seval, h1, h2, h3, h4]
        · try simp -implicitDefEqProofs only [push_cast, hty, heq, h0, Proofs.Try.f63, g63_28, g63_15, seval, h1, h2, h3, h4]
          try simp only [bindO_assoc]
          refine ite_ext (fun h5 => ?_) (fun h5 => ?_)
          · simp -implicitDefEqProofs only [push_cast, hty, heq, h0, Proofs.Try.f63, g63_28, g63_15, seval, h1, h2, h3, h4, h5]
          · try simp -implicitDefEqProofs only [push_cast, hty, heq, h0, Proofs.Try.f63, g63_28, g63_15, seval, h1, h2, h3, h4, h5]
            try simp only [bindO_assoc]
            refine bindO_ext fun r1 => ?_
            try simp -implicitDefEqProofs only [push_cast, hty, heq, h0, Proofs.Try.f63, g63_28, g63_15, seval, h1, h2, h3, h4, h5]
            try simp only [bindO_assoc]
            refine bindO_ext fun r2 => ?_
            try simp -implicitDefEqProofs only [push_cast, hty, heq, h0, Proofs.Try.f63, g63_28, g63_15, seval, h1, h2, h3, h4, h5]
            try simp only [bindO_assoc]
            refine ite_ext (fun h6 => ?_) (fun h6 => ?_)
            · try simp -implicitDefEqProofs only [push_cast, hty, heq, h0, Proofs.Try.f63, g63_28, g63_15, seval, h1, h2, h3, h4, h5, h6]
              try simp only [bindO_assoc]
              refine iten_ext (fun h7 => ?_) (fun h7 => ?_)
              · simp -implicitDefEqProofs only [push_cast, hty, heq, h0, Proofs.Try.f63, g63_28, g63_15, seval, h1, h2, h3, h4, h5, h6, h7]
              · simp -implicitDefEqProofs only [push_cast, hty, heq, h0, Proofs.Try.f63, g63_28, g63_15, seval, h1, h2, h3, h4, h5, h6, h7]
            · simp -implicitDefEqProofs only [push_cast, hty, heq, h0, Proofs.Try.f63, g63_28, g63_15, seval, h1, h2, h3, h4, h5, h6]
theorem ev81 {E : Env} {N : Nat} (hB : N ≤ 4611686018427387904) (hty : E.ty = tys) (heq : E.eqt = eqts) (h0 : E.n0 = 0)  (a : Int) (b : Int) :
    bindO (aPure E Proofs.Try.f81 H81 N [.int .i64 a, .int .i64 b]) (cv sh81) = bindO (F81 a b) fun r => some (v81 r) := by
  unfold F81
  rw [r_pure]
  unfold sh81
  try simp -implicitDefEqProofs only [push_cast, hty, heq, h0, Proofs.Try.f81, seval]
  try simp only [bindO_assoc]
  refine ite_ext (fun h1 => ?_) (fun h1 => ?_)
  · simp -implicitDefEqProofs only [push_cast, hty, heq, h0, Proofs.Try.f81, seval, h1]
  · try simp -implicitDefEqProofs only [push_cast, hty, heq, h0, Proofs.Try.f81, seval, h1]
    try simp only [bindO_assoc]
    refine ite_ext (fun h2 => ?_) (fun h2 => ?_)
    · simp -implicitDefEqProofs only [push_cast, hty, heq, h0, Proofs.Try.f81, seval, h1, h2]
    · simp -implicitDefEqProofs only [push_cast, hty, heq, h0, Proofs.Try.f81, seval, h1, h2]
theorem ev19 {E : Env} {N : Nat} (hB : N ≤ 4611686018427387904) (self19 : Node → Node → Option (Int)) (hty : E.ty = tys) (heq : E.eqt = eqts) (h0 : E.n0 = 0) (g19_81 : ∀ vs σ, E.tab 81 vs σ = plain (t81) vs σ) (g19_19 : ∀ vs σ, E.tab 19 vs σ = plain (ts19 self19) vs σ) (a : Node) (b : Node) :
    bindO (aPure E Proofs.Try.f19 H19 N [.agg (Node.cells a), .agg (Node.cells b)]) (cv sh19) = bindO (F19b self19 N a b) fun r => some (v19 r) := by
  unfold F19b
  rw [r_pure]
  unfold sh19
  try simp -implicitDefEqProofs only [push_cast, hty, heq, h0, Proofs.Try.f19, g19_81, g19_19, seval]
  try simp only [bindO_assoc]
  refine bindO_ext fun r1 => ?_
  try simp -implicitDefEqProofs only [push_cast, hty, heq, h0, Proofs.Try.f19, g19_81, g19_19, seval]
  try simp only [bindO_assoc]
  refine ite_ext (fun h1 => ?_) (fun h1 => ?_)
  · try simp -implicitDefEqProofs only [push_cast, hty, heq, h0, Proofs.Try.f19, g19_81, g19_19, seval, h1]
    try simp only [bindO_assoc]
    refine bindO_ext fun r2 => ?_
    try simp -implicitDefEqProofs only [push_cast, hty, heq, h0, Proofs.Try.f19, g19_81, g19_19, seval, h1]
    try simp only [bindO_assoc]
    refine ite_ext (fun h2 => ?_) (fun h2 => ?_)
    · try simp -implicitDefEqProofs only [push_cast, hty, heq, h0, Proofs.Try.f19, g19_81, g19_19, seval, h1, h2]
      try simp only [bindO_assoc]
      refine ite_ext (fun h3 => ?_) (fun h3 => ?_)
      · try simp -implicitDefEqProofs only [push_cast, hty, heq, h0, Proofs.Try.f19, g19_81, g19_19, seval, h1, h2, h3]
        try simp only [bindO_assoc]
        refine while_loop (S := Unit) (fun (s3 : Unit) => [.top, .top, .ptr 0 0, .ptr 1 0, .top, .int .i64 (-1), .int .i64 0, .top, .top, .top, .top, .top, .top, .top, .top, .top, .top, .top, .top, .top, .top, .top, .top, .top, .top, .top, .top, .top, .top, .top, .top, .top, .top, .top, .top, .top, .top, .top, .top, .top, .top, .top, .top, .top, .top, .top, .top, .top, .top, .top, .top, .top, .top, .top, .top, .top, .top, .top, .top, .top, .top, .top, .top, .top, .top, .top, .top, .top, .top, .top, .top, .top, .top, .top, .top, .top]) (fun (s3 : Unit) => [.var [.int .i64 a.op, .int .i64 a.sortf, .str a.name, .int .i64 a.num, .sl false 5 (List.map Node.cells a.kids)], .var [.int .i64 b.op, .int .i64 b.sortf, .str b.name, .int .i64 b.num, .sl false 5 (List.map Node.cells b.kids)]]) ?_ N ()
        intro s3
        simp -implicitDefEqProofs only [push_cast, hty, heq, h0, Proofs.Try.f19, g19_81, g19_19, seval, h1, h2, h3, F19_s1]
      · try simp -implicitDefEqProofs only [push_cast, hty, heq, h0, Proofs.Try.f19, g19_81, g19_19, seval, h1, h2, h3]
        try simp only [bindO_assoc]
        refine iten_ext (fun h4 => ?_) (fun h4 => ?_)
        · try simp -implicitDefEqProofs only [push_cast, hty, heq, h0, Proofs.Try.f19, g19_81, g19_19, seval, h1, h2, h3, h4]
          try simp only [bindO_assoc]
          refine bindO_ext fun r5 => ?_
          try simp -implicitDefEqProofs only [push_cast, hty, heq, h0, Proofs.Try.f19, g19_81, g19_19, seval, h1, h2, h3, h4]
          try simp only [bindO_assoc]
          refine ite_ext (fun h5 => ?_) (fun h5 => ?_)
          · try simp -implicitDefEqProofs only [push_cast, hty, heq, h0, Proofs.Try.f19, g19_81, g19_19, seval, h1, h2, h3, h4, h5]
            try simp only [bindO_assoc]
            refine bindO_ext fun r6 => ?_
            try simp -implicitDefEqProofs only [push_cast, hty, heq, h0, Proofs.Try.f19, g19_81, g19_19, seval, h1, h2, h3, h4, h5]
            try simp only [bindO_assoc]
            refine while_loop (S := Int × Int) (fun (s7 : Int × Int) => [.top, .top, .ptr 0 0, .ptr 1 0, .top, .int .i64 s7.1, .int .i64 s7.2, .top, .top, .top, .top, .top, .top, .top, .top, .top, .top, .top, .top, .top, .top, .top, .top, .top, .top, .top, .top, .top, .top, .top, .top, .top, .top, .top, .top, .top, .top, .top, .top, .top, .top, .top, .top, .top, .top, .top, .top, .top, .top, .top, .top, .top, .top, .top, .top, .top, .top, .top, .top, .top, .top, .top, .top, .top, .top, .top, .top, .top, .top, .top, .top, .top, .top, .top, .top, .top]) (fun (s7 : Int × Int) => [.var [.int .i64 a.op, .int .i64 a.sortf, .str a.name, .int .i64 a.num, .sl false 5 (List.map Node.cells a.kids)], .var [.int .i64 b.op, .int .i64 b.sortf, .str b.name, .int .i64 b.num, .sl false 5 (List.map Node.cells b.kids)]]) ?_ N (r6, 0)
            intro s7
            try simp -implicitDefEqProofs only [push_cast, hty, heq, h0, Proofs.Try.f19, g19_81, g19_19, seval, h1, h2, h3, h4, h5, F19_s3]
            try simp only [bindO_assoc]
            refine ite_ext (fun h6 => ?_) (fun h6 => ?_)
            · try simp -implicitDefEqProofs only [push_cast, hty, heq, h0, Proofs.Try.f19, g19_81, g19_19, seval, h1, h2, h3, h4, h5, F19_s3, h6]
              try simp only [bindO_assoc]
              refine ite_ext (fun h7 => ?_) (fun h7 => ?_)
              · try simp -implicitDefEqProofs only [push_cast, hty, heq, h0, Proofs.Try.f19, g19_81, g19_19, seval, h1, h2, h3, h4, h5, F19_s3, h6, h7]
                try simp only [bindO_assoc]
                refine at_sl (c := Node.cells) fun x8 h8 h9 h10 h11 => ?_
                try simp only [Int.reduceToNat, Int.toNat_natCast] at h10 h11
                try simp -implicitDefEqProofs only [push_cast, hty, heq, h0, Proofs.Try.f19, g19_81, g19_19, seval, h1, h2, h3, h4, h5, F19_s3, h6, h7, h8, h10, h11]
                try simp only [bindO_assoc]
                refine at_sl (c := Node.cells) fun x9 h12 h13 h14 h15 => ?_
                try simp only [Int.reduceToNat, Int.toNat_natCast] at h14 h15
                try simp -implicitDefEqProofs only [push_cast, hty, heq, h0, Proofs.Try.f19, g19_81, g19_19, seval, h1, h2, h3, h4, h5, F19_s3, h6, h7, h8, h10, h11, h12, h14, h15]
                try simp only [bindO_assoc]
                refine bindO_ext fun r10 => ?_
                simp -implicitDefEqProofs only [push_cast, hty, heq, h0, Proofs.Try.f19, g19_81, g19_19, seval, h1, h2, h3, h4, h5, F19_s3, h6, h7, h8, h10, h11, h12, h14, h15]
              · simp -implicitDefEqProofs only [push_cast, hty, heq, h0, Proofs.Try.f19, g19_81, g19_19, seval, h1, h2, h3, h4, h5, F19_s3, h6, h7]
            · simp -implicitDefEqProofs only [push_cast, hty, heq, h0, Proofs.Try.f19, g19_81, g19_19, seval, h1, h2, h3, h4, h5, F19_s3, h6]
          · try simp -implicitDefEqProofs only [push_cast, hty, heq, h0, Proofs.Try.f19, g19_81, g19_19, seval, h1, h2, h3, h4, h5]
            try simp only [bindO_assoc]
            refine while_loop (S := Unit) (fun (s11 : Unit) => [.top, .top, .ptr 0 0, .ptr 1 0, .top, .int .i64 r5, .int .i64 0, .top, .top, .top, .top, .top, .top, .top, .top, .top, .top, .top, .top, .top, .top, .top, .top, .top, .top, .top, .top, .top, .top, .top, .top, .top, .top, .top, .top, .top, .top, .top, .top, .top, .top, .top, .top, .top, .top, .top, .top, .top, .top, .top, .top, .top, .top, .top, .top, .top, .top, .top, .top, .top, .top, .top, .top, .top, .top, .top, .top, .top, .top, .top, .top, .top, .top, .top, .top, .top]) (fun (s11 : Unit) => [.var [.int .i64 a.op, .int .i64 a.sortf, .str a.name, .int .i64 a.num, .sl false 5 (List.map Node.cells a.kids)], .var [.int .i64 b.op, .int .i64 b.sortf, .str b.name, .int .i64 b.num, .sl false 5 (List.map Node.cells b.kids)]]) ?_ N ()
            intro s11
            simp -implicitDefEqProofs only [push_cast, hty, heq, h0, Proofs.Try.f19, g19_81, g19_19, seval, h1, h2, h3, h4, h5, F19_s4]
        · try simp -implicitDefEqProofs only [push_cast, hty, heq, h0, Proofs.Try.f19, g19_81, g19_19, seval, h1, h2, h3, h4]
          try simp only [bindO_assoc]
          refine while_loop (S := Unit) (fun (s4 : Unit) => [.top, .top, .ptr 0 0, .ptr 1 0, .top, .int .i64 1, .int .i64 0, .top, .top, .top, .top, .top, .top, .top, .top, .top, .top, .top, .top, .top, .top, .top, .top, .top, .top, .top, .top, .top, .top, .top, .top, .top, .top, .top, .top, .top, .top, .top, .top, .top, .top, .top, .top, .top, .top, .top, .top, .top, .top, .top, .top, .top, .top, .top, .top, .top, .top, .top, .top, .top, .top, .top, .top, .top, .top, .top, .top, .top, .top, .top, .top, .top, .top, .top, .top, .top]) (fun (s4 : Unit) => [.var [.int .i64 a.op, .int .i64 a.sortf, .str a.name, .int .i64 a.num, .sl false 5 (List.map Node.cells a.kids)], .var [.int .i64 b.op, .int .i64 b.sortf, .str b.name, .int .i64 b.num, .sl false 5 (List.map Node.cells b.kids)]]) ?_ N ()
          intro s4
          simp -implicitDefEqProofs only [push_cast, hty, heq, h0, Proofs.Try.f19, g19_81, g19_19, seval, h1, h2, h3, h4, F19_s2]
    · try simp -implicitDefEqProofs only [push_cast, hty, heq, h0, Proofs.Try.f19, g19_81, g19_19, seval, h1, h2]
      try simp only [bindO_assoc]
      refine while_loop (S := Unit) (fun (s12 : Unit) => [.top, .top, .ptr 0 0, .ptr 1 0, .top, .int .i64 r2, .int .i64 0, .top, .top, .top, .top, .top, .top, .top, .top, .top, .top, .top, .top, .top, .top, .top, .top, .top, .top, .top, .top, .top, .top, .top, .top, .top, .top, .top, .top, .top, .top, .top, .top, .top, .top, .top, .top, .top, .top, .top, .top, .top, .top, .top, .top, .top, .top, .top, .top, .top, .top, .top, .top, .top, .top, .top, .top, .top, .top, .top, .top, .top, .top, .top, .top, .top, .top, .top, .top, .top]) (fun (s12 : Unit) => [.var [.int .i64 a.op, .int .i64 a.sortf, .str a.name, .int .i64 a.num, .sl false 5 (List.map Node.cells a.kids)], .var [.int .i64 b.op, .int .i64 b.sortf, .str b.name, .int .i64 b.num, .sl false 5 (List.map Node.cells b.kids)]]) ?_ N ()
      intro s12
      simp -implicitDefEqProofs only [push_cast, hty, heq, h0, Proofs.Try.f19, g19_81, g19_19, seval, h1, h2, F19_s5]
  · try simp -implicitDefEqProofs only [push_cast, hty, heq, h0, Proofs.Try.f19, g19_81, g19_19, seval, h1]
    try simp only [bindO_assoc]
    refine while_loop (S := Unit) (fun (s13 : Unit) => [.top, .top, .ptr 0 0, .ptr 1 0, .top, .int .i64 r1, .int .i64 0, .top, .top, .top, .top, .top, .top, .top, .top, .top, .top, .top, .top, .top, .top, .top, .top, .top, .top, .top, .top, .top, .top, .top, .top, .top, .top, .top, .top, .top, .top, .top, .top, .top, .top, .top, .top, .top, .top, .top, .top, .top, .top, .top, .top, .top, .top, .top, .top, .top, .top, .top, .top, .top, .top, .top, .top, .top, .top, .top, .top, .top, .top, .top, .top, .top, .top, .top, .top, .top]) (fun (s13 : Unit) => [.var [.int .i64 a.op, .int .i64 a.sortf, .str a.name, .int .i64 a.num, .sl false 5 (List.map Node.cells a.kids)], .var [.int .i64 b.op, .int .i64 b.sortf, .str b.name, .int .i64 b.num, .sl false 5 (List.map Node.cells b.kids)]]) ?_ N ()
    intro s13
    simp -implicitDefEqProofs only [push_cast, hty, heq, h0, Proofs.Try.f19, g19_81, g19_19, seval, h1, F19_s6]
theorem ev89 {E : Env} {N : Nat} (hB : N ≤ 4611686018427387904) (hty : E.ty = tys) (heq : E.eqt = eqts) (h0 : E.n0 = 0) (g89_130 : ∀ vs σ, E.tab 130 vs σ = plain (t130) vs σ) (g89_63 : ∀ vs σ, E.tab 63 vs σ = plain (t63 N) vs σ) (g89_19 : ∀ vs σ, E.tab 19 vs σ = plain (t19 N) vs σ) (f : Lin) :
    bindO (aPure E Proofs.Try.f89 H89 N [.agg (Lin.cells f)]) (cv sh89) = bindO (F89 N f) fun r => some (v89 r) := by
  unfold F89
  rw [r_pure]
  unfold sh89
  try simp -implicitDefEqProofs only [push_cast, hty, heq, h0, Proofs.Try.f89, g89_130, g89_63, g89_19, seval]
  try simp only [bindO_assoc]
  refine fold_loop (S := Unit) f.linMonos (fun (i1 : Nat) (s3 : Unit) => [.top, .ptr 0 0, .top, .top, .top, .top, .sl false 6 (List.map Mono.cells f.linMonos), .int .i64 (f.linMonos.length : Int), .int .i64 (i1 : Int), .top, .top, .top, .top, .top, .top, .top, .top, .top, .top, .top, .top, .top, .top, .top, .top, .top, .top, .top, .top, .top, .top, .top, .top, .top, .top, .top, .top, .top, .top, .top, .top, .top, .top, .top, .top, .top, .top, .top, .top]) (fun (_ : Nat) (s3 : Unit) => [.var [.sl false 6 (List.map Mono.cells f.linMonos), .int .i64 f.linConst]]) () ?_ ?_
  · intro s3 i1 x2 h1 h2 h3
    have h4 := rng_wrap h3 hB
    have h5 := lt_true h2
    have h6 := inB_lt h2
    have h7 := rng_get (c := Mono.cells) h1
    have h8 := rng_getq (c := Mono.cells) h1
    try simp -implicitDefEqProofs only [push_cast, hty, heq, h0, Proofs.Try.f89, g89_130, g89_63, g89_19, seval, h4, h5, h6, h7, h8, F89_s1]
    try simp only [bindO_assoc]
    refine iten_ext (fun h9 => ?_) (fun h9 => ?_)
    · simp -implicitDefEqProofs only [push_cast, hty, heq, h0, Proofs.Try.f89, g89_130, g89_63, g89_19, seval, h4, h5, h6, h7, h8, F89_s1, h9]
    · try simp -implicitDefEqProofs only [push_cast, hty, heq, h0, Proofs.Try.f89, g89_130, g89_63, g89_19, seval, h4, h5, h6, h7, h8, F89_s1, h9]
      try simp only [bindO_assoc]
      refine bindO_ext fun r4 => ?_
      try simp -implicitDefEqProofs only [push_cast, hty, heq, h0, Proofs.Try.f89, g89_130, g89_63, g89_19, seval, h4, h5, h6, h7, h8, F89_s1, h9]
      try simp only [bindO_assoc]
      refine ite_ext (fun h10 => ?_) (fun h10 => ?_)
      · try simp -implicitDefEqProofs only [push_cast, hty, heq, h0, Proofs.Try.f89, g89_130, g89_63, g89_19, seval, h4, h5, h6, h7, h8, F89_s1, h9, h10]
        try simp only [bindO_assoc]
        refine bindO_ext fun r5 => ?_
        try simp -implicitDefEqProofs only [push_cast, hty, heq, h0, Proofs.Try.f89, g89_130, g89_63, g89_19, seval, h4, h5, h6, h7, h8, F89_s1, h9, h10]
        try simp only [bindO_assoc]
        refine ite_ext (fun h11 => ?_) (fun h11 => ?_)
        · try simp -implicitDefEqProofs only [push_cast, hty, heq, h0, Proofs.Try.f89, g89_130, g89_63, g89_19, seval, h4, h5, h6, h7, h8, F89_s1, h9, h10, h11]
          try simp only [bindO_assoc]
          refine ite_ext (fun h12 => ?_) (fun h12 => ?_)
          · try simp -implicitDefEqProofs only [push_cast, hty, heq, h0, Proofs.Try.f89, g89_130, g89_63, g89_19, seval, h4, h5, h6, h7, h8, F89_s1, h9, h10, h11, h12]
            try simp only [bindO_assoc]
            refine at_sl (c := Mono.cells) fun x6 h13 h14 h15 h16 => ?_
            try simp only [Int.reduceToNat, Int.toNat_natCast] at h15 h16
            try simp -implicitDefEqProofs only [push_cast, hty, heq, h0, Proofs.Try.f89, g89_130, g89_63, g89_19, seval, h4, h5, h6, h7, h8, F89_s1, h9, h10, h11, h12, h13, h15, h16]
            try simp only [bindO_assoc]
            refine bindO_ext fun r7 => ?_
            try simp -implicitDefEqProofs only [push_cast, hty, heq, h0, Proofs.Try.f89, g89_130, g89_63, g89_19, seval, h4, h5, h6, h7, h8, F89_s1, h9, h10, h11, h12, h13, h15, h16]
            try simp only [bindO_assoc]
            refine ite_ext (fun h17 => ?_) (fun h17 => ?_)
            · simp -implicitDefEqProofs only [push_cast, hty, heq, h0, Proofs.Try.f89, g89_130, g89_63, g89_19, seval, h4, h5, h6, h7, h8, F89_s1, h9, h10, h11, h12, h13, h15, h16, h17]
            · simp -implicitDefEqProofs only [push_cast, hty, heq, h0, Proofs.Try.f89, g89_130, g89_63, g89_19, seval, h4, h5, h6, h7, h8, F89_s1, h9, h10, h11, h12, h13, h15, h16, h17]
          · simp -implicitDefEqProofs only [push_cast, hty, heq, h0, Proofs.Try.f89, g89_130, g89_63, g89_19, seval, h4, h5, h6, h7, h8, F89_s1, h9, h10, h11, h12]
        · simp -implicitDefEqProofs only [push_cast, hty, heq, h0, Proofs.Try.f89, g89_130, g89_63, g89_19, seval, h4, h5, h6, h7, h8, F89_s1, h9, h10, h11]
      · simp -implicitDefEqProofs only [push_cast, hty, heq, h0, Proofs.Try.f89, g89_130, g89_63, g89_19, seval, h4, h5, h6, h7, h8, F89_s1, h9, h10]
  · intro s3
    have h18 := lt_self (n := f.linMonos.length)
    try simp -implicitDefEqProofs only [push_cast, hty, heq, h0, Proofs.Try.f89, g89_130, g89_63, g89_19, seval, h18, F89_f1]
    try simp only [bindO_assoc]
    refine bindO_ext fun r8 => ?_
    simp -implicitDefEqProofs only [push_cast, hty, heq, h0, Proofs.Try.f89, g89_130, g89_63, g89_19, seval, h18, F89_f1]
end Go.Abs.Try
