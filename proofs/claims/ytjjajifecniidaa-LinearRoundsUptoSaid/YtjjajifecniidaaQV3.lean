import Derived.Test.YtjjajifecniidaaQD
namespace Go.Abs.Try
open Go.RowKit
set_option linter.unusedSimpArgs false
set_option linter.unusedVariables false
set_option maxRecDepth 100000
set_option maxHeartbeats 4000000
attribute [local push_cast] ty2 ty3 ty9 ty22 ty24 ty138 ty140
theorem ev14 {E : Env} {N : Nat} (hB : N ≤ 4611686018427387904) (hty : E.ty = tys) (heq : E.eqt = eqts) (h0 : E.n0 = 0) (g14_70 : ∀ vs σ, E.tab 70 vs σ = plain (t70 N) vs σ) (g14_71 : ∀ vs σ, E.tab 71 vs σ = plain (t71 N) vs σ) (g14_40 : ∀ vs σ, E.tab 40 vs σ = plain (t40) vs σ) (g14_36 : ∀ vs σ, E.tab 36 vs σ = plain (t36 N) vs σ) (n : Node) (sortq : Int) :
    bindO (aPure E Proofs.Try.f14 H14 N [.agg (Node.cells n), .int .i64 sortq]) (cv sh14) = bindO (F14 N n sortq) fun r => some (v14 r) := by
  unfold F14
  rw [r_pure]
  unfold sh14
  try simp -implicitDefEqProofs only [push_cast, hty, heq, h0, Proofs.Try.f14, g14_70, g14_71, g14_40, g14_36, seval]
  try simp only [bindO_assoc]
  refine iten_ext (fun h1 => ?_) (fun h1 => ?_)
  · simp -implicitDefEqProofs only [push_cast, hty, heq, h0, Proofs.Try.f14, g14_70, g14_71, g14_40, g14_36, seval, h1]
  · try simp -implicitDefEqProofs only [push_cast, hty, heq, h0, Proofs.Try.f14, g14_70, g14_71, g14_40, g14_36, seval, h1]
    try simp only [bindO_assoc]
    refine ite_ext (fun h2 => ?_) (fun h2 => ?_)
    · simp -implicitDefEqProofs only [push_cast, hty, heq, h0, Proofs.Try.f14, g14_70, g14_71, g14_40, g14_36, seval, h1, h2]
    · try simp -implicitDefEqProofs only [push_cast, hty, heq, h0, Proofs.Try.f14, g14_70, g14_71, g14_40, g14_36, seval, h1, h2]
      try simp only [bindO_assoc]
      refine bindO_ext fun r1 => ?_
      try simp -implicitDefEqProofs only [push_cast, hty, heq, h0, Proofs.Try.f14, g14_70, g14_71, g14_40, g14_36, seval, h1, h2]
      try simp only [bindO_assoc]
      refine iten_ext (fun h3 => ?_) (fun h3 => ?_)
      · try simp -implicitDefEqProofs only [push_cast, hty, heq, h0, Proofs.Try.f14, g14_70, g14_71, g14_40, g14_36, seval, h1, h2, h3]
        try simp only [bindO_assoc]
        refine bindO_ext fun r2 => ?_
        try simp -implicitDefEqProofs only [push_cast, hty, heq, h0, Proofs.Try.f14, g14_70, g14_71, g14_40, g14_36, seval, h1, h2, h3]
        try simp only [bindO_assoc]
        refine ite_ext (fun h4 => ?_) (fun h4 => ?_)
        · try simp -implicitDefEqProofs only [push_cast, hty, heq, h0, Proofs.Try.f14, g14_70, g14_71, g14_40, g14_36, seval, h1, h2, h3, h4]
          try simp only [bindO_assoc]
          refine bindO_ext fun r3 => ?_
          try simp -implicitDefEqProofs only [push_cast, hty, heq, h0, Proofs.Try.f14, g14_70, g14_71, g14_40, g14_36, seval, h1, h2, h3, h4]
          try simp only [bindO_assoc]
          refine iten_ext (fun h5 => ?_) (fun h5 => ?_)
          · try simp -implicitDefEqProofs only [push_cast, hty, heq, h0, Proofs.Try.f14, g14_70, g14_71, g14_40, g14_36, seval, h1, h2, h3, h4, h5]
            try simp only [bindO_assoc]
            refine iten_ext (fun h6 => ?_) (fun h6 => ?_)
            · simp -implicitDefEqProofs only [push_cast, hty, heq, h0, Proofs.Try.f14, g14_70, g14_71, g14_40, g14_36, seval, h1, h2, h3, h4, h5, h6]
            · try simp -implicitDefEqProofs only [push_cast, hty, heq, h0, Proofs.Try.f14, g14_70, g14_71, g14_40, g14_36, seval, h1, h2, h3, h4, h5, h6]
              try simp only [bindO_assoc]
              refine bindO_ext fun r4 => ?_
              try simp -implicitDefEqProofs only [push_cast, hty, heq, h0, Proofs.Try.f14, g14_70, g14_71, g14_40, g14_36, seval, h1, h2, h3, h4, h5, h6]
              try simp only [bindO_assoc]
              refine iten_ext (fun h7 => ?_) (fun h7 => ?_)
              · simp -implicitDefEqProofs only [push_cast, hty, heq, h0, Proofs.Try.f14, g14_70, g14_71, g14_40, g14_36, seval, h1, h2, h3, h4, h5, h6, h7]
              · simp -implicitDefEqProofs only [push_cast, hty, heq, h0, Proofs.Try.f14, g14_70, g14_71, g14_40, g14_36, seval, h1, h2, h3, h4, h5, h6, h7]
          · simp -implicitDefEqProofs only [push_cast, hty, heq, h0, Proofs.Try.f14, g14_70, g14_71, g14_40, g14_36, seval, h1, h2, h3, h4, h5]
        · simp -implicitDefEqProofs only [push_cast, hty, heq, h0, Proofs.Try.f14, g14_70, g14_71, g14_40, g14_36, seval, h1, h2, h3, h4]
      · simp -implicitDefEqProofs only [push_cast, hty, heq, h0, Proofs.Try.f14, g14_70, g14_71, g14_40, g14_36, seval, h1, h2, h3]
theorem ev112 {E : Env} {N : Nat} (hB : N ≤ 4611686018427387904) (hty : E.ty = tys) (heq : E.eqt = eqts) (h0 : E.n0 = 0)  (x : Int) :
    bindO (aPure E Proofs.Try.f112 H112 N [.int .i64 x]) (cv sh112) = bindO (F112 x) fun r => some (v112 r) := by
  unfold F112
  rw [r_pure]
  unfold sh112
  try simp -implicitDefEqProofs only [push_cast, hty, heq, h0, Proofs.Try.f112, seval]
  try simp only [bindO_assoc]
  refine ite_ext (fun h1 => ?_) (fun h1 => ?_)
  · simp -implicitDefEqProofs only [push_cast, hty, heq, h0, Proofs.Try.f112, seval, h1]
  · simp -implicitDefEqProofs only [push_cast, hty, heq, h0, Proofs.Try.f112, seval, h1]
theorem ev161 {E : Env} {N : Nat} (hB : N ≤ 4611686018427387904) (hty : E.ty = tys) (heq : E.eqt = eqts) (h0 : E.n0 = 0)  (x : Int) (y : Int) :
    bindO (aPure E Proofs.Try.f161 H161 N [.int .u64 x, .int .u64 y]) (cv sh161) = bindO (F161 x y) fun r => some (v161 r) := by
  unfold F161
  rw [r_pure]
  unfold sh161
  simp -implicitDefEqProofs only [push_cast, hty, heq, h0, Proofs.Try.f161, seval]
theorem ev128 {E : Env} {N : Nat} (hB : N ≤ 4611686018427387904) (hty : E.ty = tys) (heq : E.eqt = eqts) (h0 : E.n0 = 0) (g128_161 : ∀ vs σ, E.tab 161 vs σ = plain (t161) vs σ) (g128_162 : ∀ vs σ, E.tab 162 vs σ = plain (t162) vs σ) (s : LinearSum) (a : Int) (b : Int) :
    bindO (aPure E Proofs.Try.f128 H128 N [.agg (LinearSum.cells s), .int .i64 a, .int .i64 b]) (cv sh128) = bindO (F128 s a b) fun r => some (v128 r) := by
  unfold F128
  rw [r_pure]
  unfold sh128
  try simp -implicitDefEqProofs only [push_cast, hty, heq, h0, Proofs.Try.f128, g128_161, g128_162, seval]
  try simp only [bindO_assoc]
  refine bindO_ext fun r1 => ?_
  try simp -implicitDefEqProofs only [push_cast, hty, heq, h0, Proofs.Try.f128, g128_161, g128_162, seval]
  try simp only [bindO_assoc]
  refine ite_ext (fun h1 => ?_) (fun h1 => ?_)
  · try simp -implicitDefEqProofs only [push_cast, hty, heq, h0, Proofs.Try.f128, g128_161, g128_162, seval, h1]
    try simp only [bindO_assoc]
    refine ite_ext (fun h2 => ?_) (fun h2 => ?_)
    · try simp -implicitDefEqProofs only [push_cast, hty, heq, h0, Proofs.Try.f128, g128_161, g128_162, seval, h1, h2]
      try simp only [bindO_assoc]
      refine bindO_ext fun r2 => ?_
      try simp -implicitDefEqProofs only [push_cast, hty, heq, h0, Proofs.Try.f128, g128_161, g128_162, seval, h1, h2]
      try simp only [bindO_assoc]
      refine bindO_ext fun r3 => ?_
      simp -implicitDefEqProofs only [push_cast, hty, heq, h0, Proofs.Try.f128, g128_161, g128_162, seval, h1, h2]
    · try simp -implicitDefEqProofs only [push_cast, hty, heq, h0, Proofs.Try.f128, g128_161, g128_162, seval, h1, h2]
      try simp only [bindO_assoc]
      refine bindO_ext fun r4 => ?_
      try simp -implicitDefEqProofs only [push_cast, hty, heq, h0, Proofs.Try.f128, g128_161, g128_162, seval, h1, h2]
      try simp only [bindO_assoc]
      refine bindO_ext fun r5 => ?_
      simp -implicitDefEqProofs only [push_cast, hty, heq, h0, Proofs.Try.f128, g128_161, g128_162, seval, h1, h2]
  · try simp -implicitDefEqProofs only [push_cast, hty, heq, h0, Proofs.Try.f128, g128_161, g128_162, seval, h1]
    try simp only [bindO_assoc]
    refine ite_ext (fun h3 => ?_) (fun h3 => ?_)
    · try simp -implicitDefEqProofs only [push_cast, hty, heq, h0, Proofs.Try.f128, g128_161, g128_162, seval, h1, h3]
      try simp only [bindO_assoc]
      refine bindO_ext fun r6 => ?_
      try simp -implicitDefEqProofs only [push_cast, hty, heq, h0, Proofs.Try.f128, g128_161, g128_162, seval, h1, h3]
      try simp only [bindO_assoc]
      refine bindO_ext fun r7 => ?_
      simp -implicitDefEqProofs only [push_cast, hty, heq, h0, Proofs.Try.f128, g128_161, g128_162, seval, h1, h3]
    · try simp -implicitDefEqProofs only [push_cast, hty, heq, h0, Proofs.Try.f128, g128_161, g128_162, seval, h1, h3]
      try simp only [bindO_assoc]
      refine bindO_ext fun r8 => ?_
      try simp -implicitDefEqProofs only [push_cast, hty, heq, h0, Proofs.Try.f128, g128_161, g128_162, seval, h1, h3]
      try simp only [bindO_assoc]
      refine bindO_ext fun r9 => ?_
      simp -implicitDefEqProofs only [push_cast, hty, heq, h0, Proofs.Try.f128, g128_161, g128_162, seval, h1, h3]
theorem ev129 {E : Env} {N : Nat} (hB : N ≤ 4611686018427387904) (hty : E.ty = tys) (heq : E.eqt = eqts) (h0 : E.n0 = 0) (g129_112 : ∀ vs σ, E.tab 112 vs σ = plain (t112) vs σ) (s : LinearSum) :
    bindO (aPure E Proofs.Try.f129 H129 N [.agg (LinearSum.cells s)]) (cv sh129) = bindO (F129 s) fun r => some (v129 r) := by
  unfold F129
  rw [r_pure]
  unfold sh129
  try simp -implicitDefEqProofs only [push_cast, hty, heq, h0, Proofs.Try.f129, g129_112, seval]
  try simp only [bindO_assoc]
  refine ite_ext (fun h1 => ?_) (fun h1 => ?_)
  · try simp -implicitDefEqProofs only [push_cast, hty, heq, h0, Proofs.Try.f129, g129_112, seval, h1]
    try simp only [bindO_assoc]
    refine ite_ext (fun h2 => ?_) (fun h2 => ?_)
    · try simp -implicitDefEqProofs only [push_cast, hty, heq, h0, Proofs.Try.f129, g129_112, seval, h1, h2]
      try simp only [bindO_assoc]
      refine ite_ext (fun h3 => ?_) (fun h3 => ?_)
      · try simp -implicitDefEqProofs only [push_cast, hty, heq, h0, Proofs.Try.f129, g129_112, seval, h1, h2, h3]
        try simp only [bindO_assoc]
        refine iten_ext (fun h4 => ?_) (fun h4 => ?_)
        · try simp -implicitDefEqProofs only [push_cast, hty, heq, h0, Proofs.Try.f129, g129_112, seval, h1, h2, h3, h4]
          try simp only [bindO_assoc]
          refine bindO_ext fun r1 => ?_
          simp -implicitDefEqProofs only [push_cast, hty, heq, h0, Proofs.Try.f129, g129_112, seval, h1, h2, h3, h4]
        · simp -implicitDefEqProofs only [push_cast, hty, heq, h0, Proofs.Try.f129, g129_112, seval, h1, h2, h3, h4]
      · try simp -implicitDefEqProofs only [push_cast, hty, heq, h0, Proofs.Try.f129, g129_112, seval, h1, h2, h3]
        try simp only [bindO_assoc]
        refine bindO_ext fun r2 => ?_
        simp -implicitDefEqProofs only [push_cast, hty, heq, h0, Proofs.Try.f129, g129_112, seval, h1, h2, h3]
    · simp -implicitDefEqProofs only [push_cast, hty, heq, h0, Proofs.Try.f129, g129_112, seval, h1, h2]
  · try simp -implicitDefEqProofs only [push_cast, hty, heq, h0, Proofs.Try.f129, g129_112, seval, h1]
    try simp only [bindO_assoc]
    refine ite_ext (fun h5 => ?_) (fun h5 => ?_)
    · try simp -implicitDefEqProofs only [push_cast, hty, heq, h0, Proofs.Try.f129, g129_112, seval, h1, h5]
      try simp only [bindO_assoc]
      refine iten_ext (fun h6 => ?_) (fun h6 => ?_)
      · try simp -implicitDefEqProofs only [push_cast, hty, heq, h0, Proofs.Try.f129, g129_112, seval, h1, h5, h6]
        try simp only [bindO_assoc]
        refine bindO_ext fun r3 => ?_
        simp -implicitDefEqProofs only [push_cast, hty, heq, h0, Proofs.Try.f129, g129_112, seval, h1, h5, h6]
      · simp -implicitDefEqProofs only [push_cast, hty, heq, h0, Proofs.Try.f129, g129_112, seval, h1, h5, h6]
    · try simp -implicitDefEqProofs only [push_cast, hty, heq, h0, Proofs.Try.f129, g129_112, seval, h1, h5]
      try simp only [bindO_assoc]
      refine bindO_ext fun r4 => ?_
      simp -implicitDefEqProofs only [push_cast, hty, heq, h0, Proofs.Try.f129, g129_112, seval, h1, h5]
theorem ev78 {E : Env} {N : Nat} (hB : N ≤ 4611686018427387904) (hty : E.ty = tys) (heq : E.eqt = eqts) (h0 : E.n0 = 0)  (a : Int) (b : Int) :
    bindO (aPure E Proofs.Try.f78 H78 N [.int .i64 a, .int .i64 b]) (cv sh78) = bindO (F78 a b) fun r => some (v78 r) := by
  unfold F78
  rw [r_pure]
  unfold sh78
  try simp -implicitDefEqProofs only [push_cast, hty, heq, h0, Proofs.Try.f78, seval]
  try simp only [bindO_assoc]
  refine ite_ext (fun h1 => ?_) (fun h1 => ?_)
  · simp -implicitDefEqProofs only [push_cast, hty, heq, h0, Proofs.Try.f78, seval, h1]
  · try simp -implicitDefEqProofs only [push_cast, hty, heq, h0, Proofs.Try.f78, seval, h1]
    try simp only [bindO_assoc]
    refine ite_ext (fun h2 => ?_) (fun h2 => ?_)
    · simp -implicitDefEqProofs only [push_cast, hty, heq, h0, Proofs.Try.f78, seval, h1, h2]
    · simp -implicitDefEqProofs only [push_cast, hty, heq, h0, Proofs.Try.f78, seval, h1, h2]
theorem ev80 {E : Env} {N : Nat} (hB : N ≤ 4611686018427387904) (hty : E.ty = tys) (heq : E.eqt = eqts) (h0 : E.n0 = 0)  (a : Int) (b : Int) :
    bindO (aPure E Proofs.Try.f80 H80 N [.int .i64 a, .int .i64 b]) (cv sh80) = bindO (F80 a b) fun r => some (v80 r) := by
  unfold F80
  rw [r_pure]
  unfold sh80
  try simp -implicitDefEqProofs only [push_cast, hty, heq, h0, Proofs.Try.f80, seval]
  try simp only [bindO_assoc]
  refine ite_ext (fun h1 => ?_) (fun h1 => ?_)
  · simp -implicitDefEqProofs only [push_cast, hty, heq, h0, Proofs.Try.f80, seval, h1]
  · try simp -implicitDefEqProofs only [push_cast, hty, heq, h0, Proofs.Try.f80, seval, h1]
    try simp only [bindO_assoc]
    refine ite_ext (fun h2 => ?_) (fun h2 => ?_)
    · simp -implicitDefEqProofs only [push_cast, hty, heq, h0, Proofs.Try.f80, seval, h1, h2]
    · simp -implicitDefEqProofs only [push_cast, hty, heq, h0, Proofs.Try.f80, seval, h1, h2]
theorem ev18 {E : Env} {N : Nat} (hB : N ≤ 4611686018427387904) (self18 : Node → Node → Option (Int)) (hty : E.ty = tys) (heq : E.eqt = eqts) (h0 : E.n0 = 0) (g18_78 : ∀ vs σ, E.tab 78 vs σ = plain (t78) vs σ) (g18_79 : ∀ vs σ, E.tab 79 vs σ = plain (t79) vs σ) (g18_80 : ∀ vs σ, E.tab 80 vs σ = plain (t80) vs σ) (g18_18 : ∀ vs σ, E.tab 18 vs σ = plain (ts18 self18) vs σ) (a : Node) (b : Node) :
    bindO (aPure E Proofs.Try.f18 H18 N [.agg (Node.cells a), .agg (Node.cells b)]) (cv sh18) = bindO (F18b self18 N a b) fun r => some (v18 r) := by
  unfold F18b
  rw [r_pure]
  unfold sh18
  try simp -implicitDefEqProofs only [push_cast, hty, heq, h0, Proofs.Try.f18, g18_78, g18_79, g18_80, g18_18, seval]
  try simp only [bindO_assoc]
  refine bindO_ext fun r1 => ?_
  try simp -implicitDefEqProofs only [push_cast, hty, heq, h0, Proofs.Try.f18, g18_78, g18_79, g18_80, g18_18, seval]
  try simp only [bindO_assoc]
  refine iten_ext (fun h1 => ?_) (fun h1 => ?_)
  · try simp -implicitDefEqProofs only [push_cast, hty, heq, h0, Proofs.Try.f18, g18_78, g18_79, g18_80, g18_18, seval, h1]
    try simp only [bindO_assoc]
    refine bindO_ext fun r2 => ?_
    try simp -implicitDefEqProofs only [push_cast, hty, heq, h0, Proofs.Try.f18, g18_78, g18_79, g18_80, g18_18, seval, h1]
    try simp only [bindO_assoc]
    refine iten_ext (fun h2 => ?_) (fun h2 => ?_)
    · try simp -implicitDefEqProofs only [push_cast, hty, heq, h0, Proofs.Try.f18, g18_78, g18_79, g18_80, g18_18, seval, h1, h2]
      try simp only [bindO_assoc]
      refine bindO_ext fun r3 => ?_
      try simp -implicitDefEqProofs only [push_cast, hty, heq, h0, Proofs.Try.f18, g18_78, g18_79, g18_80, g18_18, seval, h1, h2]
      try simp only [bindO_assoc]
      refine iten_ext (fun h3 => ?_) (fun h3 => ?_)
      · try simp -implicitDefEqProofs only [push_cast, hty, heq, h0, Proofs.Try.f18, g18_78, g18_79, g18_80, g18_18, seval, h1, h2, h3]
        try simp only [bindO_assoc]
        refine bindO_ext fun r4 => ?_
        try simp -implicitDefEqProofs only [push_cast, hty, heq, h0, Proofs.Try.f18, g18_78, g18_79, g18_80, g18_18, seval, h1, h2, h3]
        try simp only [bindO_assoc]
        refine iten_ext (fun h4 => ?_) (fun h4 => ?_)
        · try simp -implicitDefEqProofs only [push_cast, hty, heq, h0, Proofs.Try.f18, g18_78, g18_79, g18_80, g18_18, seval, h1, h2, h3, h4]
          try simp only [bindO_assoc]
          refine bindO_ext fun r5 => ?_
          try simp -implicitDefEqProofs only [push_cast, hty, heq, h0, Proofs.Try.f18, g18_78, g18_79, g18_80, g18_18, seval, h1, h2, h3, h4]
          try simp only [bindO_assoc]
          refine iten_ext (fun h5 => ?_) (fun h5 => ?_)
          · try simp -implicitDefEqProofs only [push_cast, hty, heq, h0, Proofs.Try.f18, g18_78, g18_79, g18_80, g18_18, seval, h1, h2, h3, h4, h5]
            try simp only [bindO_assoc]
            refine fold_loop (S := Unit) a.kids (fun (i6 : Nat) (s8 : Unit) => [.top, .top, .ptr 0 0, .ptr 1 0, .top, .top, .top, .top, .top, .top, .top, .top, .top, .top, .top, .top, .top, .top, .top, .top, .top, .top, .top, .top, .top, .top, .top, .top, .top, .top, .top, .top, .top, .top, .top, .top, .top, .top, .top, .top, .top, .top, .top, .top, .top, .top, .top, .top, .top, .top, .top, .top, .top, .top, .top, .top, .int .i64 (a.kids.length : Int), .int .i64 (i6 : Int), .top, .top, .top, .top, .top, .top, .top, .top, .top, .top, .top, .top, .top, .top, .top, .top, .top]) (fun (_ : Nat) (s8 : Unit) => [.var [.int .i64 a.op, .int .i64 a.sortf, .str a.name, .int .i64 a.num, .sl false 5 (List.map Node.cells a.kids)], .var [.int .i64 b.op, .int .i64 b.sortf, .str b.name, .int .i64 b.num, .sl false 5 (List.map Node.cells b.kids)]]) () ?_ ?_
            · intro s8 i6 x7 h6 h7 h8
              have h9 := rng_wrap h8 hB
              have h10 := lt_true h7
              have h11 := inB_lt h7
              have h12 := rng_get (c := Node.cells) h6
              have h13 := rng_getq (c := Node.cells) h6
              try simp -implicitDefEqProofs only [push_cast, hty, heq, h0, Proofs.Try.f18, g18_78, g18_79, g18_80, g18_18, seval, h1, h2, h3, h4, h5, h9, h10, h11, h12, h13, F18_s1]
              try simp only [bindO_assoc]
              refine at_sl (c := Node.cells) fun x9 h14 h15 h16 h17 => ?_
              try simp only [Int.reduceToNat, Int.toNat_natCast] at h16 h17
              try simp -implicitDefEqProofs only [push_cast, hty, heq, h0, Proofs.Try.f18, g18_78, g18_79, g18_80, g18_18, seval, h1, h2, h3, h4, h5, h9, h10, h11, h12, h13, F18_s1, h14, h16, h17]
              try simp only [bindO_assoc]
              refine bindO_ext fun r10 => ?_
              try simp -implicitDefEqProofs only [push_cast, hty, heq, h0, Proofs.Try.f18, g18_78, g18_79, g18_80, g18_18, seval, h1, h2, h3, h4, h5, h9, h10, h11, h12, h13, F18_s1, h14, h16, h17]
              try simp only [bindO_assoc]
              refine iten_ext (fun h18 => ?_) (fun h18 => ?_)
              · simp -implicitDefEqProofs only [push_cast, hty, heq, h0, Proofs.Try.f18, g18_78, g18_79, g18_80, g18_18, seval, h1, h2, h3, h4, h5, h9, h10, h11, h12, h13, F18_s1, h14, h16, h17, h18]
              · simp -implicitDefEqProofs only [push_cast, hty, heq, h0, Proofs.Try.f18, g18_78, g18_79, g18_80, g18_18, seval, h1, h2, h3, h4, h5, h9, h10, h11, h12, h13, F18_s1, h14, h16, h17, h18]
            · intro s8
              have h19 := lt_self (n := a.kids.length)
              simp -implicitDefEqProofs only [push_cast, hty, heq, h0, Proofs.Try.f18, g18_78, g18_79, g18_80, g18_18, seval, h1, h2, h3, h4, h5, h19, F18_f1]
          · simp -implicitDefEqProofs only [push_cast, hty, heq, h0, Proofs.Try.f18, g18_78, g18_79, g18_80, g18_18, seval, h1, h2, h3, h4, h5]
        · simp -implicitDefEqProofs only [push_cast, hty, heq, h0, Proofs.Try.f18, g18_78, g18_79, g18_80, g18_18, seval, h1, h2, h3, h4]
      · simp -implicitDefEqProofs only [push_cast, hty, heq, h0, Proofs.Try.f18, g18_78, g18_79, g18_80, g18_18, seval, h1, h2, h3]
    · simp -implicitDefEqProofs only [push_cast, hty, heq, h0, Proofs.Try.f18, g18_78, g18_79, g18_80, g18_18, seval, h1, h2]
  · simp -implicitDefEqProofs only [push_cast, hty, heq, h0, Proofs.Try.f18, g18_78, g18_79, g18_80, g18_18, seval, h1]
end Go.Abs.Try
