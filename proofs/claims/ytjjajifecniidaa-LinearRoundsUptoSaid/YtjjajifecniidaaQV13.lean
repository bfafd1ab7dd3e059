import Derived.Test.YtjjajifecniidaaQD
namespace Go.Abs.Try
open Go.RowKit
set_option linter.unusedSimpArgs false
set_option linter.unusedVariables false
set_option maxRecDepth 100000
set_option maxHeartbeats 4000000
attribute [local push_cast] ty2 ty3 ty4 ty24 ty41 ty43 ty52 ty71 ty92
theorem ev57 {E : Env} {N : Nat} (hB : N ≤ 4611686018427387904) (hty : E.ty = tys) (heq : E.eqt = eqts) (h0 : E.n0 = 0) (g57_109 : ∀ vs σ, E.tab 109 vs σ = plain (t109 N) vs σ) (g57_110 : ∀ vs σ, E.tab 110 vs σ = plain (t110 N) vs σ) (c : Con) :
    bindO (aPure E Proofs.Try.f57 H57 N [.agg (Con.cells c)]) (cv sh57) = bindO (F57 N c) fun r => some (v57 r) := by
  unfold F57
  rw [r_pure]
  unfold sh57
  try simp -implicitDefEqProofs only [push_cast, hty, heq, h0, Proofs.Try.f57, g57_109, g57_110, seval]
  try simp only [bindO_assoc]
  refine bindO_ext fun r1 => ?_
  try simp -implicitDefEqProofs only [push_cast, hty, heq, h0, Proofs.Try.f57, g57_109, g57_110, seval]
  try simp only [bindO_assoc]
  refine iten_ext (fun h1 => ?_) (fun h1 => ?_)
  · try simp -implicitDefEqProofs only [push_cast, hty, heq, h0, Proofs.Try.f57, g57_109, g57_110, seval, h1]
    try simp only [bindO_assoc]
    refine bindO_ext fun r2 => ?_
    simp -implicitDefEqProofs only [push_cast, hty, heq, h0, Proofs.Try.f57, g57_109, g57_110, seval, h1]
  · simp -implicitDefEqProofs only [push_cast, hty, heq, h0, Proofs.Try.f57, g57_109, g57_110, seval, h1]
theorem ev21 {E : Env} {N : Nat} (hB : N ≤ 4611686018427387904) (hty : E.ty = tys) (heq : E.eqt = eqts) (h0 : E.n0 = 0) (g21_19 : ∀ vs σ, E.tab 19 vs σ = plain (t19 N) vs σ) (a : Node) (b : Node) :
    bindO (aPure E Proofs.Try.f21 H21 N [.agg (Node.cells a), .agg (Node.cells b)]) (cv sh21) = bindO (F21 N a b) fun r => some (v21 r) := by
  unfold F21
  rw [r_pure]
  unfold sh21
  try simp -implicitDefEqProofs only [push_cast, hty, heq, h0, Proofs.Try.f21, g21_19, seval]
  try simp only [bindO_assoc]
  refine bindO_ext fun r1 => ?_
  simp -implicitDefEqProofs only [push_cast, hty, heq, h0, Proofs.Try.f21, g21_19, seval]
theorem ev35 {E : Env} {N : Nat} (hB : N ≤ 4611686018427387904) (hty : E.ty = tys) (heq : E.eqt = eqts) (h0 : E.n0 = 0) (g35_21 : ∀ vs σ, E.tab 21 vs σ = plain (t21 N) vs σ) (a : Lin) (b : Lin) :
    bindO (aPure E Proofs.Try.f35 H35 N [.agg (Lin.cells a), .agg (Lin.cells b)]) (cv sh35) = bindO (F35 N a b) fun r => some (v35 r) := by
  unfold F35
  rw [r_pure]
  unfold sh35
  try simp -implicitDefEqProofs only [push_cast, hty, heq, h0, Proofs.Try.f35, g35_21, seval]
  try simp only [bindO_assoc]
  refine ite_ext (fun h1 => ?_) (fun h1 => ?_)
  · try simp -implicitDefEqProofs only [push_cast, hty, heq, h0, Proofs.Try.f35, g35_21, seval, h1]
    try simp only [bindO_assoc]
    refine iten_ext (fun h2 => ?_) (fun h2 => ?_)
    · try simp -implicitDefEqProofs only [push_cast, hty, heq, h0, Proofs.Try.f35, g35_21, seval, h1, h2]
      try simp only [bindO_assoc]
      refine fold_loop (S := Unit) a.linMonos (fun (i1 : Nat) (s3 : Unit) => [.top, .top, .ptr 0 0, .ptr 1 0, .top, .top, .top, .top, .top, .top, .top, .top, .top, .top, .top, .top, .top, .top, .top, .top, .top, .top, .int .i64 (a.linMonos.length : Int), .int .i64 (i1 : Int), .top, .top, .top, .top, .top, .top, .top, .top, .top, .top, .top, .top, .top, .top, .top, .top, .top, .top, .top, .top, .top, .top, .top, .top, .top, .top, .top, .top, .top, .top, .top, .top]) (fun (_ : Nat) (s3 : Unit) => [.var [.sl false 6 (List.map Mono.cells a.linMonos), .int .i64 a.linConst], .var [.sl false 6 (List.map Mono.cells b.linMonos), .int .i64 b.linConst]]) () ?_ ?_
      · intro s3 i1 x2 h3 h4 h5
        have h6 := rng_wrap h5 hB
        have h7 := lt_true h4
        have h8 := inB_lt h4
        have h9 := rng_get (c := Mono.cells) h3
        have h10 := rng_getq (c := Mono.cells) h3
        try simp -implicitDefEqProofs only [push_cast, hty, heq, h0, Proofs.Try.f35, g35_21, seval, h1, h2, h6, h7, h8, h9, h10, F35_s1]
        try simp only [bindO_assoc]
        refine at_sl (c := Mono.cells) fun x4 h11 h12 h13 h14 => ?_
        try simp only [Int.reduceToNat, Int.toNat_natCast] at h13 h14
        try simp -implicitDefEqProofs only [push_cast, hty, heq, h0, Proofs.Try.f35, g35_21, seval, h1, h2, h6, h7, h8, h9, h10, F35_s1, h11, h13, h14]
        try simp only [bindO_assoc]
        refine ite_ext (fun h15 => ?_) (fun h15 => ?_)
        · try simp -implicitDefEqProofs only [push_cast, hty, heq, h0, Proofs.Try.f35, g35_21, seval, h1, h2, h6, h7, h8, h9, h10, F35_s1, h11, h13, h14, h15]
          try simp only [bindO_assoc]
          refine bindO_ext fun r5 => ?_
          try simp -implicitDefEqProofs only [push_cast, hty, heq, h0, Proofs.Try.f35, g35_21, seval, h1, h2, h6, h7, h8, h9, h10, F35_s1, h11, h13, h14, h15]
          try simp only [bindO_assoc]
          refine iten_ext (fun h16 => ?_) (fun h16 => ?_)
          · simp -implicitDefEqProofs only [push_cast, hty, heq, h0, Proofs.Try.f35, g35_21, seval, h1, h2, h6, h7, h8, h9, h10, F35_s1, h11, h13, h14, h15, h16]
          · simp -implicitDefEqProofs only [push_cast, hty, heq, h0, Proofs.Try.f35, g35_21, seval, h1, h2, h6, h7, h8, h9, h10, F35_s1, h11, h13, h14, h15, h16]
        · simp -implicitDefEqProofs only [push_cast, hty, heq, h0, Proofs.Try.f35, g35_21, seval, h1, h2, h6, h7, h8, h9, h10, F35_s1, h11, h13, h14, h15]
      · intro s3
        have h17 := lt_self (n := a.linMonos.length)
        simp -implicitDefEqProofs only [push_cast, hty, heq, h0, Proofs.Try.f35, g35_21, seval, h1, h2, h17, F35_f1]
    · simp -implicitDefEqProofs only [push_cast, hty, heq, h0, Proofs.Try.f35, g35_21, seval, h1, h2]
  · simp -implicitDefEqProofs only [push_cast, hty, heq, h0, Proofs.Try.f35, g35_21, seval, h1]
theorem ev58 {E : Env} {N : Nat} (hB : N ≤ 4611686018427387904) (hty : E.ty = tys) (heq : E.eqt = eqts) (h0 : E.n0 = 0) (g58_35 : ∀ vs σ, E.tab 35 vs σ = plain (t35 N) vs σ) (a : Con) (b : Con) :
    bindO (aPure E Proofs.Try.f58 H58 N [.agg (Con.cells a), .agg (Con.cells b)]) (cv sh58) = bindO (F58 N a b) fun r => some (v58 r) := by
  unfold F58
  rw [r_pure]
  unfold sh58
  try simp -implicitDefEqProofs only [push_cast, hty, heq, h0, Proofs.Try.f58, g58_35, seval]
  try simp only [bindO_assoc]
  refine ite_ext (fun h1 => ?_) (fun h1 => ?_)
  · try simp -implicitDefEqProofs only [push_cast, hty, heq, h0, Proofs.Try.f58, g58_35, seval, h1]
    try simp only [bindO_assoc]
    refine bindO_ext fun r1 => ?_
    simp -implicitDefEqProofs only [push_cast, hty, heq, h0, Proofs.Try.f58, g58_35, seval, h1]
  · simp -implicitDefEqProofs only [push_cast, hty, heq, h0, Proofs.Try.f58, g58_35, seval, h1]
theorem ev59 {E : Env} {N : Nat} (hB : N ≤ 4611686018427387904) (hty : E.ty = tys) (heq : E.eqt = eqts) (h0 : E.n0 = 0) (g59_107 : ∀ vs σ, E.tab 107 vs σ = plain (t107 N) vs σ) (c : Con) :
    bindO (aPure E Proofs.Try.f59 H59 N [.agg (Con.cells c)]) (cv sh59) = bindO (F59 N c) fun r => some (v59 r) := by
  unfold F59
  rw [r_pure]
  unfold sh59
  try simp -implicitDefEqProofs only [push_cast, hty, heq, h0, Proofs.Try.f59, g59_107, seval]
  try simp only [bindO_assoc]
  refine bindO_ext fun r1 => ?_
  try simp -implicitDefEqProofs only [push_cast, hty, heq, h0, Proofs.Try.f59, g59_107, seval]
  try simp only [bindO_assoc]
  refine ite_ext (fun h1 => ?_) (fun h1 => ?_)
  · try simp -implicitDefEqProofs only [push_cast, hty, heq, h0, Proofs.Try.f59, g59_107, seval, h1]
    try simp only [bindO_assoc]
    refine ite_ext (fun h2 => ?_) (fun h2 => ?_)
    · simp -implicitDefEqProofs only [push_cast, hty, heq, h0, Proofs.Try.f59, g59_107, seval, h1, h2]
    · try simp -implicitDefEqProofs only [push_cast, hty, heq, h0, Proofs.Try.f59, g59_107, seval, h1, h2]
      try simp only [bindO_assoc]
      refine ite_ext (fun h3 => ?_) (fun h3 => ?_)
      · try simp -implicitDefEqProofs only [push_cast, hty, heq, h0, Proofs.Try.f59, g59_107, seval, h1, h2, h3]
        try simp only [bindO_assoc]
        refine ite_ext (fun h4 => ?_) (fun h4 => ?_)
        · try simp -implicitDefEqProofs only [push_cast, hty, heq, h0, Proofs.Try.f59, g59_107, seval, h1, h2, h3, h4]
          try simp only [bindO_assoc]
          refine ite_ext (fun h5 => ?_) (fun h5 => ?_)
          · simp -implicitDefEqProofs only [push_cast, hty, heq, h0, Proofs.Try.f59, g59_107, seval, h1, h2, h3, h4, h5]
          · simp -implicitDefEqProofs only [push_cast, hty, heq, h0, Proofs.Try.f59, g59_107, seval, h1, h2, h3, h4, h5]
        · simp -implicitDefEqProofs only [push_cast, hty, heq, h0, Proofs.Try.f59, g59_107, seval, h1, h2, h3, h4]
      · try simp -implicitDefEqProofs only [push_cast, hty, heq, h0, Proofs.Try.f59, g59_107, seval, h1, h2, h3]
        try simp only [bindO_assoc]
        refine ite_ext (fun h6 => ?_) (fun h6 => ?_)
        · simp -implicitDefEqProofs only [push_cast, hty, heq, h0, Proofs.Try.f59, g59_107, seval, h1, h2, h3, h6]
        · simp -implicitDefEqProofs only [push_cast, hty, heq, h0, Proofs.Try.f59, g59_107, seval, h1, h2, h3, h6]
  · simp -implicitDefEqProofs only [push_cast, hty, heq, h0, Proofs.Try.f59, g59_107, seval, h1]
theorem ev60 {E : Env} {N : Nat} (hB : N ≤ 4611686018427387904) (hty : E.ty = tys) (heq : E.eqt = eqts) (h0 : E.n0 = 0) (g60_109 : ∀ vs σ, E.tab 109 vs σ = plain (t109 N) vs σ) (c : Con) :
    bindO (aPure E Proofs.Try.f60 H60 N [.agg (Con.cells c)]) (cv sh60) = bindO (F60 N c) fun r => some (v60 r) := by
  unfold F60
  rw [r_pure]
  unfold sh60
  try simp -implicitDefEqProofs only [push_cast, hty, heq, h0, Proofs.Try.f60, g60_109, seval]
  try simp only [bindO_assoc]
  refine bindO_ext fun r1 => ?_
  try simp -implicitDefEqProofs only [push_cast, hty, heq, h0, Proofs.Try.f60, g60_109, seval]
  try simp only [bindO_assoc]
  refine ite_ext (fun h1 => ?_) (fun h1 => ?_)
  · try simp -implicitDefEqProofs only [push_cast, hty, heq, h0, Proofs.Try.f60, g60_109, seval, h1]
    try simp only [bindO_assoc]
    refine ite_ext (fun h2 => ?_) (fun h2 => ?_)
    · try simp -implicitDefEqProofs only [push_cast, hty, heq, h0, Proofs.Try.f60, g60_109, seval, h1, h2]
      try simp only [bindO_assoc]
      refine ite_ext (fun h3 => ?_) (fun h3 => ?_)
      · try simp -implicitDefEqProofs only [push_cast, hty, heq, h0, Proofs.Try.f60, g60_109, seval, h1, h2, h3]
        try simp only [bindO_assoc]
        refine ite_ext (fun h4 => ?_) (fun h4 => ?_)
        · try simp -implicitDefEqProofs only [push_cast, hty, heq, h0, Proofs.Try.f60, g60_109, seval, h1, h2, h3, h4]
          try simp only [bindO_assoc]
          refine ite_ext (fun h5 => ?_) (fun h5 => ?_)
          · simp -implicitDefEqProofs only [push_cast, hty, heq, h0, Proofs.Try.f60, g60_109, seval, h1, h2, h3, h4, h5]
          · simp -implicitDefEqProofs only [push_cast, hty, heq, h0, Proofs.Try.f60, g60_109, seval, h1, h2, h3, h4, h5]
        · simp -implicitDefEqProofs only [push_cast, hty, heq, h0, Proofs.Try.f60, g60_109, seval, h1, h2, h3, h4]
      · try simp -implicitDefEqProofs only [push_cast, hty, heq, h0, Proofs.Try.f60, g60_109, seval, h1, h2, h3]
        try simp only [bindO_assoc]
        refine ite_ext (fun h6 => ?_) (fun h6 => ?_)
        · simp -implicitDefEqProofs only [push_cast, hty, heq, h0, Proofs.Try.f60, g60_109, seval, h1, h2, h3, h6]
        · simp -implicitDefEqProofs only [push_cast, hty, heq, h0, Proofs.Try.f60, g60_109, seval, h1, h2, h3, h6]
    · simp -implicitDefEqProofs only [push_cast, hty, heq, h0, Proofs.Try.f60, g60_109, seval, h1, h2]
  · simp -implicitDefEqProofs only [push_cast, hty, heq, h0, Proofs.Try.f60, g60_109, seval, h1]
theorem ev10 {E : Env} {N : Nat} (hB : N ≤ 4611686018427387904) (hty : E.ty = tys) (heq : E.eqt = eqts) (h0 : E.n0 = 0) (g10_26 : ∀ vs σ, E.tab 26 vs σ = plain (t26 N) vs σ) (g10_32 : ∀ vs σ, E.tab 32 vs σ = plain (t32 N) vs σ) (g10_56 : ∀ vs σ, E.tab 56 vs σ = plain (t56 N) vs σ) (g10_57 : ∀ vs σ, E.tab 57 vs σ = plain (t57 N) vs σ) (g10_58 : ∀ vs σ, E.tab 58 vs σ = plain (t58 N) vs σ) (g10_59 : ∀ vs σ, E.tab 59 vs σ = plain (t59 N) vs σ) (g10_60 : ∀ vs σ, E.tab 60 vs σ = plain (t60 N) vs σ) (c : Con) :
    bindO (aPure E Proofs.Try.f10 H10 N [.agg (Con.cells c)]) (cv sh10) = bindO (F10 N c) fun r => some (v10 r) := by
  unfold F10
  rw [r_pure]
  unfold sh10
  try simp -implicitDefEqProofs only [push_cast, hty, heq, h0, Proofs.Try.f10, g10_26, g10_32, g10_56, g10_57, g10_58, g10_59, g10_60, seval]
  try simp only [bindO_assoc]
  refine bindO_ext fun r1 => ?_
  try simp -implicitDefEqProofs only [push_cast, hty, heq, h0, Proofs.Try.f10, g10_26, g10_32, g10_56, g10_57, g10_58, g10_59, g10_60, seval]
  try simp only [bindO_assoc]
  refine iten_ext (fun h1 => ?_) (fun h1 => ?_)
  · try simp -implicitDefEqProofs only [push_cast, hty, heq, h0, Proofs.Try.f10, g10_26, g10_32, g10_56, g10_57, g10_58, g10_59, g10_60, seval, h1]
    try simp only [bindO_assoc]
    refine bindO_ext fun r2 => ?_
    try simp -implicitDefEqProofs only [push_cast, hty, heq, h0, Proofs.Try.f10, g10_26, g10_32, g10_56, g10_57, g10_58, g10_59, g10_60, seval, h1]
    try simp only [bindO_assoc]
    refine iten_ext (fun h2 => ?_) (fun h2 => ?_)
    · try simp -implicitDefEqProofs only [push_cast, hty, heq, h0, Proofs.Try.f10, g10_26, g10_32, g10_56, g10_57, g10_58, g10_59, g10_60, seval, h1, h2]
      try simp only [bindO_assoc]
      refine bindO_ext fun r3 => ?_
      try simp -implicitDefEqProofs only [push_cast, hty, heq, h0, Proofs.Try.f10, g10_26, g10_32, g10_56, g10_57, g10_58, g10_59, g10_60, seval, h1, h2]
      try simp only [bindO_assoc]
      refine bindO_ext fun r4 => ?_
      try simp -implicitDefEqProofs only [push_cast, hty, heq, h0, Proofs.Try.f10, g10_26, g10_32, g10_56, g10_57, g10_58, g10_59, g10_60, seval, h1, h2]
      try simp only [bindO_assoc]
      refine ite_ext (fun h3 => ?_) (fun h3 => ?_)
      · try simp -implicitDefEqProofs only [push_cast, hty, heq, h0, Proofs.Try.f10, g10_26, g10_32, g10_56, g10_57, g10_58, g10_59, g10_60, seval, h1, h2, h3]
        try simp only [bindO_assoc]
        refine bindO_ext fun r5 => ?_
        try simp -implicitDefEqProofs only [push_cast, hty, heq, h0, Proofs.Try.f10, g10_26, g10_32, g10_56, g10_57, g10_58, g10_59, g10_60, seval, h1, h2, h3]
        try simp only [bindO_assoc]
        refine ite_ext (fun h4 => ?_) (fun h4 => ?_)
        · try simp -implicitDefEqProofs only [push_cast, hty, heq, h0, Proofs.Try.f10, g10_26, g10_32, g10_56, g10_57, g10_58, g10_59, g10_60, seval, h1, h2, h3, h4]
          try simp only [bindO_assoc]
          refine bindO_ext fun r6 => ?_
          try simp -implicitDefEqProofs only [push_cast, hty, heq, h0, Proofs.Try.f10, g10_26, g10_32, g10_56, g10_57, g10_58, g10_59, g10_60, seval, h1, h2, h3, h4]
          try simp only [bindO_assoc]
          refine bindO_ext fun r7 => ?_
          try simp -implicitDefEqProofs only [push_cast, hty, heq, h0, Proofs.Try.f10, g10_26, g10_32, g10_56, g10_57, g10_58, g10_59, g10_60, seval, h1, h2, h3, h4]
          try simp only [bindO_assoc]
          refine iten_ext (fun h5 => ?_) (fun h5 => ?_)
          · try simp -implicitDefEqProofs only [push_cast, hty, heq, h0, Proofs.Try.f10, g10_26, g10_32, g10_56, g10_57, g10_58, g10_59, g10_60, seval, h1, h2, h3, h4, h5]
            try simp only [bindO_assoc]
            refine bindO_ext fun r8 => ?_
            try simp -implicitDefEqProofs only [push_cast, hty, heq, h0, Proofs.Try.f10, g10_26, g10_32, g10_56, g10_57, g10_58, g10_59, g10_60, seval, h1, h2, h3, h4, h5]
            try simp only [bindO_assoc]
            refine ite_ext (fun h6 => ?_) (fun h6 => ?_)
            · try simp -implicitDefEqProofs only [push_cast, hty, heq, h0, Proofs.Try.f10, g10_26, g10_32, g10_56, g10_57, g10_58, g10_59, g10_60, seval, h1, h2, h3, h4, h5, h6]
              try simp only [bindO_assoc]
              refine ite_ext (fun h7 => ?_) (fun h7 => ?_)
              · try simp -implicitDefEqProofs only [push_cast, hty, heq, h0, Proofs.Try.f10, g10_26, g10_32, g10_56, g10_57, g10_58, g10_59, g10_60, seval, h1, h2, h3, h4, h5, h6, h7]
                try simp only [bindO_assoc]
                refine bindO_ext fun r9 => ?_
                simp -implicitDefEqProofs only [push_cast, hty, heq, h0, Proofs.Try.f10, g10_26, g10_32, g10_56, g10_57, g10_58, g10_59, g10_60, seval, h1, h2, h3, h4, h5, h6, h7]
              · simp -implicitDefEqProofs only [push_cast, hty, heq, h0, Proofs.Try.f10, g10_26, g10_32, g10_56, g10_57, g10_58, g10_59, g10_60, seval, h1, h2, h3, h4, h5, h6, h7]
            · simp -implicitDefEqProofs only [push_cast, hty, heq, h0, Proofs.Try.f10, g10_26, g10_32, g10_56, g10_57, g10_58, g10_59, g10_60, seval, h1, h2, h3, h4, h5, h6]
          · simp -implicitDefEqProofs only [push_cast, hty, heq, h0, Proofs.Try.f10, g10_26, g10_32, g10_56, g10_57, g10_58, g10_59, g10_60, seval, h1, h2, h3, h4, h5]
        · simp -implicitDefEqProofs only [push_cast, hty, heq, h0, Proofs.Try.f10, g10_26, g10_32, g10_56, g10_57, g10_58, g10_59, g10_60, seval, h1, h2, h3, h4]
      · simp -implicitDefEqProofs only [push_cast, hty, heq, h0, Proofs.Try.f10, g10_26, g10_32, g10_56, g10_57, g10_58, g10_59, g10_60, seval, h1, h2, h3]
    · simp -implicitDefEqProofs only [push_cast, hty, heq, h0, Proofs.Try.f10, g10_26, g10_32, g10_56, g10_57, g10_58, g10_59, g10_60, seval, h1, h2]
  · simp -implicitDefEqProofs only [push_cast, hty, heq, h0, Proofs.Try.f10, g10_26, g10_32, g10_56, g10_57, g10_58, g10_59, g10_60, seval, h1]
end Go.Abs.Try
