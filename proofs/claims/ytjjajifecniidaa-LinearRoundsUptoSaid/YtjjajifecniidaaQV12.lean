import Derived.Test.YtjjajifecniidaaQD
namespace Go.Abs.Try
open Go.RowKit
set_option linter.unusedSimpArgs false
set_option linter.unusedVariables false
set_option maxRecDepth 100000
set_option maxHeartbeats 4000000
attribute [local push_cast] ty2 ty3 ty9 ty22 ty24 ty41 ty43 ty52 ty71
theorem ev109 {E : Env} {N : Nat} (hB : N ≤ 4611686018427387904) (hty : E.ty = tys) (heq : E.eqt = eqts) (h0 : E.n0 = 0) (g109_89 : ∀ vs σ, E.tab 89 vs σ = plain (t89 N) vs σ) (c : Con) :
    bindO (aPure E Proofs.Try.f109 H109 N [.agg (Con.cells c)]) (cv sh109) = bindO (F109 N c) fun r => some (v109 r) := by
  unfold F109
  rw [r_pure]
  unfold sh109
  try simp -implicitDefEqProofs only [push_cast, hty, heq, h0, Proofs.Try.f109, g109_89, seval]
  try simp only [bindO_assoc]
  refine iten_ext (fun h1 => ?_) (fun h1 => ?_)
  · try simp -implicitDefEqProofs only [push_cast, hty, heq, h0, Proofs.Try.f109, g109_89, seval, h1]
    try simp only [bindO_assoc]
    refine bindO_ext fun r2 => ?_
    simp -implicitDefEqProofs only [push_cast, hty, heq, h0, Proofs.Try.f109, g109_89, seval, h1]
  · try simp -implicitDefEqProofs only [push_cast, hty, heq, h0, Proofs.Try.f109, g109_89, seval, h1]
    try simp only [bindO_assoc]
    refine ite_ext (fun h2 => ?_) (fun h2 => ?_)
    · try simp -implicitDefEqProofs only [push_cast, hty, heq, h0, Proofs.Try.f109, g109_89, seval, h1, h2]
      try simp only [bindO_assoc]
      refine bindO_ext fun r1 => ?_
      simp -implicitDefEqProofs only [push_cast, hty, heq, h0, Proofs.Try.f109, g109_89, seval, h1, h2]
    · simp -implicitDefEqProofs only [push_cast, hty, heq, h0, Proofs.Try.f109, g109_89, seval, h1, h2]
theorem ev150 {E : Env} {N : Nat} (hB : N ≤ 4611686018427387904) (hty : E.ty = tys) (heq : E.eqt = eqts) (h0 : E.n0 = 0)  (a : Int) (b : Int) :
    bindO (aPure E Proofs.Try.f150 H150 N [.int .i64 a, .int .i64 b]) (cv sh150) = bindO (F150 N a b) fun r => some (v150 r) := by
  unfold F150
  rw [r_pure]
  unfold sh150
  try simp -implicitDefEqProofs only [push_cast, hty, heq, h0, Proofs.Try.f150, seval]
  try simp only [bindO_assoc]
  refine ite_ext (fun h1 => ?_) (fun h1 => ?_)
  · try simp -implicitDefEqProofs only [push_cast, hty, heq, h0, Proofs.Try.f150, seval, h1]
    try simp only [bindO_assoc]
    refine while_loop (S := Int × Int) (fun (s1 : Int × Int) => [.int .i64 s1.1, .int .i64 s1.2, .top, .top, .top, .top, .top, .top, .top, .top, .top, .top, .top, .top, .top, .top, .top, .top, .top, .top]) (fun (s1 : Int × Int) => []) ?_ N (IntKind.i64.wrap (0 - a), b)
    intro s1
    try simp -implicitDefEqProofs only [push_cast, hty, heq, h0, Proofs.Try.f150, seval, h1, F150_s1]
    try simp only [bindO_assoc]
    refine iten_ext (fun h2 => ?_) (fun h2 => ?_)
    · simp -implicitDefEqProofs only [push_cast, hty, heq, h0, Proofs.Try.f150, seval, h1, F150_s1, h2]
    · try simp -implicitDefEqProofs only [push_cast, hty, heq, h0, Proofs.Try.f150, seval, h1, F150_s1, h2]
      try simp only [bindO_assoc]
      refine ite_ext (fun h3 => ?_) (fun h3 => ?_)
      · try simp -implicitDefEqProofs only [push_cast, hty, heq, h0, Proofs.Try.f150, seval, h1, F150_s1, h2, h3]
        try simp only [bindO_assoc]
        refine ite_ext (fun h4 => ?_) (fun h4 => ?_)
        · simp -implicitDefEqProofs only [push_cast, hty, heq, h0, Proofs.Try.f150, seval, h1, F150_s1, h2, h3, h4]
        · simp -implicitDefEqProofs only [push_cast, hty, heq, h0, Proofs.Try.f150, seval, h1, F150_s1, h2, h3, h4]
      · try simp -implicitDefEqProofs only [push_cast, hty, heq, h0, Proofs.Try.f150, seval, h1, F150_s1, h2, h3]
        try simp only [bindO_assoc]
        refine ite_ext (fun h5 => ?_) (fun h5 => ?_)
        · simp -implicitDefEqProofs only [push_cast, hty, heq, h0, Proofs.Try.f150, seval, h1, F150_s1, h2, h3, h5]
        · simp -implicitDefEqProofs only [push_cast, hty, heq, h0, Proofs.Try.f150, seval, h1, F150_s1, h2, h3, h5]
  · try simp -implicitDefEqProofs only [push_cast, hty, heq, h0, Proofs.Try.f150, seval, h1]
    try simp only [bindO_assoc]
    refine while_loop (S := Int × Int) (fun (s2 : Int × Int) => [.int .i64 s2.1, .int .i64 s2.2, .top, .top, .top, .top, .top, .top, .top, .top, .top, .top, .top, .top, .top, .top, .top, .top, .top, .top]) (fun (s2 : Int × Int) => []) ?_ N (a, b)
    intro s2
    try simp -implicitDefEqProofs only [push_cast, hty, heq, h0, Proofs.Try.f150, seval, h1, F150_s2]
    try simp only [bindO_assoc]
    refine iten_ext (fun h6 => ?_) (fun h6 => ?_)
    · simp -implicitDefEqProofs only [push_cast, hty, heq, h0, Proofs.Try.f150, seval, h1, F150_s2, h6]
    · try simp -implicitDefEqProofs only [push_cast, hty, heq, h0, Proofs.Try.f150, seval, h1, F150_s2, h6]
      try simp only [bindO_assoc]
      refine ite_ext (fun h7 => ?_) (fun h7 => ?_)
      · try simp -implicitDefEqProofs only [push_cast, hty, heq, h0, Proofs.Try.f150, seval, h1, F150_s2, h6, h7]
        try simp only [bindO_assoc]
        refine ite_ext (fun h8 => ?_) (fun h8 => ?_)
        · simp -implicitDefEqProofs only [push_cast, hty, heq, h0, Proofs.Try.f150, seval, h1, F150_s2, h6, h7, h8]
        · simp -implicitDefEqProofs only [push_cast, hty, heq, h0, Proofs.Try.f150, seval, h1, F150_s2, h6, h7, h8]
      · try simp -implicitDefEqProofs only [push_cast, hty, heq, h0, Proofs.Try.f150, seval, h1, F150_s2, h6, h7]
        try simp only [bindO_assoc]
        refine ite_ext (fun h9 => ?_) (fun h9 => ?_)
        · simp -implicitDefEqProofs only [push_cast, hty, heq, h0, Proofs.Try.f150, seval, h1, F150_s2, h6, h7, h9]
        · simp -implicitDefEqProofs only [push_cast, hty, heq, h0, Proofs.Try.f150, seval, h1, F150_s2, h6, h7, h9]
theorem ev83 {E : Env} {N : Nat} (hB : N ≤ 4611686018427387904) (self83 : Node → Option (Node)) (hty : E.ty = tys) (heq : E.eqt = eqts) (h0 : E.n0 = 0) (g83_83 : ∀ vs σ, E.tab 83 vs σ = plain (ts83 self83) vs σ) (n : Node) :
    bindO (aPure E Proofs.Try.f83 H83 N [.agg (Node.cells n)]) (cv sh83) = bindO (F83b self83 N n) fun r => some (v83 r) := by
  unfold F83b
  rw [r_pure]
  unfold sh83
  try simp -implicitDefEqProofs only [push_cast, hty, heq, h0, Proofs.Try.f83, g83_83, seval]
  try simp only [bindO_assoc]
  refine fold_loop (S := List Node) n.kids (fun (i4 : Nat) (s6 : List Node) => [.top, .top, .ptr 1 0, .ptr 2 0, .top, .top, .top, .top, .top, .top, .top, .top, .top, .top, .top, .top, .top, .sl false 5 (List.map Node.cells n.kids), .int .i64 (n.kids.length : Int), .int .i64 (i4 : Int), .top, .top, .top, .top, .top, .top, .top, .top, .top, .top, .top, .top, .top]) (fun (_ : Nat) (s6 : List Node) => [.var [.int .i64 n.op, .int .i64 n.sortf, .str n.name, .int .i64 n.num, .sl false 5 (List.map Node.cells n.kids)], .var [.int .i64 0, .int .i64 0, .str (⟨#[]⟩ : ByteArray), .int .i64 0, .sl true 5 []], .var [.int .i64 n.op, .int .i64 n.sortf, .str n.name, .int .i64 n.num, .rs 3 0], .row 5 0 (List.map Node.cells s6)]) ([]) ?_ ?_
  · intro s6 i4 x5 h1 h2 h3
    have h4 := rng_wrap h3 hB
    have h5 := lt_true h2
    have h6 := inB_lt h2
    have h7 := rng_get (c := Node.cells) h1
    have h8 := rng_getq (c := Node.cells) h1
    try simp -implicitDefEqProofs only [push_cast, hty, heq, h0, Proofs.Try.f83, g83_83, seval, h4, h5, h6, h7, h8, F83_s2]
    try simp only [bindO_assoc]
    refine bindO_ext fun r7 => ?_
    try simp -implicitDefEqProofs only [push_cast, hty, heq, h0, Proofs.Try.f83, g83_83, seval, h4, h5, h6, h7, h8, F83_s2]
    try simp only [bindO_assoc]
    refine ite_ext (fun h9 => ?_) (fun h9 => ?_)
    · simp -implicitDefEqProofs only [push_cast, hty, heq, h0, Proofs.Try.f83, g83_83, seval, h4, h5, h6, h7, h8, F83_s2, h9]
    · simp -implicitDefEqProofs only [push_cast, hty, heq, h0, Proofs.Try.f83, g83_83, seval, h4, h5, h6, h7, h8, F83_s2, h9]
  · intro s6
    have h10 := lt_self (n := n.kids.length)
    simp -implicitDefEqProofs only [push_cast, hty, heq, h0, Proofs.Try.f83, g83_83, seval, h10, F83_f2]
theorem ev151 {E : Env} {N : Nat} (hB : N ≤ 4611686018427387904) (hty : E.ty = tys) (heq : E.eqt = eqts) (h0 : E.n0 = 0)  (n : Int) (byq : Int) :
    bindO (aPure E Proofs.Try.f151 H151 N [.int .i64 n, .int .i64 byq]) (cv sh151) = bindO (F151 n byq) fun r => some (v151 r) := by
  unfold F151
  rw [r_pure]
  unfold sh151
  try simp -implicitDefEqProofs only [push_cast, hty, heq, h0, Proofs.Try.f151, seval]
  try simp only [bindO_assoc]
  refine ite_ext (fun h1 => ?_) (fun h1 => ?_)
  · simp -implicitDefEqProofs only [push_cast, hty, heq, h0, Proofs.Try.f151, seval, h1]
  · try simp -implicitDefEqProofs only [push_cast, hty, heq, h0, Proofs.Try.f151, seval, h1]
    try simp only [bindO_assoc]
    refine ite_ext (fun h2 => ?_) (fun h2 => ?_)
    · simp -implicitDefEqProofs only [push_cast, hty, heq, h0, Proofs.Try.f151, seval, h1, h2]
    · simp -implicitDefEqProofs only [push_cast, hty, heq, h0, Proofs.Try.f151, seval, h1, h2]
theorem ev110 {E : Env} {N : Nat} (hB : N ≤ 4611686018427387904) (hty : E.ty = tys) (heq : E.eqt = eqts) (h0 : E.n0 = 0) (g110_150 : ∀ vs σ, E.tab 150 vs σ = plain (t150 N) vs σ) (g110_83 : ∀ vs σ, E.tab 83 vs σ = plain (t83 N) vs σ) (g110_151 : ∀ vs σ, E.tab 151 vs σ = plain (t151) vs σ) (c : Con) :
    bindO (aPure E Proofs.Try.f110 H110 N [.agg (Con.cells c)]) (cv sh110) = bindO (F110 N c) fun r => some (v110 r) := by
  unfold F110
  rw [r_pure]
  unfold sh110
  try simp -implicitDefEqProofs only [push_cast, hty, heq, h0, Proofs.Try.f110, g110_150, g110_83, g110_151, seval]
  try simp only [bindO_assoc]
  refine ite_ext (fun h1 => ?_) (fun h1 => ?_)
  · simp -implicitDefEqProofs only [push_cast, hty, heq, h0, Proofs.Try.f110, g110_150, g110_83, g110_151, seval, h1]
  · try simp -implicitDefEqProofs only [push_cast, hty, heq, h0, Proofs.Try.f110, g110_150, g110_83, g110_151, seval, h1]
    try simp only [bindO_assoc]
    refine fold_loop (S := Int) c.conForm.linMonos (fun (i1 : Nat) (s3 : Int) => [.top, .ptr 0 0, .ptr 1 0, .int .i64 s3, .top, .top, .top, .top, .top, .top, .top, .top, .top, .top, .top, .top, .top, .top, .top, .top, .top, .top, .top, .top, .sl false 6 (List.map Mono.cells c.conForm.linMonos), .int .i64 (c.conForm.linMonos.length : Int), .int .i64 (i1 : Int), .top, .top, .top, .top, .top, .top, .top, .top, .top, .top, .top, .top, .top, .top, .top, .top, .top, .top, .top, .top, .top, .top, .top, .top, .top, .top, .top, .top, .top, .top, .top, .top, .top, .top, .top, .top, .top, .top, .top, .top, .top, .top, .top, .top, .top, .top, .top, .top, .top, .top, .top, .top, .top, .top, .top, .top, .top, .top, .top, .top, .top, .top, .top, .top, .top, .top, .top, .top, .top, .top, .top, .top, .top]) (fun (_ : Nat) (s3 : Int) => [.var [.sl false 6 (List.map Mono.cells c.conForm.linMonos), .int .i64 c.conForm.linConst, .int .i64 c.conRel], .var [.sl true 6 [], .int .i64 0, .int .i64 0]]) 0 ?_ ?_
    · intro s3 i1 x2 h2 h3 h4
      have h5 := rng_wrap h4 hB
      have h6 := lt_true h3
      have h7 := inB_lt h3
      have h8 := rng_get (c := Mono.cells) h2
      have h9 := rng_getq (c := Mono.cells) h2
      try simp -implicitDefEqProofs only [push_cast, hty, heq, h0, Proofs.Try.f110, g110_150, g110_83, g110_151, seval, h1, h5, h6, h7, h8, h9, F110_s1]
      try simp only [bindO_assoc]
      refine bindO_ext fun r4 => ?_
      simp -implicitDefEqProofs only [push_cast, hty, heq, h0, Proofs.Try.f110, g110_150, g110_83, g110_151, seval, h1, h5, h6, h7, h8, h9, F110_s1]
    · intro s3
      have h10 := lt_self (n := c.conForm.linMonos.length)
      try simp -implicitDefEqProofs only [push_cast, hty, heq, h0, Proofs.Try.f110, g110_150, g110_83, g110_151, seval, h1, h10, F110_f1]
      try simp only [bindO_assoc]
      refine ite_ext (fun h11 => ?_) (fun h11 => ?_)
      · try simp -implicitDefEqProofs only [push_cast, hty, heq, h0, Proofs.Try.f110, g110_150, g110_83, g110_151, seval, h1, h10, F110_f1, h11]
        try simp only [bindO_assoc]
        refine ite_ext (fun h12 => ?_) (fun h12 => ?_)
        · simp -implicitDefEqProofs only [push_cast, hty, heq, h0, Proofs.Try.f110, g110_150, g110_83, g110_151, seval, h1, h10, F110_f1, h11, h12]
        · try simp -implicitDefEqProofs only [push_cast, hty, heq, h0, Proofs.Try.f110, g110_150, g110_83, g110_151, seval, h1, h10, F110_f1, h11, h12]
          try simp only [bindO_assoc]
          refine iten_ext (fun h13 => ?_) (fun h13 => ?_)
          · try simp -implicitDefEqProofs only [push_cast, hty, heq, h0, Proofs.Try.f110, g110_150, g110_83, g110_151, seval, h1, h10, F110_f1, h11, h12, h13]
            try simp only [bindO_assoc]
            refine at_sl (c := Mono.cells) fun x5 h14 h15 h16 h17 => ?_
            try simp only [Int.reduceToNat, Int.toNat_natCast] at h16 h17
            try simp -implicitDefEqProofs only [push_cast, hty, heq, h0, Proofs.Try.f110, g110_150, g110_83, g110_151, seval, h1, h10, F110_f1, h11, h12, h13, h14, h16, h17]
            try simp only [bindO_assoc]
            refine ite_ext (fun h18 => ?_) (fun h18 => ?_)
            · try simp -implicitDefEqProofs only [push_cast, hty, heq, h0, Proofs.Try.f110, g110_150, g110_83, g110_151, seval, h1, h10, F110_f1, h11, h12, h13, h14, h16, h17, h18]
              try simp only [bindO_assoc]
              refine ite_ext (fun h19 => ?_) (fun h19 => ?_)
              · simp -implicitDefEqProofs only [push_cast, hty, heq, h0, Proofs.Try.f110, g110_150, g110_83, g110_151, seval, h1, h10, F110_f1, h11, h12, h13, h14, h16, h17, h18, h19]
              · try simp -implicitDefEqProofs only [push_cast, hty, heq, h0, Proofs.Try.f110, g110_150, g110_83, g110_151, seval, h1, h10, F110_f1, h11, h12, h13, h14, h16, h17, h18, h19]
                try simp only [bindO_assoc]
                refine fold_loop (S := List Mono) c.conForm.linMonos (fun (i9 : Nat) (s11 : List Mono) => [.top, .top, .ptr 1 0, .top, .top, .top, .ptr 2 0, .int .i64 (IntKind.i64.wrap (0 - s3)), .top, .top, .top, .top, .top, .top, .top, .top, .top, .top, .top, .top, .top, .top, .top, .top, .top, .top, .top, .top, .top, .top, .top, .top, .top, .top, .top, .top, .top, .top, .top, .top, .top, .top, .top, .top, .top, .top, .top, .top, .top, .top, .top, .top, .top, .top, .top, .top, .top, .top, .top, .top, .top, .top, .top, .top, .top, .top, .top, .top, .top, .top, .top, .top, .top, .top, .top, .top, .top, .sl false 6 (List.map Mono.cells c.conForm.linMonos), .int .i64 (c.conForm.linMonos.length : Int), .int .i64 (i9 : Int), .top, .top, .top, .top, .top, .top, .top, .top, .top, .top, .top, .top, .top, .top, .top, .top, .top, .top, .top, .top]) (fun (_ : Nat) (s11 : List Mono) => [.var [.sl false 6 (List.map Mono.cells c.conForm.linMonos), .int .i64 c.conForm.linConst, .int .i64 c.conRel], .var [.sl true 6 [], .int .i64 0, .int .i64 0], .var [.rs 3 0, .int .i64 (IntKind.i64.wrap (c.conForm.linConst.tdiv (IntKind.i64.wrap (0 - s3)))), .int .i64 c.conRel], .row 6 0 (List.map Mono.cells s11)]) ([]) ?_ ?_
                · intro s11 i9 x10 h20 h21 h22
                  have h23 := rng_wrap h22 hB
                  have h24 := lt_true h21
                  have h25 := inB_lt h21
                  have h26 := rng_get (c := Mono.cells) h20
                  have h27 := rng_getq (c := Mono.cells) h20
                  try simp -implicitDefEqProofs only [push_cast, hty, heq, h0, Proofs.Try.f110, g110_150, g110_83, g110_151, seval, h1, h10, F110_f1, h11, h12, h13, h14, h16, h17, h18, h19, h23, h24, h25, h26, h27, F110_s3]
                  try simp only [bindO_assoc]
                  refine bindO_ext fun r12 => ?_
                  try simp -implicitDefEqProofs only [push_cast, hty, heq, h0, Proofs.Try.f110, g110_150, g110_83, g110_151, seval, h1, h10, F110_f1, h11, h12, h13, h14, h16, h17, h18, h19, h23, h24, h25, h26, h27, F110_s3]
                  try simp only [bindO_assoc]
                  refine ite_ext (fun h28 => ?_) (fun h28 => ?_)
                  · simp -implicitDefEqProofs only [push_cast, hty, heq, h0, Proofs.Try.f110, g110_150, g110_83, g110_151, seval, h1, h10, F110_f1, h11, h12, h13, h14, h16, h17, h18, h19, h23, h24, h25, h26, h27, F110_s3, h28]
                  · simp -implicitDefEqProofs only [push_cast, hty, heq, h0, Proofs.Try.f110, g110_150, g110_83, g110_151, seval, h1, h10, F110_f1, h11, h12, h13, h14, h16, h17, h18, h19, h23, h24, h25, h26, h27, F110_s3, h28]
                · intro s11
                  have h29 := lt_self (n := c.conForm.linMonos.length)
                  simp -implicitDefEqProofs only [push_cast, hty, heq, h0, Proofs.Try.f110, g110_150, g110_83, g110_151, seval, h1, h10, F110_f1, h11, h12, h13, h14, h16, h17, h18, h19, h29, F110_f3]
            · try simp -implicitDefEqProofs only [push_cast, hty, heq, h0, Proofs.Try.f110, g110_150, g110_83, g110_151, seval, h1, h10, F110_f1, h11, h12, h13, h14, h16, h17, h18]
              try simp only [bindO_assoc]
              refine fold_loop (S := List Mono) c.conForm.linMonos (fun (i13 : Nat) (s15 : List Mono) => [.top, .top, .ptr 1 0, .top, .top, .top, .ptr 2 0, .int .i64 s3, .top, .top, .top, .top, .top, .top, .top, .top, .top, .top, .top, .top, .top, .top, .top, .top, .top, .top, .top, .top, .top, .top, .top, .top, .top, .top, .top, .top, .top, .top, .top, .top, .top, .top, .top, .top, .top, .top, .top, .top, .top, .top, .top, .top, .top, .top, .top, .top, .top, .top, .top, .top, .top, .top, .top, .top, .top, .top, .top, .top, .top, .top, .top, .top, .top, .top, .top, .top, .top, .sl false 6 (List.map Mono.cells c.conForm.linMonos), .int .i64 (c.conForm.linMonos.length : Int), .int .i64 (i13 : Int), .top, .top, .top, .top, .top, .top, .top, .top, .top, .top, .top, .top, .top, .top, .top, .top, .top, .top, .top, .top]) (fun (_ : Nat) (s15 : List Mono) => [.var [.sl false 6 (List.map Mono.cells c.conForm.linMonos), .int .i64 c.conForm.linConst, .int .i64 c.conRel], .var [.sl true 6 [], .int .i64 0, .int .i64 0], .var [.rs 3 0, .int .i64 (IntKind.i64.wrap (c.conForm.linConst.tdiv s3)), .int .i64 c.conRel], .row 6 0 (List.map Mono.cells s15)]) ([]) ?_ ?_
              · intro s15 i13 x14 h30 h31 h32
                have h33 := rng_wrap h32 hB
                have h34 := lt_true h31
                have h35 := inB_lt h31
                have h36 := rng_get (c := Mono.cells) h30
                have h37 := rng_getq (c := Mono.cells) h30
                try simp -implicitDefEqProofs only [push_cast, hty, heq, h0, Proofs.Try.f110, g110_150, g110_83, g110_151, seval, h1, h10, F110_f1, h11, h12, h13, h14, h16, h17, h18, h33, h34, h35, h36, h37, F110_s4]
                try simp only [bindO_assoc]
                refine bindO_ext fun r16 => ?_
                try simp -implicitDefEqProofs only [push_cast, hty, heq, h0, Proofs.Try.f110, g110_150, g110_83, g110_151, seval, h1, h10, F110_f1, h11, h12, h13, h14, h16, h17, h18, h33, h34, h35, h36, h37, F110_s4]
                try simp only [bindO_assoc]
                refine ite_ext (fun h38 => ?_) (fun h38 => ?_)
                · simp -implicitDefEqProofs only [push_cast, hty, heq, h0, Proofs.Try.f110, g110_150, g110_83, g110_151, seval, h1, h10, F110_f1, h11, h12, h13, h14, h16, h17, h18, h33, h34, h35, h36, h37, F110_s4, h38]
                · simp -implicitDefEqProofs only [push_cast, hty, heq, h0, Proofs.Try.f110, g110_150, g110_83, g110_151, seval, h1, h10, F110_f1, h11, h12, h13, h14, h16, h17, h18, h33, h34, h35, h36, h37, F110_s4, h38]
              · intro s15
                have h39 := lt_self (n := c.conForm.linMonos.length)
                simp -implicitDefEqProofs only [push_cast, hty, heq, h0, Proofs.Try.f110, g110_150, g110_83, g110_151, seval, h1, h10, F110_f1, h11, h12, h13, h14, h16, h17, h18, h39, F110_f4]
          · simp -implicitDefEqProofs only [push_cast, hty, heq, h0, Proofs.Try.f110, g110_150, g110_83, g110_151, seval, h1, h10, F110_f1, h11, h12, h13]
      · try simp -implicitDefEqProofs only [push_cast, hty, heq, h0, Proofs.Try.f110, g110_150, g110_83, g110_151, seval, h1, h10, F110_f1, h11]
        try simp only [bindO_assoc]
        refine bindO_ext fun r17 => ?_
        try simp -implicitDefEqProofs only [push_cast, hty, heq, h0, Proofs.Try.f110, g110_150, g110_83, g110_151, seval, h1, h10, F110_f1, h11]
        try simp only [bindO_assoc]
        refine fold_loop (S := List Mono) c.conForm.linMonos (fun (i18 : Nat) (s20 : List Mono) => [.top, .top, .ptr 1 0, .top, .top, .top, .ptr 2 0, .int .i64 s3, .top, .top, .top, .top, .top, .top, .top, .top, .top, .top, .top, .top, .top, .top, .top, .top, .top, .top, .top, .top, .top, .top, .top, .top, .top, .top, .top, .top, .top, .top, .top, .top, .top, .top, .top, .top, .top, .top, .top, .top, .top, .top, .top, .top, .top, .top, .top, .top, .top, .top, .top, .top, .top, .top, .top, .top, .top, .top, .top, .top, .top, .top, .top, .top, .top, .top, .top, .top, .top, .sl false 6 (List.map Mono.cells c.conForm.linMonos), .int .i64 (c.conForm.linMonos.length : Int), .int .i64 (i18 : Int), .top, .top, .top, .top, .top, .top, .top, .top, .top, .top, .top, .top, .top, .top, .top, .top, .top, .top, .top, .top]) (fun (_ : Nat) (s20 : List Mono) => [.var [.sl false 6 (List.map Mono.cells c.conForm.linMonos), .int .i64 c.conForm.linConst, .int .i64 c.conRel], .var [.sl true 6 [], .int .i64 0, .int .i64 0], .var [.rs 3 0, .int .i64 (IntKind.i64.wrap (0 - r17)), .int .i64 c.conRel], .row 6 0 (List.map Mono.cells s20)]) ([]) ?_ ?_
        · intro s20 i18 x19 h40 h41 h42
          have h43 := rng_wrap h42 hB
          have h44 := lt_true h41
          have h45 := inB_lt h41
          have h46 := rng_get (c := Mono.cells) h40
          have h47 := rng_getq (c := Mono.cells) h40
          try simp -implicitDefEqProofs only [push_cast, hty, heq, h0, Proofs.Try.f110, g110_150, g110_83, g110_151, seval, h1, h10, F110_f1, h11, h43, h44, h45, h46, h47, F110_s5]
          try simp only [bindO_assoc]
          refine ite_ext (fun h48 => ?_) (fun h48 => ?_)
          · simp -implicitDefEqProofs only [push_cast, hty, heq, h0, Proofs.Try.f110, g110_150, g110_83, g110_151, seval, h1, h10, F110_f1, h11, h43, h44, h45, h46, h47, F110_s5, h48]
          · try simp -implicitDefEqProofs only [push_cast, hty, heq, h0, Proofs.Try.f110, g110_150, g110_83, g110_151, seval, h1, h10, F110_f1, h11, h43, h44, h45, h46, h47, F110_s5, h48]
            try simp only [bindO_assoc]
            refine bindO_ext fun r21 => ?_
            try simp -implicitDefEqProofs only [push_cast, hty, heq, h0, Proofs.Try.f110, g110_150, g110_83, g110_151, seval, h1, h10, F110_f1, h11, h43, h44, h45, h46, h47, F110_s5, h48]
            try simp only [bindO_assoc]
            refine ite_ext (fun h49 => ?_) (fun h49 => ?_)
            · simp -implicitDefEqProofs only [push_cast, hty, heq, h0, Proofs.Try.f110, g110_150, g110_83, g110_151, seval, h1, h10, F110_f1, h11, h43, h44, h45, h46, h47, F110_s5, h48, h49]
            · simp -implicitDefEqProofs only [push_cast, hty, heq, h0, Proofs.Try.f110, g110_150, g110_83, g110_151, seval, h1, h10, F110_f1, h11, h43, h44, h45, h46, h47, F110_s5, h48, h49]
        · intro s20
          have h50 := lt_self (n := c.conForm.linMonos.length)
          simp -implicitDefEqProofs only [push_cast, hty, heq, h0, Proofs.Try.f110, g110_150, g110_83, g110_151, seval, h1, h10, F110_f1, h11, h50, F110_f5]
end Go.Abs.Try
