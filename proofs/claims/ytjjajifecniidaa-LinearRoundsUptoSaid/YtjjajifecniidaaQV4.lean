import Derived.Test.YtjjajifecniidaaQD
namespace Go.Abs.Try
open Go.RowKit
set_option linter.unusedSimpArgs false
set_option linter.unusedVariables false
set_option maxRecDepth 100000
set_option maxHeartbeats 4000000
attribute [local push_cast] ty2 ty24 ty41 ty43 ty52 ty140
theorem ev88 {E : Env} {N : Nat} (hB : N ≤ 4611686018427387904) (hty : E.ty = tys) (heq : E.eqt = eqts) (h0 : E.n0 = 0) (g88_128 : ∀ vs σ, E.tab 128 vs σ = plain (t128) vs σ) (g88_129 : ∀ vs σ, E.tab 129 vs σ = plain (t129) vs σ) (g88_18 : ∀ vs σ, E.tab 18 vs σ = plain (t18 N) vs σ) (a : Lin) (b : Lin) (p : Int) (q : Int) :
    bindO (aPure E Proofs.Try.f88 H88 N [.agg (Lin.cells a), .agg (Lin.cells b), .int .i64 p, .int .i64 q]) (cv sh88) = bindO (F88 N a b p q) fun r => some (v88 r) := by
  unfold F88
  rw [r_pure]
  unfold sh88
  try simp -implicitDefEqProofs only [push_cast, hty, heq, h0, Proofs.Try.f88, g88_128, g88_129, g88_18, seval]
  try simp only [bindO_assoc]
  refine while_loop (S := (List Mono) × Int × Int) (fun (s1 : (List Mono) × Int × Int) => [.top, .top, .int .i64 p, .int .i64 q, .ptr 0 0, .ptr 1 0, .top, .top, .ptr 2 0, .top, .ptr 3 0, .int .i64 s1.2.1, .int .i64 s1.2.2, .top, .top, .top, .top, .top, .top, .top, .top, .top, .top, .top, .top, .top, .top, .top, .top, .top, .top, .top, .top, .top, .top, .top, .top, .top, .top, .top, .top, .top, .top, .top, .top, .top, .top, .top, .top, .top, .top, .top, .top, .top, .top, .top, .top, .top, .top, .top, .top, .top, .top, .top, .top, .top, .top, .top, .top, .top, .top, .top, .top, .top, .top, .top, .top, .top, .top, .top, .top, .top, .top, .top, .top, .top, .top, .top, .top, .top, .top, .top, .top, .top, .top, .top, .top, .top, .top, .top, .top, .top, .top, .top, .top, .top, .top, .top, .top, .top, .top, .top, .top, .top, .top, .top, .top, .top, .top, .top, .top, .top, .top, .top, .top, .top, .top, .top, .top, .top]) (fun (s1 : (List Mono) × Int × Int) => [.var [.sl false 6 (List.map Mono.cells a.linMonos), .int .i64 a.linConst], .var [.sl false 6 (List.map Mono.cells b.linMonos), .int .i64 b.linConst], .var [.sl true 6 [], .int .i64 0], .var [.rs 4 0, .int .i64 0], .row 6 0 (List.map Mono.cells s1.1)]) ?_ N ([], 0, 0)
  intro s1
  try simp -implicitDefEqProofs only [push_cast, hty, heq, h0, Proofs.Try.f88, g88_128, g88_129, g88_18, seval, F88_s1]
  try simp only [bindO_assoc]
  refine iten_ext (fun h1 => ?_) (fun h1 => ?_)
  · try simp -implicitDefEqProofs only [push_cast, hty, heq, h0, Proofs.Try.f88, g88_128, g88_129, g88_18, seval, F88_s1, h1]
    try simp only [bindO_assoc]
    refine ite_ext (fun h2 => ?_) (fun h2 => ?_)
    · try simp -implicitDefEqProofs only [push_cast, hty, heq, h0, Proofs.Try.f88, g88_128, g88_129, g88_18, seval, F88_s1, h1, h2]
      try simp only [bindO_assoc]
      refine at_sl (c := Mono.cells) fun x21 h3 h4 h5 h6 => ?_
      try simp only [Int.reduceToNat, Int.toNat_natCast] at h5 h6
      try simp -implicitDefEqProofs only [push_cast, hty, heq, h0, Proofs.Try.f88, g88_128, g88_129, g88_18, seval, F88_s1, h1, h2, h3, h5, h6]
      try simp only [bindO_assoc]
      refine bindO_ext fun r22 => ?_
      try simp -implicitDefEqProofs only [push_cast, hty, heq, h0, Proofs.Try.f88, g88_128, g88_129, g88_18, seval, F88_s1, h1, h2, h3, h5, h6]
      try simp only [bindO_assoc]
      refine bindO_ext fun r23 => ?_
      try simp -implicitDefEqProofs only [push_cast, hty, heq, h0, Proofs.Try.f88, g88_128, g88_129, g88_18, seval, F88_s1, h1, h2, h3, h5, h6]
      try simp only [bindO_assoc]
      refine iten_ext (fun h7 => ?_) (fun h7 => ?_)
      · try simp -implicitDefEqProofs only [push_cast, hty, heq, h0, Proofs.Try.f88, g88_128, g88_129, g88_18, seval, F88_s1, h1, h2, h3, h5, h6, h7]
        try simp only [bindO_assoc]
        refine iten_ext (fun h8 => ?_) (fun h8 => ?_)
        · simp -implicitDefEqProofs only [push_cast, hty, heq, h0, Proofs.Try.f88, g88_128, g88_129, g88_18, seval, F88_s1, h1, h2, h3, h5, h6, h7, h8]
        · try simp -implicitDefEqProofs only [push_cast, hty, heq, h0, Proofs.Try.f88, g88_128, g88_129, g88_18, seval, F88_s1, h1, h2, h3, h5, h6, h7, h8]
          try simp only [bindO_assoc]
          refine ite_ext (fun h9 => ?_) (fun h9 => ?_)
          · simp -implicitDefEqProofs only [push_cast, hty, heq, h0, Proofs.Try.f88, g88_128, g88_129, g88_18, seval, F88_s1, h1, h2, h3, h5, h6, h7, h8, h9]
          · simp -implicitDefEqProofs only [push_cast, hty, heq, h0, Proofs.Try.f88, g88_128, g88_129, g88_18, seval, F88_s1, h1, h2, h3, h5, h6, h7, h8, h9]
      · simp -implicitDefEqProofs only [push_cast, hty, heq, h0, Proofs.Try.f88, g88_128, g88_129, g88_18, seval, F88_s1, h1, h2, h3, h5, h6, h7]
    · try simp -implicitDefEqProofs only [push_cast, hty, heq, h0, Proofs.Try.f88, g88_128, g88_129, g88_18, seval, F88_s1, h1, h2]
      try simp only [bindO_assoc]
      refine ite_ext (fun h10 => ?_) (fun h10 => ?_)
      · try simp -implicitDefEqProofs only [push_cast, hty, heq, h0, Proofs.Try.f88, g88_128, g88_129, g88_18, seval, F88_s1, h1, h2, h10]
        try simp only [bindO_assoc]
        refine at_sl (c := Mono.cells) fun x24 h11 h12 h13 h14 => ?_
        try simp only [Int.reduceToNat, Int.toNat_natCast] at h13 h14
        try simp -implicitDefEqProofs only [push_cast, hty, heq, h0, Proofs.Try.f88, g88_128, g88_129, g88_18, seval, F88_s1, h1, h2, h10, h11, h13, h14]
        try simp only [bindO_assoc]
        refine bindO_ext fun r25 => ?_
        try simp -implicitDefEqProofs only [push_cast, hty, heq, h0, Proofs.Try.f88, g88_128, g88_129, g88_18, seval, F88_s1, h1, h2, h10, h11, h13, h14]
        try simp only [bindO_assoc]
        refine bindO_ext fun r26 => ?_
        try simp -implicitDefEqProofs only [push_cast, hty, heq, h0, Proofs.Try.f88, g88_128, g88_129, g88_18, seval, F88_s1, h1, h2, h10, h11, h13, h14]
        try simp only [bindO_assoc]
        refine iten_ext (fun h15 => ?_) (fun h15 => ?_)
        · try simp -implicitDefEqProofs only [push_cast, hty, heq, h0, Proofs.Try.f88, g88_128, g88_129, g88_18, seval, F88_s1, h1, h2, h10, h11, h13, h14, h15]
          try simp only [bindO_assoc]
          refine iten_ext (fun h16 => ?_) (fun h16 => ?_)
          · simp -implicitDefEqProofs only [push_cast, hty, heq, h0, Proofs.Try.f88, g88_128, g88_129, g88_18, seval, F88_s1, h1, h2, h10, h11, h13, h14, h15, h16]
          · try simp -implicitDefEqProofs only [push_cast, hty, heq, h0, Proofs.Try.f88, g88_128, g88_129, g88_18, seval, F88_s1, h1, h2, h10, h11, h13, h14, h15, h16]
            try simp only [bindO_assoc]
            refine ite_ext (fun h17 => ?_) (fun h17 => ?_)
            · simp -implicitDefEqProofs only [push_cast, hty, heq, h0, Proofs.Try.f88, g88_128, g88_129, g88_18, seval, F88_s1, h1, h2, h10, h11, h13, h14, h15, h16, h17]
            · simp -implicitDefEqProofs only [push_cast, hty, heq, h0, Proofs.Try.f88, g88_128, g88_129, g88_18, seval, F88_s1, h1, h2, h10, h11, h13, h14, h15, h16, h17]
        · simp -implicitDefEqProofs only [push_cast, hty, heq, h0, Proofs.Try.f88, g88_128, g88_129, g88_18, seval, F88_s1, h1, h2, h10, h11, h13, h14, h15]
      · try simp -implicitDefEqProofs only [push_cast, hty, heq, h0, Proofs.Try.f88, g88_128, g88_129, g88_18, seval, F88_s1, h1, h2, h10]
        try simp only [bindO_assoc]
        refine at_sl (c := Mono.cells) fun x27 h18 h19 h20 h21 => ?_
        try simp only [Int.reduceToNat, Int.toNat_natCast] at h20 h21
        try simp -implicitDefEqProofs only [push_cast, hty, heq, h0, Proofs.Try.f88, g88_128, g88_129, g88_18, seval, F88_s1, h1, h2, h10, h18, h20, h21]
        try simp only [bindO_assoc]
        refine at_sl (c := Mono.cells) fun x28 h22 h23 h24 h25 => ?_
        try simp only [Int.reduceToNat, Int.toNat_natCast] at h24 h25
        try simp -implicitDefEqProofs only [push_cast, hty, heq, h0, Proofs.Try.f88, g88_128, g88_129, g88_18, seval, F88_s1, h1, h2, h10, h18, h20, h21, h22, h24, h25]
        try simp only [bindO_assoc]
        refine bindO_ext fun r29 => ?_
        try simp -implicitDefEqProofs only [push_cast, hty, heq, h0, Proofs.Try.f88, g88_128, g88_129, g88_18, seval, F88_s1, h1, h2, h10, h18, h20, h21, h22, h24, h25]
        try simp only [bindO_assoc]
        refine ite_ext (fun h26 => ?_) (fun h26 => ?_)
        · try simp -implicitDefEqProofs only [push_cast, hty, heq, h0, Proofs.Try.f88, g88_128, g88_129, g88_18, seval, F88_s1, h1, h2, h10, h18, h20, h21, h22, h24, h25, h26]
          try simp only [bindO_assoc]
          refine bindO_ext fun r30 => ?_
          try simp -implicitDefEqProofs only [push_cast, hty, heq, h0, Proofs.Try.f88, g88_128, g88_129, g88_18, seval, F88_s1, h1, h2, h10, h18, h20, h21, h22, h24, h25, h26]
          try simp only [bindO_assoc]
          refine ite_ext (fun h27 => ?_) (fun h27 => ?_)
          · try simp -implicitDefEqProofs only [push_cast, hty, heq, h0, Proofs.Try.f88, g88_128, g88_129, g88_18, seval, F88_s1, h1, h2, h10, h18, h20, h21, h22, h24, h25, h26, h27]
            try simp only [bindO_assoc]
            refine bindO_ext fun r31 => ?_
            try simp -implicitDefEqProofs only [push_cast, hty, heq, h0, Proofs.Try.f88, g88_128, g88_129, g88_18, seval, F88_s1, h1, h2, h10, h18, h20, h21, h22, h24, h25, h26, h27]
            try simp only [bindO_assoc]
            refine bindO_ext fun r32 => ?_
            try simp -implicitDefEqProofs only [push_cast, hty, heq, h0, Proofs.Try.f88, g88_128, g88_129, g88_18, seval, F88_s1, h1, h2, h10, h18, h20, h21, h22, h24, h25, h26, h27]
            try simp only [bindO_assoc]
            refine iten_ext (fun h28 => ?_) (fun h28 => ?_)
            · try simp -implicitDefEqProofs only [push_cast, hty, heq, h0, Proofs.Try.f88, g88_128, g88_129, g88_18, seval, F88_s1, h1, h2, h10, h18, h20, h21, h22, h24, h25, h26, h27, h28]
              try simp only [bindO_assoc]
              refine iten_ext (fun h29 => ?_) (fun h29 => ?_)
              · simp -implicitDefEqProofs only [push_cast, hty, heq, h0, Proofs.Try.f88, g88_128, g88_129, g88_18, seval, F88_s1, h1, h2, h10, h18, h20, h21, h22, h24, h25, h26, h27, h28, h29]
              · try simp -implicitDefEqProofs only [push_cast, hty, heq, h0, Proofs.Try.f88, g88_128, g88_129, g88_18, seval, F88_s1, h1, h2, h10, h18, h20, h21, h22, h24, h25, h26, h27, h28, h29]
                try simp only [bindO_assoc]
                refine ite_ext (fun h30 => ?_) (fun h30 => ?_)
                · simp -implicitDefEqProofs only [push_cast, hty, heq, h0, Proofs.Try.f88, g88_128, g88_129, g88_18, seval, F88_s1, h1, h2, h10, h18, h20, h21, h22, h24, h25, h26, h27, h28, h29, h30]
                · simp -implicitDefEqProofs only [push_cast, hty, heq, h0, Proofs.Try.f88, g88_128, g88_129, g88_18, seval, F88_s1, h1, h2, h10, h18, h20, h21, h22, h24, h25, h26, h27, h28, h29, h30]
            · simp -implicitDefEqProofs only [push_cast, hty, heq, h0, Proofs.Try.f88, g88_128, g88_129, g88_18, seval, F88_s1, h1, h2, h10, h18, h20, h21, h22, h24, h25, h26, h27, h28]
          · try simp -implicitDefEqProofs only [push_cast, hty, heq, h0, Proofs.Try.f88, g88_128, g88_129, g88_18, seval, F88_s1, h1, h2, h10, h18, h20, h21, h22, h24, h25, h26, h27]
            try simp only [bindO_assoc]
            refine bindO_ext fun r33 => ?_
            try simp -implicitDefEqProofs only [push_cast, hty, heq, h0, Proofs.Try.f88, g88_128, g88_129, g88_18, seval, F88_s1, h1, h2, h10, h18, h20, h21, h22, h24, h25, h26, h27]
            try simp only [bindO_assoc]
            refine iten_ext (fun h31 => ?_) (fun h31 => ?_)
            · try simp -implicitDefEqProofs only [push_cast, hty, heq, h0, Proofs.Try.f88, g88_128, g88_129, g88_18, seval, F88_s1, h1, h2, h10, h18, h20, h21, h22, h24, h25, h26, h27, h31]
              try simp only [bindO_assoc]
              refine iten_ext (fun h32 => ?_) (fun h32 => ?_)
              · simp -implicitDefEqProofs only [push_cast, hty, heq, h0, Proofs.Try.f88, g88_128, g88_129, g88_18, seval, F88_s1, h1, h2, h10, h18, h20, h21, h22, h24, h25, h26, h27, h31, h32]
              · try simp -implicitDefEqProofs only [push_cast, hty, heq, h0, Proofs.Try.f88, g88_128, g88_129, g88_18, seval, F88_s1, h1, h2, h10, h18, h20, h21, h22, h24, h25, h26, h27, h31, h32]
                try simp only [bindO_assoc]
                refine ite_ext (fun h33 => ?_) (fun h33 => ?_)
                · simp -implicitDefEqProofs only [push_cast, hty, heq, h0, Proofs.Try.f88, g88_128, g88_129, g88_18, seval, F88_s1, h1, h2, h10, h18, h20, h21, h22, h24, h25, h26, h27, h31, h32, h33]
                · simp -implicitDefEqProofs only [push_cast, hty, heq, h0, Proofs.Try.f88, g88_128, g88_129, g88_18, seval, F88_s1, h1, h2, h10, h18, h20, h21, h22, h24, h25, h26, h27, h31, h32, h33]
            · simp -implicitDefEqProofs only [push_cast, hty, heq, h0, Proofs.Try.f88, g88_128, g88_129, g88_18, seval, F88_s1, h1, h2, h10, h18, h20, h21, h22, h24, h25, h26, h27, h31]
        · try simp -implicitDefEqProofs only [push_cast, hty, heq, h0, Proofs.Try.f88, g88_128, g88_129, g88_18, seval, F88_s1, h1, h2, h10, h18, h20, h21, h22, h24, h25, h26]
          try simp only [bindO_assoc]
          refine ite_ext (fun h34 => ?_) (fun h34 => ?_)
          · try simp -implicitDefEqProofs only [push_cast, hty, heq, h0, Proofs.Try.f88, g88_128, g88_129, g88_18, seval, F88_s1, h1, h2, h10, h18, h20, h21, h22, h24, h25, h26, h34]
            try simp only [bindO_assoc]
            refine bindO_ext fun r34 => ?_
            try simp -implicitDefEqProofs only [push_cast, hty, heq, h0, Proofs.Try.f88, g88_128, g88_129, g88_18, seval, F88_s1, h1, h2, h10, h18, h20, h21, h22, h24, h25, h26, h34]
            try simp only [bindO_assoc]
            refine bindO_ext fun r35 => ?_
            try simp -implicitDefEqProofs only [push_cast, hty, heq, h0, Proofs.Try.f88, g88_128, g88_129, g88_18, seval, F88_s1, h1, h2, h10, h18, h20, h21, h22, h24, h25, h26, h34]
            try simp only [bindO_assoc]
            refine iten_ext (fun h35 => ?_) (fun h35 => ?_)
            · try simp -implicitDefEqProofs only [push_cast, hty, heq, h0, Proofs.Try.f88, g88_128, g88_129, g88_18, seval, F88_s1, h1, h2, h10, h18, h20, h21, h22, h24, h25, h26, h34, h35]
              try simp only [bindO_assoc]
              refine iten_ext (fun h36 => ?_) (fun h36 => ?_)
              · simp -implicitDefEqProofs only [push_cast, hty, heq, h0, Proofs.Try.f88, g88_128, g88_129, g88_18, seval, F88_s1, h1, h2, h10, h18, h20, h21, h22, h24, h25, h26, h34, h35, h36]
              · try simp -implicitDefEqProofs only [push_cast, hty, heq, h0, Proofs.Try.f88, g88_128, g88_129, g88_18, seval, F88_s1, h1, h2, h10, h18, h20, h21, h22, h24, h25, h26, h34, h35, h36]
                try simp only [bindO_assoc]
                refine ite_ext (fun h37 => ?_) (fun h37 => ?_)
                · simp -implicitDefEqProofs only [push_cast, hty, heq, h0, Proofs.Try.f88, g88_128, g88_129, g88_18, seval, F88_s1, h1, h2, h10, h18, h20, h21, h22, h24, h25, h26, h34, h35, h36, h37]
                · simp -implicitDefEqProofs only [push_cast, hty, heq, h0, Proofs.Try.f88, g88_128, g88_129, g88_18, seval, F88_s1, h1, h2, h10, h18, h20, h21, h22, h24, h25, h26, h34, h35, h36, h37]
            · simp -implicitDefEqProofs only [push_cast, hty, heq, h0, Proofs.Try.f88, g88_128, g88_129, g88_18, seval, F88_s1, h1, h2, h10, h18, h20, h21, h22, h24, h25, h26, h34, h35]
          · try simp -implicitDefEqProofs only [push_cast, hty, heq, h0, Proofs.Try.f88, g88_128, g88_129, g88_18, seval, F88_s1, h1, h2, h10, h18, h20, h21, h22, h24, h25, h26, h34]
            try simp only [bindO_assoc]
            refine bindO_ext fun r36 => ?_
            try simp -implicitDefEqProofs only [push_cast, hty, heq, h0, Proofs.Try.f88, g88_128, g88_129, g88_18, seval, F88_s1, h1, h2, h10, h18, h20, h21, h22, h24, h25, h26, h34]
            try simp only [bindO_assoc]
            refine iten_ext (fun h38 => ?_) (fun h38 => ?_)
            · try simp -implicitDefEqProofs only [push_cast, hty, heq, h0, Proofs.Try.f88, g88_128, g88_129, g88_18, seval, F88_s1, h1, h2, h10, h18, h20, h21, h22, h24, h25, h26, h34, h38]
              try simp only [bindO_assoc]
              refine iten_ext (fun h39 => ?_) (fun h39 => ?_)
              · simp -implicitDefEqProofs only [push_cast, hty, heq, h0, Proofs.Try.f88, g88_128, g88_129, g88_18, seval, F88_s1, h1, h2, h10, h18, h20, h21, h22, h24, h25, h26, h34, h38, h39]
              · try simp -implicitDefEqProofs only [push_cast, hty, heq, h0, Proofs.Try.f88, g88_128, g88_129, g88_18, seval, F88_s1, h1, h2, h10, h18, h20, h21, h22, h24, h25, h26, h34, h38, h39]
                try simp only [bindO_assoc]
                refine ite_ext (fun h40 => ?_) (fun h40 => ?_)
                · simp -implicitDefEqProofs only [push_cast, hty, heq, h0, Proofs.Try.f88, g88_128, g88_129, g88_18, seval, F88_s1, h1, h2, h10, h18, h20, h21, h22, h24, h25, h26, h34, h38, h39, h40]
                · simp -implicitDefEqProofs only [push_cast, hty, heq, h0, Proofs.Try.f88, g88_128, g88_129, g88_18, seval, F88_s1, h1, h2, h10, h18, h20, h21, h22, h24, h25, h26, h34, h38, h39, h40]
            · simp -implicitDefEqProofs only [push_cast, hty, heq, h0, Proofs.Try.f88, g88_128, g88_129, g88_18, seval, F88_s1, h1, h2, h10, h18, h20, h21, h22, h24, h25, h26, h34, h38]
  · try simp -implicitDefEqProofs only [push_cast, hty, heq, h0, Proofs.Try.f88, g88_128, g88_129, g88_18, seval, F88_s1, h1]
    try simp only [bindO_assoc]
    refine ite_ext (fun h41 => ?_) (fun h41 => ?_)
    · try simp -implicitDefEqProofs only [push_cast, hty, heq, h0, Proofs.Try.f88, g88_128, g88_129, g88_18, seval, F88_s1, h1, h41]
      try simp only [bindO_assoc]
      refine ite_ext (fun h42 => ?_) (fun h42 => ?_)
      · try simp -implicitDefEqProofs only [push_cast, hty, heq, h0, Proofs.Try.f88, g88_128, g88_129, g88_18, seval, F88_s1, h1, h41, h42]
        try simp only [bindO_assoc]
        refine at_sl (c := Mono.cells) fun x2 h43 h44 h45 h46 => ?_
        try simp only [Int.reduceToNat, Int.toNat_natCast] at h45 h46
        try simp -implicitDefEqProofs only [push_cast, hty, heq, h0, Proofs.Try.f88, g88_128, g88_129, g88_18, seval, F88_s1, h1, h41, h42, h43, h45, h46]
        try simp only [bindO_assoc]
        refine bindO_ext fun r3 => ?_
        try simp -implicitDefEqProofs only [push_cast, hty, heq, h0, Proofs.Try.f88, g88_128, g88_129, g88_18, seval, F88_s1, h1, h41, h42, h43, h45, h46]
        try simp only [bindO_assoc]
        refine bindO_ext fun r4 => ?_
        try simp -implicitDefEqProofs only [push_cast, hty, heq, h0, Proofs.Try.f88, g88_128, g88_129, g88_18, seval, F88_s1, h1, h41, h42, h43, h45, h46]
        try simp only [bindO_assoc]
        refine iten_ext (fun h47 => ?_) (fun h47 => ?_)
        · try simp -implicitDefEqProofs only [push_cast, hty, heq, h0, Proofs.Try.f88, g88_128, g88_129, g88_18, seval, F88_s1, h1, h41, h42, h43, h45, h46, h47]
          try simp only [bindO_assoc]
          refine iten_ext (fun h48 => ?_) (fun h48 => ?_)
          · simp -implicitDefEqProofs only [push_cast, hty, heq, h0, Proofs.Try.f88, g88_128, g88_129, g88_18, seval, F88_s1, h1, h41, h42, h43, h45, h46, h47, h48]
          · try simp -implicitDefEqProofs only [push_cast, hty, heq, h0, Proofs.Try.f88, g88_128, g88_129, g88_18, seval, F88_s1, h1, h41, h42, h43, h45, h46, h47, h48]
            try simp only [bindO_assoc]
            refine ite_ext (fun h49 => ?_) (fun h49 => ?_)
            · simp -implicitDefEqProofs only [push_cast, hty, heq, h0, Proofs.Try.f88, g88_128, g88_129, g88_18, seval, F88_s1, h1, h41, h42, h43, h45, h46, h47, h48, h49]
            · simp -implicitDefEqProofs only [push_cast, hty, heq, h0, Proofs.Try.f88, g88_128, g88_129, g88_18, seval, F88_s1, h1, h41, h42, h43, h45, h46, h47, h48, h49]
        · simp -implicitDefEqProofs only [push_cast, hty, heq, h0, Proofs.Try.f88, g88_128, g88_129, g88_18, seval, F88_s1, h1, h41, h42, h43, h45, h46, h47]
      · try simp -implicitDefEqProofs only [push_cast, hty, heq, h0, Proofs.Try.f88, g88_128, g88_129, g88_18, seval, F88_s1, h1, h41, h42]
        try simp only [bindO_assoc]
        refine ite_ext (fun h50 => ?_) (fun h50 => ?_)
        · try simp -implicitDefEqProofs only [push_cast, hty, heq, h0, Proofs.Try.f88, g88_128, g88_129, g88_18, seval, F88_s1, h1, h41, h42, h50]
          try simp only [bindO_assoc]
          refine at_sl (c := Mono.cells) fun x5 h51 h52 h53 h54 => ?_
          try simp only [Int.reduceToNat, Int.toNat_natCast] at h53 h54
          try simp -implicitDefEqProofs only [push_cast, hty, heq, h0, Proofs.Try.f88, g88_128, g88_129, g88_18, seval, F88_s1, h1, h41, h42, h50, h51, h53, h54]
          try simp only [bindO_assoc]
          refine bindO_ext fun r6 => ?_
          try simp -implicitDefEqProofs only [push_cast, hty, heq, h0, Proofs.Try.f88, g88_128, g88_129, g88_18, seval, F88_s1, h1, h41, h42, h50, h51, h53, h54]
          try simp only [bindO_assoc]
          refine bindO_ext fun r7 => ?_
          try simp -implicitDefEqProofs only [push_cast, hty, heq, h0, Proofs.Try.f88, g88_128, g88_129, g88_18, seval, F88_s1, h1, h41, h42, h50, h51, h53, h54]
          try simp only [bindO_assoc]
          refine iten_ext (fun h55 => ?_) (fun h55 => ?_)
          · try simp -implicitDefEqProofs only [push_cast, hty, heq, h0, Proofs.Try.f88, g88_128, g88_129, g88_18, seval, F88_s1, h1, h41, h42, h50, h51, h53, h54, h55]
            try simp only [bindO_assoc]
            refine iten_ext (fun h56 => ?_) (fun h56 => ?_)
            · simp -implicitDefEqProofs only [push_cast, hty, heq, h0, Proofs.Try.f88, g88_128, g88_129, g88_18, seval, F88_s1, h1, h41, h42, h50, h51, h53, h54, h55, h56]
            · try simp -implicitDefEqProofs only [push_cast, hty, heq, h0, Proofs.Try.f88, g88_128, g88_129, g88_18, seval, F88_s1, h1, h41, h42, h50, h51, h53, h54, h55, h56]
              try simp only [bindO_assoc]
              refine ite_ext (fun h57 => ?_) (fun h57 => ?_)
              · simp -implicitDefEqProofs only [push_cast, hty, heq, h0, Proofs.Try.f88, g88_128, g88_129, g88_18, seval, F88_s1, h1, h41, h42, h50, h51, h53, h54, h55, h56, h57]
              · simp -implicitDefEqProofs only [push_cast, hty, heq, h0, Proofs.Try.f88, g88_128, g88_129, g88_18, seval, F88_s1, h1, h41, h42, h50, h51, h53, h54, h55, h56, h57]
          · simp -implicitDefEqProofs only [push_cast, hty, heq, h0, Proofs.Try.f88, g88_128, g88_129, g88_18, seval, F88_s1, h1, h41, h42, h50, h51, h53, h54, h55]
        · try simp -implicitDefEqProofs only [push_cast, hty, heq, h0, Proofs.Try.f88, g88_128, g88_129, g88_18, seval, F88_s1, h1, h41, h42, h50]
          try simp only [bindO_assoc]
          refine at_sl (c := Mono.cells) fun x8 h58 h59 h60 h61 => ?_
          try simp only [Int.reduceToNat, Int.toNat_natCast] at h60 h61
          try simp -implicitDefEqProofs only [push_cast, hty, heq, h0, Proofs.Try.f88, g88_128, g88_129, g88_18, seval, F88_s1, h1, h41, h42, h50, h58, h60, h61]
          try simp only [bindO_assoc]
          refine at_sl (c := Mono.cells) fun x9 h62 h63 h64 h65 => ?_
          try simp only [Int.reduceToNat, Int.toNat_natCast] at h64 h65
          try simp -implicitDefEqProofs only [push_cast, hty, heq, h0, Proofs.Try.f88, g88_128, g88_129, g88_18, seval, F88_s1, h1, h41, h42, h50, h58, h60, h61, h62, h64, h65]
          try simp only [bindO_assoc]
          refine bindO_ext fun r10 => ?_
          try simp -implicitDefEqProofs only [push_cast, hty, heq, h0, Proofs.Try.f88, g88_128, g88_129, g88_18, seval, F88_s1, h1, h41, h42, h50, h58, h60, h61, h62, h64, h65]
          try simp only [bindO_assoc]
          refine ite_ext (fun h66 => ?_) (fun h66 => ?_)
          · try simp -implicitDefEqProofs only [push_cast, hty, heq, h0, Proofs.Try.f88, g88_128, g88_129, g88_18, seval, F88_s1, h1, h41, h42, h50, h58, h60, h61, h62, h64, h65, h66]
            try simp only [bindO_assoc]
            refine bindO_ext fun r11 => ?_
            try simp -implicitDefEqProofs only [push_cast, hty, heq, h0, Proofs.Try.f88, g88_128, g88_129, g88_18, seval, F88_s1, h1, h41, h42, h50, h58, h60, h61, h62, h64, h65, h66]
            try simp only [bindO_assoc]
            refine ite_ext (fun h67 => ?_) (fun h67 => ?_)
            · try simp -implicitDefEqProofs only [push_cast, hty, heq, h0, Proofs.Try.f88, g88_128, g88_129, g88_18, seval, F88_s1, h1, h41, h42, h50, h58, h60, h61, h62, h64, h65, h66, h67]
              try simp only [bindO_assoc]
              refine bindO_ext fun r12 => ?_
              try simp -implicitDefEqProofs only [push_cast, hty, heq, h0, Proofs.Try.f88, g88_128, g88_129, g88_18, seval, F88_s1, h1, h41, h42, h50, h58, h60, h61, h62, h64, h65, h66, h67]
              try simp only [bindO_assoc]
              refine bindO_ext fun r13 => ?_
              try simp -implicitDefEqProofs only [push_cast, hty, heq, h0, Proofs.Try.f88, g88_128, g88_129, g88_18, seval, F88_s1, h1, h41, h42, h50, h58, h60, h61, h62, h64, h65, h66, h67]
              try simp only [bindO_assoc]
              refine iten_ext (fun h68 => ?_) (fun h68 => ?_)
              · try simp -implicitDefEqProofs only [push_cast, hty, heq, h0, Proofs.Try.f88, g88_128, g88_129, g88_18, seval, F88_s1, h1, h41, h42, h50, h58, h60, h61, h62, h64, h65, h66, h67, h68]
                try simp only [bindO_assoc]
                refine iten_ext (fun h69 => ?_) (fun h69 => ?_)
                · simp -implicitDefEqProofs only [push_cast, hty, heq, h0, Proofs.Try.f88, g88_128, g88_129, g88_18, seval, F88_s1, h1, h41, h42, h50, h58, h60, h61, h62, h64, h65, h66, h67, h68, h69]
                · try simp -implicitDefEqProofs only [push_cast, hty, heq, h0, Proofs.Try.f88, g88_128, g88_129, g88_18, seval, F88_s1, h1, h41, h42, h50, h58, h60, h61, h62, h64, h65, h66, h67, h68, h69]
                  try simp only [bindO_assoc]
                  refine ite_ext (fun h70 => ?_) (fun h70 => ?_)
                  · simp -implicitDefEqProofs only [push_cast, hty, heq, h0, Proofs.Try.f88, g88_128, g88_129, g88_18, seval, F88_s1, h1, h41, h42, h50, h58, h60, h61, h62, h64, h65, h66, h67, h68, h69, h70]
                  · simp -implicitDefEqProofs only [push_cast, hty, heq, h0, Proofs.Try.f88, g88_128, g88_129, g88_18, seval, F88_s1, h1, h41, h42, h50, h58, h60, h61, h62, h64, h65, h66, h67, h68, h69, h70]
              · simp -implicitDefEqProofs only [push_cast, hty, heq, h0, Proofs.Try.f88, g88_128, g88_129, g88_18, seval, F88_s1, h1, h41, h42, h50, h58, h60, h61, h62, h64, h65, h66, h67, h68]
            · try simp -implicitDefEqProofs only [push_cast, hty, heq, h0, Proofs.Try.f88, g88_128, g88_129, g88_18, seval, F88_s1, h1, h41, h42, h50, h58, h60, h61, h62, h64, h65, h66, h67]
              try simp only [bindO_assoc]
              refine bindO_ext fun r14 => ?_
              try simp -implicitDefEqProofs only [push_cast, hty, heq, h0, Proofs.Try.f88, g88_128, g88_129, g88_18, seval, F88_s1, h1, h41, h42, h50, h58, h60, h61, h62, h64, h65, h66, h67]
              try simp only [bindO_assoc]
              refine iten_ext (fun h71 => ?_) (fun h71 => ?_)
              · try simp -implicitDefEqProofs only [push_cast, hty, heq, h0, Proofs.Try.f88, g88_128, g88_129, g88_18, seval, F88_s1, h1, h41, h42, h50, h58, h60, h61, h62, h64, h65, h66, h67, h71]
                try simp only [bindO_assoc]
                refine iten_ext (fun h72 => ?_) (fun h72 => ?_)
                · simp -implicitDefEqProofs only [push_cast, hty, heq, h0, Proofs.Try.f88, g88_128, g88_129, g88_18, seval, F88_s1, h1, h41, h42, h50, h58, h60, h61, h62, h64, h65, h66, h67, h71, h72]
                · try simp -implicitDefEqProofs only [push_cast, hty, heq, h0, Proofs.Try.f88, g88_128, g88_129, g88_18, seval, F88_s1, h1, h41, h42, h50, h58, h60, h61, h62, h64, h65, h66, h67, h71, h72]
                  try simp only [bindO_assoc]
                  refine ite_ext (fun h73 => ?_) (fun h73 => ?_)
                  · simp -implicitDefEqProofs only [push_cast, hty, heq, h0, Proofs.Try.f88, g88_128, g88_129, g88_18, seval, F88_s1, h1, h41, h42, h50, h58, h60, h61, h62, h64, h65, h66, h67, h71, h72, h73]
                  · simp -implicitDefEqProofs only [push_cast, hty, heq, h0, Proofs.Try.f88, g88_128, g88_129, g88_18, seval, F88_s1, h1, h41, h42, h50, h58, h60, h61, h62, h64, h65, h66, h67, h71, h72, h73]
              · simp -implicitDefEqProofs only [push_cast, hty, heq, h0, Proofs.Try.f88, g88_128, g88_129, g88_18, seval, F88_s1, h1, h41, h42, h50, h58, h60, h61, h62, h64, h65, h66, h67, h71]
          · try simp -implicitDefEqProofs only [push_cast, hty, heq, h0, Proofs.Try.f88, g88_128, g88_129, g88_18, seval, F88_s1, h1, h41, h42, h50, h58, h60, h61, h62, h64, h65, h66]
            try simp only [bindO_assoc]
            refine ite_ext (fun h74 => ?_) (fun h74 => ?_)
            · try simp -implicitDefEqProofs only [push_cast, hty, heq, h0, Proofs.Try.f88, g88_128, g88_129, g88_18, seval, F88_s1, h1, h41, h42, h50, h58, h60, h61, h62, h64, h65, h66, h74]
              try simp only [bindO_assoc]
              refine bindO_ext fun r15 => ?_
              try simp -implicitDefEqProofs only [push_cast, hty, heq, h0, Proofs.Try.f88, g88_128, g88_129, g88_18, seval, F88_s1, h1, h41, h42, h50, h58, h60, h61, h62, h64, h65, h66, h74]
              try simp only [bindO_assoc]
              refine bindO_ext fun r16 => ?_
              try simp -implicitDefEqProofs only [push_cast, hty, heq, h0, Proofs.Try.f88, g88_128, g88_129, g88_18, seval, F88_s1, h1, h41, h42, h50, h58, h60, h61, h62, h64, h65, h66, h74]
              try simp only [bindO_assoc]
              refine iten_ext (fun h75 => ?_) (fun h75 => ?_)
              · try simp -implicitDefEqProofs only [push_cast, hty, heq, h0, Proofs.Try.f88, g88_128, g88_129, g88_18, seval, F88_s1, h1, h41, h42, h50, h58, h60, h61, h62, h64, h65, h66, h74, h75]
                try simp only [bindO_assoc]
                refine iten_ext (fun h76 => ?_) (fun h76 => ?_)
                · simp -implicitDefEqProofs only [push_cast, hty, heq, h0, Proofs.Try.f88, g88_128, g88_129, g88_18, seval, F88_s1, h1, h41, h42, h50, h58, h60, h61, h62, h64, h65, h66, h74, h75, h76]
                · try simp -implicitDefEqProofs only [push_cast, hty, heq, h0, Proofs.Try.f88, g88_128, g88_129, g88_18, seval, F88_s1, h1, h41, h42, h50, h58, h60, h61, h62, h64, h65, h66, h74, h75, h76]
                  try simp only [bindO_assoc]
                  refine ite_ext (fun h77 => ?_) (fun h77 => ?_)
                  · simp -implicitDefEqProofs only [push_cast, hty, heq, h0, Proofs.Try.f88, g88_128, g88_129, g88_18, seval, F88_s1, h1, h41, h42, h50, h58, h60, h61, h62, h64, h65, h66, h74, h75, h76, h77]
                  · simp -implicitDefEqProofs only [push_cast, hty, heq, h0, Proofs.Try.f88, g88_128, g88_129, g88_18, seval, F88_s1, h1, h41, h42, h50, h58, h60, h61, h62, h64, h65, h66, h74, h75, h76, h77]
              · simp -implicitDefEqProofs only [push_cast, hty, heq, h0, Proofs.Try.f88, g88_128, g88_129, g88_18, seval, F88_s1, h1, h41, h42, h50, h58, h60, h61, h62, h64, h65, h66, h74, h75]
            · try simp -implicitDefEqProofs only [push_cast, hty, heq, h0, Proofs.Try.f88, g88_128, g88_129, g88_18, seval, F88_s1, h1, h41, h42, h50, h58, h60, h61, h62, h64, h65, h66, h74]
              try simp only [bindO_assoc]
              refine bindO_ext fun r17 => ?_
              try simp -implicitDefEqProofs only [push_cast, hty, heq, h0, Proofs.Try.f88, g88_128, g88_129, g88_18, seval, F88_s1, h1, h41, h42, h50, h58, h60, h61, h62, h64, h65, h66, h74]
              try simp only [bindO_assoc]
              refine iten_ext (fun h78 => ?_) (fun h78 => ?_)
              · try simp -implicitDefEqProofs only [push_cast, hty, heq, h0, Proofs.Try.f88, g88_128, g88_129, g88_18, seval, F88_s1, h1, h41, h42, h50, h58, h60, h61, h62, h64, h65, h66, h74, h78]
                try simp only [bindO_assoc]
                refine iten_ext (fun h79 => ?_) (fun h79 => ?_)
                · simp -implicitDefEqProofs only [push_cast, hty, heq, h0, Proofs.Try.f88, g88_128, g88_129, g88_18, seval, F88_s1, h1, h41, h42, h50, h58, h60, h61, h62, h64, h65, h66, h74, h78, h79]
                · try simp -implicitDefEqProofs only [push_cast, hty, heq, h0, Proofs.Try.f88, g88_128, g88_129, g88_18, seval, F88_s1, h1, h41, h42, h50, h58, h60, h61, h62, h64, h65, h66, h74, h78, h79]
                  try simp only [bindO_assoc]
                  refine ite_ext (fun h80 => ?_) (fun h80 => ?_)
                  · simp -implicitDefEqProofs only [push_cast, hty, heq, h0, Proofs.Try.f88, g88_128, g88_129, g88_18, seval, F88_s1, h1, h41, h42, h50, h58, h60, h61, h62, h64, h65, h66, h74, h78, h79, h80]
                  · simp -implicitDefEqProofs only [push_cast, hty, heq, h0, Proofs.Try.f88, g88_128, g88_129, g88_18, seval, F88_s1, h1, h41, h42, h50, h58, h60, h61, h62, h64, h65, h66, h74, h78, h79, h80]
              · simp -implicitDefEqProofs only [push_cast, hty, heq, h0, Proofs.Try.f88, g88_128, g88_129, g88_18, seval, F88_s1, h1, h41, h42, h50, h58, h60, h61, h62, h64, h65, h66, h74, h78]
    · try simp -implicitDefEqProofs only [push_cast, hty, heq, h0, Proofs.Try.f88, g88_128, g88_129, g88_18, seval, F88_s1, h1, h41]
      try simp only [bindO_assoc]
      refine bindO_ext fun r18 => ?_
      try simp -implicitDefEqProofs only [push_cast, hty, heq, h0, Proofs.Try.f88, g88_128, g88_129, g88_18, seval, F88_s1, h1, h41]
      try simp only [bindO_assoc]
      refine bindO_ext fun r19 => ?_
      try simp -implicitDefEqProofs only [push_cast, hty, heq, h0, Proofs.Try.f88, g88_128, g88_129, g88_18, seval, F88_s1, h1, h41]
      try simp only [bindO_assoc]
      refine bindO_ext fun r20 => ?_
      simp -implicitDefEqProofs only [push_cast, hty, heq, h0, Proofs.Try.f88, g88_128, g88_129, g88_18, seval, F88_s1, h1, h41]
end Go.Abs.Try
