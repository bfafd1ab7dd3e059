import Derived.Test.YtjjajifecniidaaQD
namespace Go.Abs.Try
open Go.RowKit
set_option linter.unusedSimpArgs false
set_option linter.unusedVariables false
set_option maxRecDepth 100000
set_option maxHeartbeats 4000000
attribute [local push_cast] ty2 ty3 ty9 ty22 ty24 ty34 ty41 ty43 ty52
theorem ev85 {E : Env} {E124 : Nat → Env} {N : Nat} (hB : N ≤ 4611686018427387904) (self85 : Node → Option (Lin × Bool)) (hty : E.ty = tys) (heq : E.eqt = eqts) (h0 : E.n0 = 0) (g85_112 : ∀ vs σ, E.tab 112 vs σ = plain (t112) vs σ) (g85_124 : ∀ vs σ, E.tab 124 vs σ = inl E124 Proofs.Try.f124 H124 N vs σ) (g85_85 : ∀ vs σ, E.tab 85 vs σ = plain (ts85 self85) vs σ) (g85_88 : ∀ vs σ, E.tab 88 vs σ = plain (t88 N) vs σ) (hty124 : ∀ n, (E124 n).ty = tys) (heq124 : ∀ n, (E124 n).eqt = eqts) (h0124 : ∀ n, (E124 n).n0 = n) (g124_85 : ∀ n vs σ, (E124 n).tab 85 vs σ = plain (ts85 self85) vs σ) (g124_88 : ∀ n vs σ, (E124 n).tab 88 vs σ = plain (t88 N) vs σ) (n : Node) :
    bindO (aPure E Proofs.Try.f85 H85 N [.agg (Node.cells n)]) (cv sh85) = bindO (F85b self85 N n) fun r => some (v85 r) := by
  unfold F85b
  rw [r_pure]
  unfold sh85
  try simp -implicitDefEqProofs only [push_cast, hty, heq, h0, Proofs.Try.f85, g85_112, g85_124, g85_85, g85_88, g124_85, g124_88, hty124, heq124, h0124, Proofs.Try.f124, seval]
  try simp only [bindO_assoc]
  refine ite_ext (fun h1 => ?_) (fun h1 => ?_)
  · try simp -implicitDefEqProofs only [push_cast, hty, heq, h0, Proofs.Try.f85, g85_112, g85_124, g85_85, g85_88, g124_85, g124_88, hty124, heq124, h0124, Proofs.Try.f124, seval, h1]
    try simp only [bindO_assoc]
    refine bindO_ext fun r1 => ?_
    simp -implicitDefEqProofs only [push_cast, hty, heq, h0, Proofs.Try.f85, g85_112, g85_124, g85_85, g85_88, g124_85, g124_88, hty124, heq124, h0124, Proofs.Try.f124, seval, h1]
  · try simp -implicitDefEqProofs only [push_cast, hty, heq, h0, Proofs.Try.f85, g85_112, g85_124, g85_85, g85_88, g124_85, g124_88, hty124, heq124, h0124, Proofs.Try.f124, seval, h1]
    try simp only [bindO_assoc]
    refine ite_ext (fun h2 => ?_) (fun h2 => ?_)
    · try simp -implicitDefEqProofs only [push_cast, hty, heq, h0, Proofs.Try.f85, g85_112, g85_124, g85_85, g85_88, g124_85, g124_88, hty124, heq124, h0124, Proofs.Try.f124, seval, h1, h2]
      try simp only [bindO_assoc]
      refine at_sl (c := Node.cells) fun x2 h3 h4 h5 h6 => ?_
      try simp only [Int.reduceToNat, Int.toNat_natCast] at h5 h6
      try simp -implicitDefEqProofs only [push_cast, hty, heq, h0, Proofs.Try.f85, g85_112, g85_124, g85_85, g85_88, g124_85, g124_88, hty124, heq124, h0124, Proofs.Try.f124, seval, h1, h2, h3, h5, h6]
      try simp only [bindO_assoc]
      refine bindO_ext fun r3 => ?_
      try simp -implicitDefEqProofs only [push_cast, hty, heq, h0, Proofs.Try.f85, g85_112, g85_124, g85_85, g85_88, g124_85, g124_88, hty124, heq124, h0124, Proofs.Try.f124, seval, h1, h2, h3, h5, h6]
      try simp only [bindO_assoc]
      refine iten_ext (fun h7 => ?_) (fun h7 => ?_)
      · try simp -implicitDefEqProofs only [push_cast, hty, heq, h0, Proofs.Try.f85, g85_112, g85_124, g85_85, g85_88, g124_85, g124_88, hty124, heq124, h0124, Proofs.Try.f124, seval, h1, h2, h3, h5, h6, h7]
        try simp only [bindO_assoc]
        refine bindO_ext fun r4 => ?_
        simp -implicitDefEqProofs only [push_cast, hty, heq, h0, Proofs.Try.f85, g85_112, g85_124, g85_85, g85_88, g124_85, g124_88, hty124, heq124, h0124, Proofs.Try.f124, seval, h1, h2, h3, h5, h6, h7]
      · simp -implicitDefEqProofs only [push_cast, hty, heq, h0, Proofs.Try.f85, g85_112, g85_124, g85_85, g85_88, g124_85, g124_88, hty124, heq124, h0124, Proofs.Try.f124, seval, h1, h2, h3, h5, h6, h7]
    · try simp -implicitDefEqProofs only [push_cast, hty, heq, h0, Proofs.Try.f85, g85_112, g85_124, g85_85, g85_88, g124_85, g124_88, hty124, heq124, h0124, Proofs.Try.f124, seval, h1, h2]
      try simp only [bindO_assoc]
      refine ite_ext (fun h8 => ?_) (fun h8 => ?_)
      · try simp -implicitDefEqProofs only [push_cast, hty, heq, h0, Proofs.Try.f85, g85_112, g85_124, g85_85, g85_88, g124_85, g124_88, hty124, heq124, h0124, Proofs.Try.f124, seval, h1, h2, h8]
        try simp only [bindO_assoc]
        refine at_sl (c := Node.cells) fun x5 h9 h10 h11 h12 => ?_
        try simp only [Int.reduceToNat, Int.toNat_natCast] at h11 h12
        try simp -implicitDefEqProofs only [push_cast, hty, heq, h0, Proofs.Try.f85, g85_112, g85_124, g85_85, g85_88, g124_85, g124_88, hty124, heq124, h0124, Proofs.Try.f124, seval, h1, h2, h8, h9, h11, h12]
        try simp only [bindO_assoc]
        refine bindO_ext fun r6 => ?_
        try simp -implicitDefEqProofs only [push_cast, hty, heq, h0, Proofs.Try.f85, g85_112, g85_124, g85_85, g85_88, g124_85, g124_88, hty124, heq124, h0124, Proofs.Try.f124, seval, h1, h2, h8, h9, h11, h12]
        try simp only [bindO_assoc]
        refine iten_ext (fun h13 => ?_) (fun h13 => ?_)
        · try simp -implicitDefEqProofs only [push_cast, hty, heq, h0, Proofs.Try.f85, g85_112, g85_124, g85_85, g85_88, g124_85, g124_88, hty124, heq124, h0124, Proofs.Try.f124, seval, h1, h2, h8, h9, h11, h12, h13]
          try simp only [bindO_assoc]
          refine bindO_ext fun r7 => ?_
          simp -implicitDefEqProofs only [push_cast, hty, heq, h0, Proofs.Try.f85, g85_112, g85_124, g85_85, g85_88, g124_85, g124_88, hty124, heq124, h0124, Proofs.Try.f124, seval, h1, h2, h8, h9, h11, h12, h13]
        · simp -implicitDefEqProofs only [push_cast, hty, heq, h0, Proofs.Try.f85, g85_112, g85_124, g85_85, g85_88, g124_85, g124_88, hty124, heq124, h0124, Proofs.Try.f124, seval, h1, h2, h8, h9, h11, h12, h13]
      · try simp -implicitDefEqProofs only [push_cast, hty, heq, h0, Proofs.Try.f85, g85_112, g85_124, g85_85, g85_88, g124_85, g124_88, hty124, heq124, h0124, Proofs.Try.f124, seval, h1, h2, h8]
        try simp only [bindO_assoc]
        refine ite_ext (fun h14 => ?_) (fun h14 => ?_)
        · try simp -implicitDefEqProofs only [push_cast, hty, heq, h0, Proofs.Try.f85, g85_112, g85_124, g85_85, g85_88, g124_85, g124_88, hty124, heq124, h0124, Proofs.Try.f124, seval, h1, h2, h8, h14]
          try simp only [bindO_assoc]
          refine at_sl (c := Node.cells) fun x8 h15 h16 h17 h18 => ?_
          try simp only [Int.reduceToNat, Int.toNat_natCast] at h17 h18
          try simp -implicitDefEqProofs only [push_cast, hty, heq, h0, Proofs.Try.f85, g85_112, g85_124, g85_85, g85_88, g124_85, g124_88, hty124, heq124, h0124, Proofs.Try.f124, seval, h1, h2, h8, h14, h15, h17, h18]
          try simp only [bindO_assoc]
          refine bindO_ext fun r9 => ?_
          try simp -implicitDefEqProofs only [push_cast, hty, heq, h0, Proofs.Try.f85, g85_112, g85_124, g85_85, g85_88, g124_85, g124_88, hty124, heq124, h0124, Proofs.Try.f124, seval, h1, h2, h8, h14, h15, h17, h18]
          try simp only [bindO_assoc]
          refine at_sl (c := Node.cells) fun x10 h19 h20 h21 h22 => ?_
          try simp only [Int.reduceToNat, Int.toNat_natCast] at h21 h22
          try simp -implicitDefEqProofs only [push_cast, hty, heq, h0, Proofs.Try.f85, g85_112, g85_124, g85_85, g85_88, g124_85, g124_88, hty124, heq124, h0124, Proofs.Try.f124, seval, h1, h2, h8, h14, h15, h17, h18, h19, h21, h22]
          try simp only [bindO_assoc]
          refine bindO_ext fun r11 => ?_
          try simp -implicitDefEqProofs only [push_cast, hty, heq, h0, Proofs.Try.f85, g85_112, g85_124, g85_85, g85_88, g124_85, g124_88, hty124, heq124, h0124, Proofs.Try.f124, seval, h1, h2, h8, h14, h15, h17, h18, h19, h21, h22]
          try simp only [bindO_assoc]
          refine ite_ext (fun h23 => ?_) (fun h23 => ?_)
          · try simp -implicitDefEqProofs only [push_cast, hty, heq, h0, Proofs.Try.f85, g85_112, g85_124, g85_85, g85_88, g124_85, g124_88, hty124, heq124, h0124, Proofs.Try.f124, seval, h1, h2, h8, h14, h15, h17, h18, h19, h21, h22, h23]
            try simp only [bindO_assoc]
            refine iten_ext (fun h24 => ?_) (fun h24 => ?_)
            · try simp -implicitDefEqProofs only [push_cast, hty, heq, h0, Proofs.Try.f85, g85_112, g85_124, g85_85, g85_88, g124_85, g124_88, hty124, heq124, h0124, Proofs.Try.f124, seval, h1, h2, h8, h14, h15, h17, h18, h19, h21, h22, h23, h24]
              try simp only [bindO_assoc]
              refine ite_ext (fun h25 => ?_) (fun h25 => ?_)
              · try simp -implicitDefEqProofs only [push_cast, hty, heq, h0, Proofs.Try.f85, g85_112, g85_124, g85_85, g85_88, g124_85, g124_88, hty124, heq124, h0124, Proofs.Try.f124, seval, h1, h2, h8, h14, h15, h17, h18, h19, h21, h22, h23, h24, h25]
                try simp only [bindO_assoc]
                refine bindO_ext fun r12 => ?_
                simp -implicitDefEqProofs only [push_cast, hty, heq, h0, Proofs.Try.f85, g85_112, g85_124, g85_85, g85_88, g124_85, g124_88, hty124, heq124, h0124, Proofs.Try.f124, seval, h1, h2, h8, h14, h15, h17, h18, h19, h21, h22, h23, h24, h25]
              · try simp -implicitDefEqProofs only [push_cast, hty, heq, h0, Proofs.Try.f85, g85_112, g85_124, g85_85, g85_88, g124_85, g124_88, hty124, heq124, h0124, Proofs.Try.f124, seval, h1, h2, h8, h14, h15, h17, h18, h19, h21, h22, h23, h24, h25]
                try simp only [bindO_assoc]
                refine bindO_ext fun r13 => ?_
                simp -implicitDefEqProofs only [push_cast, hty, heq, h0, Proofs.Try.f85, g85_112, g85_124, g85_85, g85_88, g124_85, g124_88, hty124, heq124, h0124, Proofs.Try.f124, seval, h1, h2, h8, h14, h15, h17, h18, h19, h21, h22, h23, h24, h25]
            · simp -implicitDefEqProofs only [push_cast, hty, heq, h0, Proofs.Try.f85, g85_112, g85_124, g85_85, g85_88, g124_85, g124_88, hty124, heq124, h0124, Proofs.Try.f124, seval, h1, h2, h8, h14, h15, h17, h18, h19, h21, h22, h23, h24]
          · simp -implicitDefEqProofs only [push_cast, hty, heq, h0, Proofs.Try.f85, g85_112, g85_124, g85_85, g85_88, g124_85, g124_88, hty124, heq124, h0124, Proofs.Try.f124, seval, h1, h2, h8, h14, h15, h17, h18, h19, h21, h22, h23]
        · try simp -implicitDefEqProofs only [push_cast, hty, heq, h0, Proofs.Try.f85, g85_112, g85_124, g85_85, g85_88, g124_85, g124_88, hty124, heq124, h0124, Proofs.Try.f124, seval, h1, h2, h8, h14]
          try simp only [bindO_assoc]
          refine ite_ext (fun h26 => ?_) (fun h26 => ?_)
          · try simp -implicitDefEqProofs only [push_cast, hty, heq, h0, Proofs.Try.f85, g85_112, g85_124, g85_85, g85_88, g124_85, g124_88, hty124, heq124, h0124, Proofs.Try.f124, seval, h1, h2, h8, h14, h26]
            try simp only [bindO_assoc]
            refine at_sl (c := Node.cells) fun x14 h27 h28 h29 h30 => ?_
            try simp only [Int.reduceToNat, Int.toNat_natCast] at h29 h30
            try simp -implicitDefEqProofs only [push_cast, hty, heq, h0, Proofs.Try.f85, g85_112, g85_124, g85_85, g85_88, g124_85, g124_88, hty124, heq124, h0124, Proofs.Try.f124, seval, h1, h2, h8, h14, h26, h27, h29, h30]
            try simp only [bindO_assoc]
            refine bindO_ext fun r15 => ?_
            try simp -implicitDefEqProofs only [push_cast, hty, heq, h0, Proofs.Try.f85, g85_112, g85_124, g85_85, g85_88, g124_85, g124_88, hty124, heq124, h0124, Proofs.Try.f124, seval, h1, h2, h8, h14, h26, h27, h29, h30]
            try simp only [bindO_assoc]
            refine at_sl (c := Node.cells) fun x16 h31 h32 h33 h34 => ?_
            try simp only [Int.reduceToNat, Int.toNat_natCast] at h33 h34
            try simp -implicitDefEqProofs only [push_cast, hty, heq, h0, Proofs.Try.f85, g85_112, g85_124, g85_85, g85_88, g124_85, g124_88, hty124, heq124, h0124, Proofs.Try.f124, seval, h1, h2, h8, h14, h26, h27, h29, h30, h31, h33, h34]
            try simp only [bindO_assoc]
            refine bindO_ext fun r17 => ?_
            try simp -implicitDefEqProofs only [push_cast, hty, heq, h0, Proofs.Try.f85, g85_112, g85_124, g85_85, g85_88, g124_85, g124_88, hty124, heq124, h0124, Proofs.Try.f124, seval, h1, h2, h8, h14, h26, h27, h29, h30, h31, h33, h34]
            try simp only [bindO_assoc]
            refine ite_ext (fun h35 => ?_) (fun h35 => ?_)
            · try simp -implicitDefEqProofs only [push_cast, hty, heq, h0, Proofs.Try.f85, g85_112, g85_124, g85_85, g85_88, g124_85, g124_88, hty124, heq124, h0124, Proofs.Try.f124, seval, h1, h2, h8, h14, h26, h27, h29, h30, h31, h33, h34, h35]
              try simp only [bindO_assoc]
              refine iten_ext (fun h36 => ?_) (fun h36 => ?_)
              · try simp -implicitDefEqProofs only [push_cast, hty, heq, h0, Proofs.Try.f85, g85_112, g85_124, g85_85, g85_88, g124_85, g124_88, hty124, heq124, h0124, Proofs.Try.f124, seval, h1, h2, h8, h14, h26, h27, h29, h30, h31, h33, h34, h35, h36]
                try simp only [bindO_assoc]
                refine bindO_ext fun r18 => ?_
                simp -implicitDefEqProofs only [push_cast, hty, heq, h0, Proofs.Try.f85, g85_112, g85_124, g85_85, g85_88, g124_85, g124_88, hty124, heq124, h0124, Proofs.Try.f124, seval, h1, h2, h8, h14, h26, h27, h29, h30, h31, h33, h34, h35, h36]
              · simp -implicitDefEqProofs only [push_cast, hty, heq, h0, Proofs.Try.f85, g85_112, g85_124, g85_85, g85_88, g124_85, g124_88, hty124, heq124, h0124, Proofs.Try.f124, seval, h1, h2, h8, h14, h26, h27, h29, h30, h31, h33, h34, h35, h36]
            · simp -implicitDefEqProofs only [push_cast, hty, heq, h0, Proofs.Try.f85, g85_112, g85_124, g85_85, g85_88, g124_85, g124_88, hty124, heq124, h0124, Proofs.Try.f124, seval, h1, h2, h8, h14, h26, h27, h29, h30, h31, h33, h34, h35]
          · simp -implicitDefEqProofs only [push_cast, hty, heq, h0, Proofs.Try.f85, g85_112, g85_124, g85_85, g85_88, g124_85, g124_88, hty124, heq124, h0124, Proofs.Try.f124, seval, h1, h2, h8, h14, h26]
theorem ev82 {E : Env} {N : Nat} (hB : N ≤ 4611686018427387904) (self82 : Node → Option (Node)) (hty : E.ty = tys) (heq : E.eqt = eqts) (h0 : E.n0 = 0) (g82_123 : ∀ vs σ, E.tab 123 vs σ = cloneT 5 64 vs σ) (g82_82 : ∀ vs σ, E.tab 82 vs σ = plain (ts82 self82) vs σ) (n : Node) :
    bindO (aPure E Proofs.Try.f82 H82 N [.agg (Node.cells n)]) (cv sh82) = bindO (F82b self82 N n) fun r => some (v82 r) := by
  unfold F82b
  rw [r_pure]
  unfold sh82
  try simp -implicitDefEqProofs only [push_cast, hty, heq, h0, Proofs.Try.f82, g82_123, g82_82, seval]
  try simp only [bindO_assoc]
  refine ite_ext (fun h1 => ?_) (fun h1 => ?_)
  · try simp -implicitDefEqProofs only [push_cast, hty, heq, h0, Proofs.Try.f82, g82_123, g82_82, seval, h1]
    try simp only [bindO_assoc]
    refine fold_loop (S := List Node) (List.range ((n.kids.length : Int)).toNat) (fun (i1 : Nat) (s3 : List Node) => [.top, .ptr 0 0, .ptr 1 0, .top, .top, .top, .top, .top, .top, .top, .rs 2 0, .int .i64 ((n.kids.length : Int)), .int .i64 (i1 : Int), .top, .top, .top, .top, .top, .top, .top, .top, .top, .top, .top, .top]) (fun (_ : Nat) (s3 : List Node) => [.var [.int .i64 n.op, .int .i64 n.sortf, .str n.name, .int .i64 n.num, .rs 2 0], .var [.int .i64 0, .int .i64 0, .str (⟨#[]⟩ : ByteArray), .int .i64 0, .sl true 5 []], .row 5 0 (List.map Node.cells s3)]) n.kids ?_ ?_
    · intro s3 i1 x2 h2 h3 h4
      have h5 := rng_wrap h4 hB
      rw [List.length_range] at h3
      have h6 := cnt_lt h3
      try simp -implicitDefEqProofs only [push_cast, hty, heq, h0, Proofs.Try.f82, g82_123, g82_82, seval, h1, h5, h6, F82_s1]
      try simp only [bindO_assoc]
      refine at_rs (c := Node.cells) fun x4 h9 h10 h11 h12 => ?_
      try simp only [Int.reduceToNat, Int.toNat_natCast] at h11 h12
      try simp -implicitDefEqProofs only [push_cast, hty, heq, h0, Proofs.Try.f82, g82_123, g82_82, seval, h1, h5, h6, F82_s1, h9, h11, h12]
      try simp only [bindO_assoc]
      refine bindO_ext fun r5 => ?_
      simp -implicitDefEqProofs only [push_cast, hty, heq, h0, Proofs.Try.f82, g82_123, g82_82, seval, h1, h5, h6, F82_s1, h9, h11, h12]
    · intro s3
      have h13 := cnt_end (m := ((n.kids.length : Int)))
      try simp only [Int.toNat_natCast] at h13
      simp -implicitDefEqProofs only [push_cast, hty, heq, h0, Proofs.Try.f82, g82_123, g82_82, seval, h1, h13, F82_f1]
  · simp -implicitDefEqProofs only [push_cast, hty, heq, h0, Proofs.Try.f82, g82_123, g82_82, seval, h1]
theorem ev22 {E : Env} {N : Nat} (hB : N ≤ 4611686018427387904) (self22 : Node → (List ByteArray) → (List Node) → Option (Node)) (hty : E.ty = tys) (heq : E.eqt = eqts) (h0 : E.n0 = 0) (g22_82 : ∀ vs σ, E.tab 82 vs σ = plain (t82 N) vs σ) (g22_22 : ∀ vs σ, E.tab 22 vs σ = plain (ts22 self22) vs σ) (n : Node) (names : List ByteArray) (withq : List Node) :
    bindO (aPure E Proofs.Try.f22 H22 N [.agg (Node.cells n), .sl false 1 (List.map cS names), .sl false 5 (List.map Node.cells withq)]) (cv sh22) = bindO (F22b self22 N n names withq) fun r => some (v22 r) := by
  unfold F22b
  rw [r_pure]
  unfold sh22
  try simp -implicitDefEqProofs only [push_cast, hty, heq, h0, Proofs.Try.f22, g22_82, g22_22, seval]
  try simp only [bindO_assoc]
  refine ite_ext (fun h1 => ?_) (fun h1 => ?_)
  · try simp -implicitDefEqProofs only [push_cast, hty, heq, h0, Proofs.Try.f22, g22_82, g22_22, seval, h1]
    try simp only [bindO_assoc]
    refine fold_loop (S := Unit) (List.range (min (names.length : Int) (withq.length : Int)).toNat) (fun (i1 : Nat) (s3 : Unit) => [.top, .sl false 1 (List.map cS names), .sl false 5 (List.map Node.cells withq), .ptr 0 0, .top, .top, .ptr 1 0, .top, .top, .top, .top, .top, .top, .top, .top, .top, .top, .top, .int .i64 (min (names.length : Int) (withq.length : Int)), .int .i64 (i1 : Int), .top, .top, .top, .top, .top, .top, .top, .top, .top, .top, .top, .top, .top, .top, .top, .top, .top, .top, .top, .top, .top, .top, .top, .top, .top, .top, .top, .top, .top, .top, .top, .top, .top, .top, .top, .top, .top]) (fun (_ : Nat) (s3 : Unit) => [.var [.int .i64 n.op, .int .i64 n.sortf, .str n.name, .int .i64 n.num, .sl false 5 (List.map Node.cells n.kids)], .var [.int .i64 0, .int .i64 0, .str (⟨#[]⟩ : ByteArray), .int .i64 0, .sl true 5 []]]) () ?_ ?_
    · intro s3 i1 x2 h2 h3 h4
      have h5 := rng_wrap h4 hB
      rw [List.length_range] at h3
      have h6 := cnt_lt h3
      try simp -implicitDefEqProofs only [push_cast, hty, heq, h0, Proofs.Try.f22, g22_82, g22_22, seval, h1, h5, h6, F22_s1]
      try simp only [bindO_assoc]
      refine at_sl (c := cS) fun x4 h9 h10 h11 h12 => ?_
      try simp only [Int.reduceToNat, Int.toNat_natCast] at h11 h12
      try simp -implicitDefEqProofs only [push_cast, hty, heq, h0, Proofs.Try.f22, g22_82, g22_22, seval, h1, h5, h6, F22_s1, h9, h11, h12]
      try simp only [bindO_assoc]
      refine ite_ext (fun h13 => ?_) (fun h13 => ?_)
      · try simp -implicitDefEqProofs only [push_cast, hty, heq, h0, Proofs.Try.f22, g22_82, g22_22, seval, h1, h5, h6, F22_s1, h9, h11, h12, h13]
        try simp only [bindO_assoc]
        refine at_sl (c := Node.cells) fun x5 h14 h15 h16 h17 => ?_
        try simp only [Int.reduceToNat, Int.toNat_natCast] at h16 h17
        try simp -implicitDefEqProofs only [push_cast, hty, heq, h0, Proofs.Try.f22, g22_82, g22_22, seval, h1, h5, h6, F22_s1, h9, h11, h12, h13, h14, h16, h17]
        try simp only [bindO_assoc]
        refine bindO_ext fun r6 => ?_
        simp -implicitDefEqProofs only [push_cast, hty, heq, h0, Proofs.Try.f22, g22_82, g22_22, seval, h1, h5, h6, F22_s1, h9, h11, h12, h13, h14, h16, h17]
      · simp -implicitDefEqProofs only [push_cast, hty, heq, h0, Proofs.Try.f22, g22_82, g22_22, seval, h1, h5, h6, F22_s1, h9, h11, h12, h13]
    · intro s3
      have h18 := cnt_end (m := min (names.length : Int) (withq.length : Int))
      try simp only [Int.toNat_natCast] at h18
      try simp -implicitDefEqProofs only [push_cast, hty, heq, h0, Proofs.Try.f22, g22_82, g22_22, seval, h1, h18, F22_f1]
      try simp only [bindO_assoc]
      refine ite_ext (fun h19 => ?_) (fun h19 => ?_)
      · try simp -implicitDefEqProofs only [push_cast, hty, heq, h0, Proofs.Try.f22, g22_82, g22_22, seval, h1, h18, F22_f1, h19]
        try simp only [bindO_assoc]
        refine fold_loop (S := List Node) n.kids (fun (i7 : Nat) (s9 : List Node) => [.top, .sl false 1 (List.map cS names), .sl false 5 (List.map Node.cells withq), .ptr 0 0, .top, .top, .ptr 1 0, .top, .rs 2 0, .top, .top, .top, .top, .top, .top, .top, .top, .top, .top, .top, .top, .top, .top, .top, .top, .top, .top, .top, .top, .top, .top, .top, .top, .top, .top, .top, .top, .top, .top, .top, .sl false 5 (List.map Node.cells n.kids), .int .i64 (n.kids.length : Int), .int .i64 (i7 : Int), .top, .top, .top, .top, .top, .top, .top, .top, .top, .top, .top, .top, .top, .top]) (fun (_ : Nat) (s9 : List Node) => [.var [.int .i64 n.op, .int .i64 n.sortf, .str n.name, .int .i64 n.num, .sl false 5 (List.map Node.cells n.kids)], .var [.int .i64 0, .int .i64 0, .str (⟨#[]⟩ : ByteArray), .int .i64 0, .sl true 5 []], .row 5 0 (List.map Node.cells s9)]) ([]) ?_ ?_
        · intro s9 i7 x8 h20 h21 h22
          have h23 := rng_wrap h22 hB
          have h24 := lt_true h21
          have h25 := inB_lt h21
          have h26 := rng_get (c := Node.cells) h20
          have h27 := rng_getq (c := Node.cells) h20
          try simp -implicitDefEqProofs only [push_cast, hty, heq, h0, Proofs.Try.f22, g22_82, g22_22, seval, h1, h18, F22_f1, h19, h23, h24, h25, h26, h27, F22_s2]
          try simp only [bindO_assoc]
          refine bindO_ext fun r10 => ?_
          try simp -implicitDefEqProofs only [push_cast, hty, heq, h0, Proofs.Try.f22, g22_82, g22_22, seval, h1, h18, F22_f1, h19, h23, h24, h25, h26, h27, F22_s2]
          try simp only [bindO_assoc]
          refine ite_ext (fun h28 => ?_) (fun h28 => ?_)
          · simp -implicitDefEqProofs only [push_cast, hty, heq, h0, Proofs.Try.f22, g22_82, g22_22, seval, h1, h18, F22_f1, h19, h23, h24, h25, h26, h27, F22_s2, h28]
          · simp -implicitDefEqProofs only [push_cast, hty, heq, h0, Proofs.Try.f22, g22_82, g22_22, seval, h1, h18, F22_f1, h19, h23, h24, h25, h26, h27, F22_s2, h28]
        · intro s9
          have h29 := lt_self (n := n.kids.length)
          simp -implicitDefEqProofs only [push_cast, hty, heq, h0, Proofs.Try.f22, g22_82, g22_22, seval, h1, h18, F22_f1, h19, h29, F22_f2]
      · simp -implicitDefEqProofs only [push_cast, hty, heq, h0, Proofs.Try.f22, g22_82, g22_22, seval, h1, h18, F22_f1, h19]
  · try simp -implicitDefEqProofs only [push_cast, hty, heq, h0, Proofs.Try.f22, g22_82, g22_22, seval, h1]
    try simp only [bindO_assoc]
    refine ite_ext (fun h30 => ?_) (fun h30 => ?_)
    · try simp -implicitDefEqProofs only [push_cast, hty, heq, h0, Proofs.Try.f22, g22_82, g22_22, seval, h1, h30]
      try simp only [bindO_assoc]
      refine fold_loop (S := List Node) n.kids (fun (i11 : Nat) (s13 : List Node) => [.top, .sl false 1 (List.map cS names), .sl false 5 (List.map Node.cells withq), .ptr 0 0, .top, .top, .ptr 1 0, .top, .rs 2 0, .top, .top, .top, .top, .top, .top, .top, .top, .top, .top, .top, .top, .top, .top, .top, .top, .top, .top, .top, .top, .top, .top, .top, .top, .top, .top, .top, .top, .top, .top, .top, .sl false 5 (List.map Node.cells n.kids), .int .i64 (n.kids.length : Int), .int .i64 (i11 : Int), .top, .top, .top, .top, .top, .top, .top, .top, .top, .top, .top, .top, .top, .top]) (fun (_ : Nat) (s13 : List Node) => [.var [.int .i64 n.op, .int .i64 n.sortf, .str n.name, .int .i64 n.num, .sl false 5 (List.map Node.cells n.kids)], .var [.int .i64 0, .int .i64 0, .str (⟨#[]⟩ : ByteArray), .int .i64 0, .sl true 5 []], .row 5 0 (List.map Node.cells s13)]) ([]) ?_ ?_
      · intro s13 i11 x12 h31 h32 h33
        have h34 := rng_wrap h33 hB
        have h35 := lt_true h32
        have h36 := inB_lt h32
        have h37 := rng_get (c := Node.cells) h31
        have h38 := rng_getq (c := Node.cells) h31
        try simp -implicitDefEqProofs only [push_cast, hty, heq, h0, Proofs.Try.f22, g22_82, g22_22, seval, h1, h30, h34, h35, h36, h37, h38, F22_s3]
        try simp only [bindO_assoc]
        refine bindO_ext fun r14 => ?_
        try simp -implicitDefEqProofs only [push_cast, hty, heq, h0, Proofs.Try.f22, g22_82, g22_22, seval, h1, h30, h34, h35, h36, h37, h38, F22_s3]
        try simp only [bindO_assoc]
        refine ite_ext (fun h39 => ?_) (fun h39 => ?_)
        · simp -implicitDefEqProofs only [push_cast, hty, heq, h0, Proofs.Try.f22, g22_82, g22_22, seval, h1, h30, h34, h35, h36, h37, h38, F22_s3, h39]
        · simp -implicitDefEqProofs only [push_cast, hty, heq, h0, Proofs.Try.f22, g22_82, g22_22, seval, h1, h30, h34, h35, h36, h37, h38, F22_s3, h39]
      · intro s13
        have h40 := lt_self (n := n.kids.length)
        simp -implicitDefEqProofs only [push_cast, hty, heq, h0, Proofs.Try.f22, g22_82, g22_22, seval, h1, h30, h40, F22_f3]
    · simp -implicitDefEqProofs only [push_cast, hty, heq, h0, Proofs.Try.f22, g22_82, g22_22, seval, h1, h30]
end Go.Abs.Try
