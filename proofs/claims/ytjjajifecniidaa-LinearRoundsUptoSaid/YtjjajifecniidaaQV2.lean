import Derived.Test.YtjjajifecniidaaQD
namespace Go.Abs.Try
open Go.RowKit
set_option linter.unusedSimpArgs false
set_option linter.unusedVariables false
set_option maxRecDepth 100000
set_option maxHeartbeats 4000000
attribute [local push_cast] ty3 ty4 ty9 ty22 ty24 ty98 ty117
theorem ev154 {E : Env} {N : Nat} (hB : N ≤ 4611686018427387904) (hty : E.ty = tys) (heq : E.eqt = eqts) (h0 : E.n0 = 0)  (s1q : List Int) (s2q : List Int) :
    bindO (aPure E Proofs.Try.f154 H154 N [.sl false 1 (List.map (cI .i64) s1q), .sl false 1 (List.map (cI .i64) s2q)]) (cv sh154) = bindO (F154 N s1q s2q) fun r => some (v154 r) := by
  unfold F154
  rw [r_pure]
  unfold sh154
  try simp -implicitDefEqProofs only [push_cast, hty, heq, h0, Proofs.Try.f154, seval]
  try simp only [bindO_assoc]
  refine iten_ext (fun h1 => ?_) (fun h1 => ?_)
  · try simp -implicitDefEqProofs only [push_cast, hty, heq, h0, Proofs.Try.f154, seval, h1]
    try simp only [bindO_assoc]
    refine fold_loop (S := Unit) s1q (fun (i1 : Nat) (s3 : Unit) => [.sl false 1 (List.map (cI .i64) s1q), .sl false 1 (List.map (cI .i64) s2q), .top, .top, .top, .top, .top, .top, .top, .top, .top, .top, .int .i64 (s1q.length : Int), .int .i64 (i1 : Int), .top, .top, .top, .top, .top, .top, .top, .top, .top, .top, .top, .top]) (fun (_ : Nat) (s3 : Unit) => []) () ?_ ?_
    · intro s3 i1 x2 h2 h3 h4
      have h5 := rng_wrap h4 hB
      have h6 := lt_true h3
      have h7 := inB_lt h3
      have h8 := rng_get (c := (cI .i64)) h2
      have h9 := rng_getq (c := (cI .i64)) h2
      try simp -implicitDefEqProofs only [push_cast, hty, heq, h0, Proofs.Try.f154, seval, h1, h5, h6, h7, h8, h9, F154_s1]
      try simp only [bindO_assoc]
      refine at_sl (c := (cI .i64)) fun x4 h10 h11 h12 h13 => ?_
      try simp only [Int.reduceToNat, Int.toNat_natCast] at h12 h13
      try simp -implicitDefEqProofs only [push_cast, hty, heq, h0, Proofs.Try.f154, seval, h1, h5, h6, h7, h8, h9, F154_s1, h10, h12, h13]
      try simp only [bindO_assoc]
      refine iten_ext (fun h14 => ?_) (fun h14 => ?_)
      · simp -implicitDefEqProofs only [push_cast, hty, heq, h0, Proofs.Try.f154, seval, h1, h5, h6, h7, h8, h9, F154_s1, h10, h12, h13, h14]
      · simp -implicitDefEqProofs only [push_cast, hty, heq, h0, Proofs.Try.f154, seval, h1, h5, h6, h7, h8, h9, F154_s1, h10, h12, h13, h14]
    · intro s3
      have h15 := lt_self (n := s1q.length)
      simp -implicitDefEqProofs only [push_cast, hty, heq, h0, Proofs.Try.f154, seval, h1, h15, F154_f1]
  · simp -implicitDefEqProofs only [push_cast, hty, heq, h0, Proofs.Try.f154, seval, h1]
theorem ev117 {E : Env} {E155 : Nat → Env} {N : Nat} (hB : N ≤ 4611686018427387904) (hty : E.ty = tys) (heq : E.eqt = eqts) (h0 : E.n0 = 0) (g117_36 : ∀ vs σ, E.tab 36 vs σ = plain (t36 N) vs σ) (g117_153 : ∀ vs σ, E.tab 153 vs σ = plain (t153) vs σ) (g117_154 : ∀ vs σ, E.tab 154 vs σ = lent (t154 N) vs σ) (g117_155 : ∀ vs σ, E.tab 155 vs σ = inl E155 Proofs.Try.f155 H155 N vs σ) (hty155 : ∀ n, (E155 n).ty = tys) (heq155 : ∀ n, (E155 n).eqt = eqts) (h0155 : ∀ n, (E155 n).n0 = n) (n : Node) :
    bindO (aPure E Proofs.Try.f117 H117 N [.agg (Node.cells n)]) (cv sh117) = bindO (F117 N n) fun r => some (v117 r) := by
  unfold F117
  rw [r_pure]
  unfold sh117
  try simp -implicitDefEqProofs only [push_cast, hty, heq, h0, Proofs.Try.f117, g117_36, g117_153, g117_154, g117_155, hty155, heq155, h0155, Proofs.Try.f155, seval]
  try simp only [bindO_assoc]
  refine ite_ext (fun h1 => ?_) (fun h1 => ?_)
  · try simp -implicitDefEqProofs only [push_cast, hty, heq, h0, Proofs.Try.f117, g117_36, g117_153, g117_154, g117_155, hty155, heq155, h0155, Proofs.Try.f155, seval, h1]
    try simp only [bindO_assoc]
    refine fold_loop (S := List Int) n.kids (fun (i1 : Nat) (s3 : List Int) => [.top, .ptr 0 0, .top, .ptr 2 0, .top, .top, .top, .top, .top, .top, .top, .top, .top, .top, .sl false 5 (List.map Node.cells n.kids), .int .i64 (n.kids.length : Int), .int .i64 (i1 : Int), .top, .top, .top, .top, .top, .top, .top, .top, .top, .top, .top, .top, .top, .top, .top, .top, .top, .top, .top, .top, .top, .top, .top, .top, .top, .top, .top, .top, .top, .top, .top, .top, .top, .top, .top, .top, .top, .top, .top, .top, .top, .top, .top, .top, .top, .top, .top, .top, .top, .top, .top, .top, .top, .top, .top, .top, .top]) (fun (_ : Nat) (s3 : List Int) => [.var [.int .i64 n.op, .int .i64 n.sortf, .str n.name, .int .i64 n.num, .sl false 5 (List.map Node.cells n.kids)], .row 1 0 (List.map (cI .i64) s3), .var [.rs 1 0]]) (List.replicate n.kids.length 0) ?_ ?_
    · intro s3 i1 x2 h2 h3 h4
      have h5 := rng_wrap h4 hB
      have h6 := lt_true h3
      have h7 := inB_lt h3
      have h8 := rng_get (c := Node.cells) h2
      have h9 := rng_getq (c := Node.cells) h2
      try simp -implicitDefEqProofs only [push_cast, hty, heq, h0, Proofs.Try.f117, g117_36, g117_153, g117_154, g117_155, hty155, heq155, h0155, Proofs.Try.f155, seval, h1, h5, h6, h7, h8, h9, F117_s1]
      try simp only [bindO_assoc]
      refine bindO_ext fun r4 => ?_
      try simp -implicitDefEqProofs only [push_cast, hty, heq, h0, Proofs.Try.f117, g117_36, g117_153, g117_154, g117_155, hty155, heq155, h0155, Proofs.Try.f155, seval, h1, h5, h6, h7, h8, h9, F117_s1]
      try simp only [bindO_assoc]
      refine at_rs (c := (cI .i64)) fun x5 h10 h11 h12 h13 => ?_
      try simp only [Int.reduceToNat, Int.toNat_natCast] at h12 h13
      simp -implicitDefEqProofs only [push_cast, hty, heq, h0, Proofs.Try.f117, g117_36, g117_153, g117_154, g117_155, hty155, heq155, h0155, Proofs.Try.f155, seval, h1, h5, h6, h7, h8, h9, F117_s1, h10, h12, h13]
    · intro s3
      have h14 := lt_self (n := n.kids.length)
      try simp -implicitDefEqProofs only [push_cast, hty, heq, h0, Proofs.Try.f117, g117_36, g117_153, g117_154, g117_155, hty155, heq155, h0155, Proofs.Try.f155, seval, h1, h14, F117_f1]
      try simp only [bindO_assoc]
      refine bindO_ext fun r6 => ?_
      try simp -implicitDefEqProofs only [push_cast, hty, heq, h0, Proofs.Try.f117, g117_36, g117_153, g117_154, g117_155, hty155, heq155, h0155, Proofs.Try.f155, seval, h1, h14, F117_f1]
      try simp only [bindO_assoc]
      refine ite_ext (fun h15 => ?_) (fun h15 => ?_)
      · try simp -implicitDefEqProofs only [push_cast, hty, heq, h0, Proofs.Try.f117, g117_36, g117_153, g117_154, g117_155, hty155, heq155, h0155, Proofs.Try.f155, seval, h1, h14, F117_f1, h15]
        try simp only [bindO_assoc]
        refine bindO_ext fun r7 => ?_
        simp -implicitDefEqProofs only [push_cast, hty, heq, h0, Proofs.Try.f117, g117_36, g117_153, g117_154, g117_155, hty155, heq155, h0155, Proofs.Try.f155, seval, h1, h14, F117_f1, h15]
      · try simp -implicitDefEqProofs only [push_cast, hty, heq, h0, Proofs.Try.f117, g117_36, g117_153, g117_154, g117_155, hty155, heq155, h0155, Proofs.Try.f155, seval, h1, h14, F117_f1, h15]
        try simp only [bindO_assoc]
        refine ite_ext (fun h16 => ?_) (fun h16 => ?_)
        · try simp -implicitDefEqProofs only [push_cast, hty, heq, h0, Proofs.Try.f117, g117_36, g117_153, g117_154, g117_155, hty155, heq155, h0155, Proofs.Try.f155, seval, h1, h14, F117_f1, h15, h16]
          try simp only [bindO_assoc]
          refine ite_ext (fun h17 => ?_) (fun h17 => ?_)
          · try simp -implicitDefEqProofs only [push_cast, hty, heq, h0, Proofs.Try.f117, g117_36, g117_153, g117_154, g117_155, hty155, heq155, h0155, Proofs.Try.f155, seval, h1, h14, F117_f1, h15, h16, h17]
            try simp only [bindO_assoc]
            refine at_rs (c := (cI .i64)) fun x8 h18 h19 h20 h21 => ?_
            try simp only [Int.reduceToNat, Int.toNat_natCast] at h20 h21
            try simp -implicitDefEqProofs only [push_cast, hty, heq, h0, Proofs.Try.f117, g117_36, g117_153, g117_154, g117_155, hty155, heq155, h0155, Proofs.Try.f155, seval, h1, h14, F117_f1, h15, h16, h17, h18, h20, h21]
            try simp only [bindO_assoc]
            refine ite_ext (fun h22 => ?_) (fun h22 => ?_)
            · try simp -implicitDefEqProofs only [push_cast, hty, heq, h0, Proofs.Try.f117, g117_36, g117_153, g117_154, g117_155, hty155, heq155, h0155, Proofs.Try.f155, seval, h1, h14, F117_f1, h15, h16, h17, h18, h20, h21, h22]
              try simp only [bindO_assoc]
              refine at_rs (c := (cI .i64)) fun x9 h23 h24 h25 h26 => ?_
              try simp only [Int.reduceToNat, Int.toNat_natCast] at h25 h26
              try simp -implicitDefEqProofs only [push_cast, hty, heq, h0, Proofs.Try.f117, g117_36, g117_153, g117_154, g117_155, hty155, heq155, h0155, Proofs.Try.f155, seval, h1, h14, F117_f1, h15, h16, h17, h18, h20, h21, h22, h23, h25, h26]
              try simp only [bindO_assoc]
              refine at_rs (c := (cI .i64)) fun x10 h27 h28 h29 h30 => ?_
              try simp only [Int.reduceToNat, Int.toNat_natCast] at h29 h30
              try simp -implicitDefEqProofs only [push_cast, hty, heq, h0, Proofs.Try.f117, g117_36, g117_153, g117_154, g117_155, hty155, heq155, h0155, Proofs.Try.f155, seval, h1, h14, F117_f1, h15, h16, h17, h18, h20, h21, h22, h23, h25, h26, h27, h29, h30]
              try simp only [bindO_assoc]
              refine ite_ext (fun h31 => ?_) (fun h31 => ?_)
              · try simp -implicitDefEqProofs only [push_cast, hty, heq, h0, Proofs.Try.f117, g117_36, g117_153, g117_154, g117_155, hty155, heq155, h0155, Proofs.Try.f155, seval, h1, h14, F117_f1, h15, h16, h17, h18, h20, h21, h22, h23, h25, h26, h27, h29, h30, h31]
                try simp only [bindO_assoc]
                refine iten_ext (fun h32 => ?_) (fun h32 => ?_)
                · simp -implicitDefEqProofs only [push_cast, hty, heq, h0, Proofs.Try.f117, g117_36, g117_153, g117_154, g117_155, hty155, heq155, h0155, Proofs.Try.f155, seval, h1, h14, F117_f1, h15, h16, h17, h18, h20, h21, h22, h23, h25, h26, h27, h29, h30, h31, h32]
                · simp -implicitDefEqProofs only [push_cast, hty, heq, h0, Proofs.Try.f117, g117_36, g117_153, g117_154, g117_155, hty155, heq155, h0155, Proofs.Try.f155, seval, h1, h14, F117_f1, h15, h16, h17, h18, h20, h21, h22, h23, h25, h26, h27, h29, h30, h31, h32]
              · simp -implicitDefEqProofs only [push_cast, hty, heq, h0, Proofs.Try.f117, g117_36, g117_153, g117_154, g117_155, hty155, heq155, h0155, Proofs.Try.f155, seval, h1, h14, F117_f1, h15, h16, h17, h18, h20, h21, h22, h23, h25, h26, h27, h29, h30, h31]
            · simp -implicitDefEqProofs only [push_cast, hty, heq, h0, Proofs.Try.f117, g117_36, g117_153, g117_154, g117_155, hty155, heq155, h0155, Proofs.Try.f155, seval, h1, h14, F117_f1, h15, h16, h17, h18, h20, h21, h22]
          · simp -implicitDefEqProofs only [push_cast, hty, heq, h0, Proofs.Try.f117, g117_36, g117_153, g117_154, g117_155, hty155, heq155, h0155, Proofs.Try.f155, seval, h1, h14, F117_f1, h15, h16, h17]
        · try simp -implicitDefEqProofs only [push_cast, hty, heq, h0, Proofs.Try.f117, g117_36, g117_153, g117_154, g117_155, hty155, heq155, h0155, Proofs.Try.f155, seval, h1, h14, F117_f1, h15, h16]
          try simp only [bindO_assoc]
          refine ite_ext (fun h33 => ?_) (fun h33 => ?_)
          · try simp -implicitDefEqProofs only [push_cast, hty, heq, h0, Proofs.Try.f117, g117_36, g117_153, g117_154, g117_155, hty155, heq155, h0155, Proofs.Try.f155, seval, h1, h14, F117_f1, h15, h16, h33]
            try simp only [bindO_assoc]
            refine ite_ext (fun h34 => ?_) (fun h34 => ?_)
            · try simp -implicitDefEqProofs only [push_cast, hty, heq, h0, Proofs.Try.f117, g117_36, g117_153, g117_154, g117_155, hty155, heq155, h0155, Proofs.Try.f155, seval, h1, h14, F117_f1, h15, h16, h33, h34]
              try simp only [bindO_assoc]
              refine at_rs (c := (cI .i64)) fun x11 h35 h36 h37 h38 => ?_
              try simp only [Int.reduceToNat, Int.toNat_natCast] at h37 h38
              try simp -implicitDefEqProofs only [push_cast, hty, heq, h0, Proofs.Try.f117, g117_36, g117_153, g117_154, g117_155, hty155, heq155, h0155, Proofs.Try.f155, seval, h1, h14, F117_f1, h15, h16, h33, h34, h35, h37, h38]
              try simp only [bindO_assoc]
              refine at_rs (c := (cI .i64)) fun x12 h39 h40 h41 h42 => ?_
              try simp only [Int.reduceToNat, Int.toNat_natCast] at h41 h42
              try simp -implicitDefEqProofs only [push_cast, hty, heq, h0, Proofs.Try.f117, g117_36, g117_153, g117_154, g117_155, hty155, heq155, h0155, Proofs.Try.f155, seval, h1, h14, F117_f1, h15, h16, h33, h34, h35, h37, h38, h39, h41, h42]
              try simp only [bindO_assoc]
              refine ite_ext (fun h43 => ?_) (fun h43 => ?_)
              · try simp -implicitDefEqProofs only [push_cast, hty, heq, h0, Proofs.Try.f117, g117_36, g117_153, g117_154, g117_155, hty155, heq155, h0155, Proofs.Try.f155, seval, h1, h14, F117_f1, h15, h16, h33, h34, h35, h37, h38, h39, h41, h42, h43]
                try simp only [bindO_assoc]
                refine iten_ext (fun h44 => ?_) (fun h44 => ?_)
                · simp -implicitDefEqProofs only [push_cast, hty, heq, h0, Proofs.Try.f117, g117_36, g117_153, g117_154, g117_155, hty155, heq155, h0155, Proofs.Try.f155, seval, h1, h14, F117_f1, h15, h16, h33, h34, h35, h37, h38, h39, h41, h42, h43, h44]
                · simp -implicitDefEqProofs only [push_cast, hty, heq, h0, Proofs.Try.f117, g117_36, g117_153, g117_154, g117_155, hty155, heq155, h0155, Proofs.Try.f155, seval, h1, h14, F117_f1, h15, h16, h33, h34, h35, h37, h38, h39, h41, h42, h43, h44]
              · simp -implicitDefEqProofs only [push_cast, hty, heq, h0, Proofs.Try.f117, g117_36, g117_153, g117_154, g117_155, hty155, heq155, h0155, Proofs.Try.f155, seval, h1, h14, F117_f1, h15, h16, h33, h34, h35, h37, h38, h39, h41, h42, h43]
            · simp -implicitDefEqProofs only [push_cast, hty, heq, h0, Proofs.Try.f117, g117_36, g117_153, g117_154, g117_155, hty155, heq155, h0155, Proofs.Try.f155, seval, h1, h14, F117_f1, h15, h16, h33, h34]
          · try simp -implicitDefEqProofs only [push_cast, hty, heq, h0, Proofs.Try.f117, g117_36, g117_153, g117_154, g117_155, hty155, heq155, h0155, Proofs.Try.f155, seval, h1, h14, F117_f1, h15, h16, h33]
            try simp only [bindO_assoc]
            refine ite_ext (fun h45 => ?_) (fun h45 => ?_)
            · simp -implicitDefEqProofs only [push_cast, hty, heq, h0, Proofs.Try.f117, g117_36, g117_153, g117_154, g117_155, hty155, heq155, h0155, Proofs.Try.f155, seval, h1, h14, F117_f1, h15, h16, h33, h45]
            · try simp -implicitDefEqProofs only [push_cast, hty, heq, h0, Proofs.Try.f117, g117_36, g117_153, g117_154, g117_155, hty155, heq155, h0155, Proofs.Try.f155, seval, h1, h14, F117_f1, h15, h16, h33, h45]
              try simp only [bindO_assoc]
              refine ite_ext (fun h46 => ?_) (fun h46 => ?_)
              · try simp -implicitDefEqProofs only [push_cast, hty, heq, h0, Proofs.Try.f117, g117_36, g117_153, g117_154, g117_155, hty155, heq155, h0155, Proofs.Try.f155, seval, h1, h14, F117_f1, h15, h16, h33, h45, h46]
                try simp only [bindO_assoc]
                refine ite_ext (fun h47 => ?_) (fun h47 => ?_)
                · simp -implicitDefEqProofs only [push_cast, hty, heq, h0, Proofs.Try.f117, g117_36, g117_153, g117_154, g117_155, hty155, heq155, h0155, Proofs.Try.f155, seval, h1, h14, F117_f1, h15, h16, h33, h45, h46, h47]
                · simp -implicitDefEqProofs only [push_cast, hty, heq, h0, Proofs.Try.f117, g117_36, g117_153, g117_154, g117_155, hty155, heq155, h0155, Proofs.Try.f155, seval, h1, h14, F117_f1, h15, h16, h33, h45, h46, h47]
              · simp -implicitDefEqProofs only [push_cast, hty, heq, h0, Proofs.Try.f117, g117_36, g117_153, g117_154, g117_155, hty155, heq155, h0155, Proofs.Try.f155, seval, h1, h14, F117_f1, h15, h16, h33, h45, h46]
  · simp -implicitDefEqProofs only [push_cast, hty, heq, h0, Proofs.Try.f117, g117_36, g117_153, g117_154, g117_155, hty155, heq155, h0155, Proofs.Try.f155, seval, h1]
theorem ev71 {E : Env} {N : Nat} (hB : N ≤ 4611686018427387904) (hty : E.ty = tys) (heq : E.eqt = eqts) (h0 : E.n0 = 0) (g71_91 : ∀ vs σ, E.tab 91 vs σ = plain (t91) vs σ) (g71_116 : ∀ vs σ, E.tab 116 vs σ = plain (t116 N) vs σ) (g71_117 : ∀ vs σ, E.tab 117 vs σ = plain (t117 N) vs σ) (q71_136 : ∀ cs, E.seq (.fn 136 cs) = sq136 cs) (n : Node) :
    bindO (aPure E Proofs.Try.f71 H71 N [.agg (Node.cells n)]) (cv sh71) = bindO (F71 N n) fun r => some (v71 r) := by
  unfold F71
  rw [r_pure]
  unfold sh71
  try simp -implicitDefEqProofs only [push_cast, hty, heq, h0, Proofs.Try.f71, g71_91, g71_116, g71_117, q71_136, seval]
  try simp only [bindO_assoc]
  refine bindO_ext fun l1 => ?_
  try simp -implicitDefEqProofs only [push_cast, hty, heq, h0, Proofs.Try.f71, g71_91, g71_116, g71_117, q71_136, seval]
  try simp only [bindO_assoc]
  refine range_loop (S := Unit) e136 (fun (s3 : Unit) => [.var [.int .i64 n.op, .int .i64 n.sortf, .str n.name, .int .i64 n.num, .sl false 5 (List.map Node.cells n.kids)], .var [.bool false]]) ?_ ?_ l1 ()
  · intro s3 x2
    try simp -implicitDefEqProofs only [push_cast, hty, heq, h0, Proofs.Try.f71, g71_91, g71_116, g71_117, q71_136, seval, F71_s1]
    try simp only [bindO_assoc]
    refine bindO_ext fun r4 => ?_
    try simp -implicitDefEqProofs only [push_cast, hty, heq, h0, Proofs.Try.f71, g71_91, g71_116, g71_117, q71_136, seval, F71_s1]
    try simp only [bindO_assoc]
    refine ite_ext (fun h1 => ?_) (fun h1 => ?_)
    · try simp -implicitDefEqProofs only [push_cast, hty, heq, h0, Proofs.Try.f71, g71_91, g71_116, g71_117, q71_136, seval, F71_s1, h1]
      try simp only [bindO_assoc]
      refine bindO_ext fun r5 => ?_
      try simp -implicitDefEqProofs only [push_cast, hty, heq, h0, Proofs.Try.f71, g71_91, g71_116, g71_117, q71_136, seval, F71_s1, h1]
      try simp only [bindO_assoc]
      refine iten_ext (fun h2 => ?_) (fun h2 => ?_)
      · simp -implicitDefEqProofs only [push_cast, hty, heq, h0, Proofs.Try.f71, g71_91, g71_116, g71_117, q71_136, seval, F71_s1, h1, h2]
      · simp -implicitDefEqProofs only [push_cast, hty, heq, h0, Proofs.Try.f71, g71_91, g71_116, g71_117, q71_136, seval, F71_s1, h1, h2]
    · simp -implicitDefEqProofs only [push_cast, hty, heq, h0, Proofs.Try.f71, g71_91, g71_116, g71_117, q71_136, seval, F71_s1, h1]
  · intro s3
    simp -implicitDefEqProofs only [push_cast, hty, heq, h0, Proofs.Try.f71, g71_91, g71_116, g71_117, q71_136, seval, F71_f1]
theorem ev40 {E : Env} {N : Nat} (hB : N ≤ 4611686018427387904) (hty : E.ty = tys) (heq : E.eqt = eqts) (h0 : E.n0 = 0) (g40_91 : ∀ vs σ, E.tab 91 vs σ = plain (t91) vs σ) (q40_136 : ∀ cs, E.seq (.fn 136 cs) = sq136 cs) (n : Node) :
    bindO (aPure E Proofs.Try.f40 H40 N [.agg (Node.cells n)]) (cv sh40) = bindO (F40 n) fun r => some (v40 r) := by
  unfold F40
  rw [r_pure]
  unfold sh40
  try simp -implicitDefEqProofs only [push_cast, hty, heq, h0, Proofs.Try.f40, g40_91, q40_136, seval, mk98]
  try simp only [bindO_assoc]
  refine bindO_ext fun l1 => ?_
  try simp -implicitDefEqProofs only [push_cast, hty, heq, h0, Proofs.Try.f40, g40_91, q40_136, seval, mk98]
  try simp only [bindO_assoc]
  refine range_loop (S := ByteArray → Option Int) e136 (fun (s3 : ByteArray → Option Int) => [.var [.int .i64 n.op, .int .i64 n.sortf, .str n.name, .int .i64 n.num, .sl false 5 (List.map Node.cells n.kids)], .var [.bool false], .map .string (mS (evI .i64) s3), .var [.map 2]]) ?_ ?_ l1 (fun _ => none)
  · intro s3 x2
    try simp -implicitDefEqProofs only [push_cast, hty, heq, h0, Proofs.Try.f40, g40_91, q40_136, seval, mk98, F40_s1]
    try simp only [bindO_assoc]
    refine ite_ext (fun h1 => ?_) (fun h1 => ?_)
    · try simp -implicitDefEqProofs only [push_cast, hty, heq, h0, Proofs.Try.f40, g40_91, q40_136, seval, mk98, F40_s1, h1]
      try simp only [bindO_assoc]
      refine opt_ext (fun m4 h2 => ?_) (fun h2 => ?_)
      · try simp -implicitDefEqProofs only [push_cast, hty, heq, h0, Proofs.Try.f40, g40_91, q40_136, seval, mk98, F40_s1, h1]
        try simp only [bindO_assoc]
        refine ite_ext (fun h3 => ?_) (fun h3 => ?_)
        · try simp -implicitDefEqProofs only [push_cast, hty, heq, h0, Proofs.Try.f40, g40_91, q40_136, seval, mk98, F40_s1, h1, h3]
          try simp only [bindO_assoc]
          refine ite_ext (fun h4 => ?_) (fun h4 => ?_)
          · try simp -implicitDefEqProofs only [push_cast, hty, heq, h0, Proofs.Try.f40, g40_91, q40_136, seval, mk98, F40_s1, h1, h3, h4]
            try simp only [bindO_assoc]
            refine ite_ext (fun h5 => ?_) (fun h5 => ?_)
            · simp -implicitDefEqProofs only [push_cast, hty, heq, h0, Proofs.Try.f40, g40_91, q40_136, seval, mk98, F40_s1, h1, h3, h4, h5]
            · simp -implicitDefEqProofs only [push_cast, hty, heq, h0, Proofs.Try.f40, g40_91, q40_136, seval, mk98, F40_s1, h1, h3, h4, h5]
          · simp -implicitDefEqProofs only [push_cast, hty, heq, h0, Proofs.Try.f40, g40_91, q40_136, seval, mk98, F40_s1, h1, h3, h4]
        · try simp -implicitDefEqProofs only [push_cast, hty, heq, h0, Proofs.Try.f40, g40_91, q40_136, seval, mk98, F40_s1, h1, h3]
          try simp only [bindO_assoc]
          refine ite_ext (fun h6 => ?_) (fun h6 => ?_)
          · try simp -implicitDefEqProofs only [push_cast, hty, heq, h0, Proofs.Try.f40, g40_91, q40_136, seval, mk98, F40_s1, h1, h3, h6]
            try simp only [bindO_assoc]
            refine ite_ext (fun h7 => ?_) (fun h7 => ?_)
            · simp -implicitDefEqProofs only [push_cast, hty, heq, h0, Proofs.Try.f40, g40_91, q40_136, seval, mk98, F40_s1, h1, h3, h6, h7]
            · try simp -implicitDefEqProofs only [push_cast, hty, heq, h0, Proofs.Try.f40, g40_91, q40_136, seval, mk98, F40_s1, h1, h3, h6, h7]
              try simp only [bindO_assoc]
              refine opt_ext (fun m5 h8 => ?_) (fun h8 => ?_)
              · try simp -implicitDefEqProofs only [push_cast, hty, heq, h0, Proofs.Try.f40, g40_91, q40_136, seval, mk98, F40_s1, h1, h3, h6, h7]
                try simp only [bindO_assoc]
                refine iten_ext (fun h9 => ?_) (fun h9 => ?_)
                · simp -implicitDefEqProofs only [push_cast, hty, heq, h0, Proofs.Try.f40, g40_91, q40_136, seval, mk98, F40_s1, h1, h3, h6, h7, h9]
                · simp -implicitDefEqProofs only [push_cast, hty, heq, h0, Proofs.Try.f40, g40_91, q40_136, seval, mk98, F40_s1, h1, h3, h6, h7, h9]
              · simp -implicitDefEqProofs only [push_cast, hty, heq, h0, Proofs.Try.f40, g40_91, q40_136, seval, mk98, F40_s1, h1, h3, h6, h7]
          · simp -implicitDefEqProofs only [push_cast, hty, heq, h0, Proofs.Try.f40, g40_91, q40_136, seval, mk98, F40_s1, h1, h3, h6]
      · try simp -implicitDefEqProofs only [push_cast, hty, heq, h0, Proofs.Try.f40, g40_91, q40_136, seval, mk98, F40_s1, h1]
        try simp only [bindO_assoc]
        refine ite_ext (fun h10 => ?_) (fun h10 => ?_)
        · try simp -implicitDefEqProofs only [push_cast, hty, heq, h0, Proofs.Try.f40, g40_91, q40_136, seval, mk98, F40_s1, h1, h10]
          try simp only [bindO_assoc]
          refine iten_ext (fun h11 => ?_) (fun h11 => ?_)
          · try simp -implicitDefEqProofs only [push_cast, hty, heq, h0, Proofs.Try.f40, g40_91, q40_136, seval, mk98, F40_s1, h1, h10, h11]
            try simp only [bindO_assoc]
            refine opt_ext (fun m6 h12 => ?_) (fun h12 => ?_)
            · try simp -implicitDefEqProofs only [push_cast, hty, heq, h0, Proofs.Try.f40, g40_91, q40_136, seval, mk98, F40_s1, h1, h10, h11]
              try simp only [bindO_assoc]
              refine iten_ext (fun h13 => ?_) (fun h13 => ?_)
              · simp -implicitDefEqProofs only [push_cast, hty, heq, h0, Proofs.Try.f40, g40_91, q40_136, seval, mk98, F40_s1, h1, h10, h11, h13]
              · simp -implicitDefEqProofs only [push_cast, hty, heq, h0, Proofs.Try.f40, g40_91, q40_136, seval, mk98, F40_s1, h1, h10, h11, h13]
            · simp -implicitDefEqProofs only [push_cast, hty, heq, h0, Proofs.Try.f40, g40_91, q40_136, seval, mk98, F40_s1, h1, h10, h11]
          · simp -implicitDefEqProofs only [push_cast, hty, heq, h0, Proofs.Try.f40, g40_91, q40_136, seval, mk98, F40_s1, h1, h10, h11]
        · try simp -implicitDefEqProofs only [push_cast, hty, heq, h0, Proofs.Try.f40, g40_91, q40_136, seval, mk98, F40_s1, h1, h10]
          try simp only [bindO_assoc]
          refine iten_ext (fun h14 => ?_) (fun h14 => ?_)
          · try simp -implicitDefEqProofs only [push_cast, hty, heq, h0, Proofs.Try.f40, g40_91, q40_136, seval, mk98, F40_s1, h1, h10, h14]
            try simp only [bindO_assoc]
            refine opt_ext (fun m7 h15 => ?_) (fun h15 => ?_)
            · try simp -implicitDefEqProofs only [push_cast, hty, heq, h0, Proofs.Try.f40, g40_91, q40_136, seval, mk98, F40_s1, h1, h10, h14]
              try simp only [bindO_assoc]
              refine iten_ext (fun h16 => ?_) (fun h16 => ?_)
              · simp -implicitDefEqProofs only [push_cast, hty, heq, h0, Proofs.Try.f40, g40_91, q40_136, seval, mk98, F40_s1, h1, h10, h14, h16]
              · simp -implicitDefEqProofs only [push_cast, hty, heq, h0, Proofs.Try.f40, g40_91, q40_136, seval, mk98, F40_s1, h1, h10, h14, h16]
            · simp -implicitDefEqProofs only [push_cast, hty, heq, h0, Proofs.Try.f40, g40_91, q40_136, seval, mk98, F40_s1, h1, h10, h14]
          · simp -implicitDefEqProofs only [push_cast, hty, heq, h0, Proofs.Try.f40, g40_91, q40_136, seval, mk98, F40_s1, h1, h10, h14]
    · try simp -implicitDefEqProofs only [push_cast, hty, heq, h0, Proofs.Try.f40, g40_91, q40_136, seval, mk98, F40_s1, h1]
      try simp only [bindO_assoc]
      refine opt_ext (fun m8 h17 => ?_) (fun h17 => ?_)
      · try simp -implicitDefEqProofs only [push_cast, hty, heq, h0, Proofs.Try.f40, g40_91, q40_136, seval, mk98, F40_s1, h1]
        try simp only [bindO_assoc]
        refine ite_ext (fun h18 => ?_) (fun h18 => ?_)
        · try simp -implicitDefEqProofs only [push_cast, hty, heq, h0, Proofs.Try.f40, g40_91, q40_136, seval, mk98, F40_s1, h1, h18]
          try simp only [bindO_assoc]
          refine ite_ext (fun h19 => ?_) (fun h19 => ?_)
          · simp -implicitDefEqProofs only [push_cast, hty, heq, h0, Proofs.Try.f40, g40_91, q40_136, seval, mk98, F40_s1, h1, h18, h19]
          · try simp -implicitDefEqProofs only [push_cast, hty, heq, h0, Proofs.Try.f40, g40_91, q40_136, seval, mk98, F40_s1, h1, h18, h19]
            try simp only [bindO_assoc]
            refine opt_ext (fun m9 h20 => ?_) (fun h20 => ?_)
            · try simp -implicitDefEqProofs only [push_cast, hty, heq, h0, Proofs.Try.f40, g40_91, q40_136, seval, mk98, F40_s1, h1, h18, h19]
              try simp only [bindO_assoc]
              refine iten_ext (fun h21 => ?_) (fun h21 => ?_)
              · simp -implicitDefEqProofs only [push_cast, hty, heq, h0, Proofs.Try.f40, g40_91, q40_136, seval, mk98, F40_s1, h1, h18, h19, h21]
              · simp -implicitDefEqProofs only [push_cast, hty, heq, h0, Proofs.Try.f40, g40_91, q40_136, seval, mk98, F40_s1, h1, h18, h19, h21]
            · simp -implicitDefEqProofs only [push_cast, hty, heq, h0, Proofs.Try.f40, g40_91, q40_136, seval, mk98, F40_s1, h1, h18, h19]
        · simp -implicitDefEqProofs only [push_cast, hty, heq, h0, Proofs.Try.f40, g40_91, q40_136, seval, mk98, F40_s1, h1, h18]
      · try simp -implicitDefEqProofs only [push_cast, hty, heq, h0, Proofs.Try.f40, g40_91, q40_136, seval, mk98, F40_s1, h1]
        try simp only [bindO_assoc]
        refine iten_ext (fun h22 => ?_) (fun h22 => ?_)
        · try simp -implicitDefEqProofs only [push_cast, hty, heq, h0, Proofs.Try.f40, g40_91, q40_136, seval, mk98, F40_s1, h1, h22]
          try simp only [bindO_assoc]
          refine opt_ext (fun m10 h23 => ?_) (fun h23 => ?_)
          · try simp -implicitDefEqProofs only [push_cast, hty, heq, h0, Proofs.Try.f40, g40_91, q40_136, seval, mk98, F40_s1, h1, h22]
            try simp only [bindO_assoc]
            refine iten_ext (fun h24 => ?_) (fun h24 => ?_)
            · simp -implicitDefEqProofs only [push_cast, hty, heq, h0, Proofs.Try.f40, g40_91, q40_136, seval, mk98, F40_s1, h1, h22, h24]
            · simp -implicitDefEqProofs only [push_cast, hty, heq, h0, Proofs.Try.f40, g40_91, q40_136, seval, mk98, F40_s1, h1, h22, h24]
          · simp -implicitDefEqProofs only [push_cast, hty, heq, h0, Proofs.Try.f40, g40_91, q40_136, seval, mk98, F40_s1, h1, h22]
        · simp -implicitDefEqProofs only [push_cast, hty, heq, h0, Proofs.Try.f40, g40_91, q40_136, seval, mk98, F40_s1, h1, h22]
  · intro s3
    simp -implicitDefEqProofs only [push_cast, hty, heq, h0, Proofs.Try.f40, g40_91, q40_136, seval, mk98, F40_f1]
end Go.Abs.Try
