import Derived.Test.YtjjajifecniidaaQD
namespace Go.Abs.Try
open Go.RowKit
set_option linter.unusedSimpArgs false
set_option linter.unusedVariables false
set_option maxRecDepth 100000
set_option maxHeartbeats 4000000
attribute [local push_cast] ty3 ty9 ty22 ty24 ty62 ty101
theorem ev168 {E : Env} {N : Nat} (hB : N ≤ 4611686018427387904) (hty : E.ty = tys) (heq : E.eqt = eqts) (h0 : E.n0 = 0)  (a : Decl) (b : Decl) :
    bindO (aPure E Proofs.Try.f168 H168 N [.agg (Decl.cells a), .agg (Decl.cells b)]) (cv sh168) = bindO (F168 a b) fun r => some (v168 r) := by
  unfold F168
  rw [r_pure]
  unfold sh168
  try simp -implicitDefEqProofs only [push_cast, hty, heq, h0, Proofs.Try.f168, seval]
  try simp only [bindO_assoc]
  refine iten_ext (fun h1 => ?_) (fun h1 => ?_)
  · simp -implicitDefEqProofs only [push_cast, hty, heq, h0, Proofs.Try.f168, seval, h1]
  · try simp -implicitDefEqProofs only [push_cast, hty, heq, h0, Proofs.Try.f168, seval, h1]
    try simp only [bindO_assoc]
    refine ite_ext (fun h2 => ?_) (fun h2 => ?_)
    · simp -implicitDefEqProofs only [push_cast, hty, heq, h0, Proofs.Try.f168, seval, h1, h2]
    · simp -implicitDefEqProofs only [push_cast, hty, heq, h0, Proofs.Try.f168, seval, h1, h2]
theorem ev140 {E : Env} {N : Nat} (hB : N ≤ 4611686018427387904) (hty : E.ty = tys) (heq : E.eqt = eqts) (h0 : E.n0 = 0) (g140_168 : ∀ vs σ, E.tab 168 vs σ = plain (t168) vs σ) (l : List Decl) (d : Decl) :
    bindO (aPure E Proofs.Try.f140 H140 N [.sl false 2 (List.map Decl.cells l), .agg (Decl.cells d)]) (cv sh140) = bindO (F140 N l d) fun r => some (v140 r) := by
  unfold F140
  rw [r_pure]
  unfold sh140
  try simp -implicitDefEqProofs only [push_cast, hty, heq, h0, Proofs.Try.f140, g140_168, seval]
  try simp only [bindO_assoc]
  refine fold_loop (S := (List Decl) × Bool) l (fun (i1 : Nat) (s3 : (List Decl) × Bool) => [.top, .top, .top, .ptr 0 0, .top, .rs 2 0, .bool s3.2, .top, .top, .sl false 2 (List.map Decl.cells l), .int .i64 (l.length : Int), .int .i64 (i1 : Int), .top, .top, .top, .top, .top, .top, .top, .top, .top, .top, .top, .top, .top, .top, .top, .top, .top, .top, .top, .top, .top, .top, .top, .top, .top, .top, .top, .top, .top]) (fun (_ : Nat) (s3 : (List Decl) × Bool) => [.var [.str d.declName, .int .i64 d.declSort], .row 2 0 [], .row 2 0 (List.map Decl.cells s3.1)]) ([], false) ?_ ?_
  · intro s3 i1 x2 h1 h2 h3
    have h4 := rng_wrap h3 hB
    have h5 := lt_true h2
    have h6 := inB_lt h2
    have h7 := rng_get (c := Decl.cells) h1
    have h8 := rng_getq (c := Decl.cells) h1
    try simp -implicitDefEqProofs only [push_cast, hty, heq, h0, Proofs.Try.f140, g140_168, seval, h4, h5, h6, h7, h8, F140_s1]
    try simp only [bindO_assoc]
    refine ite_ext (fun h9 => ?_) (fun h9 => ?_)
    · try simp -implicitDefEqProofs only [push_cast, hty, heq, h0, Proofs.Try.f140, g140_168, seval, h4, h5, h6, h7, h8, F140_s1, h9]
      try simp only [bindO_assoc]
      refine ite_ext (fun h10 => ?_) (fun h10 => ?_)
      · simp -implicitDefEqProofs only [push_cast, hty, heq, h0, Proofs.Try.f140, g140_168, seval, h4, h5, h6, h7, h8, F140_s1, h9, h10]
      · simp -implicitDefEqProofs only [push_cast, hty, heq, h0, Proofs.Try.f140, g140_168, seval, h4, h5, h6, h7, h8, F140_s1, h9, h10]
    · try simp -implicitDefEqProofs only [push_cast, hty, heq, h0, Proofs.Try.f140, g140_168, seval, h4, h5, h6, h7, h8, F140_s1, h9]
      try simp only [bindO_assoc]
      refine iten_ext (fun h11 => ?_) (fun h11 => ?_)
      · try simp -implicitDefEqProofs only [push_cast, hty, heq, h0, Proofs.Try.f140, g140_168, seval, h4, h5, h6, h7, h8, F140_s1, h9, h11]
        try simp only [bindO_assoc]
        refine ite_ext (fun h12 => ?_) (fun h12 => ?_)
        · simp -implicitDefEqProofs only [push_cast, hty, heq, h0, Proofs.Try.f140, g140_168, seval, h4, h5, h6, h7, h8, F140_s1, h9, h11, h12]
        · simp -implicitDefEqProofs only [push_cast, hty, heq, h0, Proofs.Try.f140, g140_168, seval, h4, h5, h6, h7, h8, F140_s1, h9, h11, h12]
      · try simp -implicitDefEqProofs only [push_cast, hty, heq, h0, Proofs.Try.f140, g140_168, seval, h4, h5, h6, h7, h8, F140_s1, h9, h11]
        try simp only [bindO_assoc]
        refine bindO_ext fun r4 => ?_
        try simp -implicitDefEqProofs only [push_cast, hty, heq, h0, Proofs.Try.f140, g140_168, seval, h4, h5, h6, h7, h8, F140_s1, h9, h11]
        try simp only [bindO_assoc]
        refine ite_ext (fun h13 => ?_) (fun h13 => ?_)
        · try simp -implicitDefEqProofs only [push_cast, hty, heq, h0, Proofs.Try.f140, g140_168, seval, h4, h5, h6, h7, h8, F140_s1, h9, h11, h13]
          try simp only [bindO_assoc]
          refine ite_ext (fun h14 => ?_) (fun h14 => ?_)
          · try simp -implicitDefEqProofs only [push_cast, hty, heq, h0, Proofs.Try.f140, g140_168, seval, h4, h5, h6, h7, h8, F140_s1, h9, h11, h13, h14]
            try simp only [bindO_assoc]
            refine ite_ext (fun h15 => ?_) (fun h15 => ?_)
            · simp -implicitDefEqProofs only [push_cast, hty, heq, h0, Proofs.Try.f140, g140_168, seval, h4, h5, h6, h7, h8, F140_s1, h9, h11, h13, h14, h15]
            · simp -implicitDefEqProofs only [push_cast, hty, heq, h0, Proofs.Try.f140, g140_168, seval, h4, h5, h6, h7, h8, F140_s1, h9, h11, h13, h14, h15]
          · simp -implicitDefEqProofs only [push_cast, hty, heq, h0, Proofs.Try.f140, g140_168, seval, h4, h5, h6, h7, h8, F140_s1, h9, h11, h13, h14]
        · try simp -implicitDefEqProofs only [push_cast, hty, heq, h0, Proofs.Try.f140, g140_168, seval, h4, h5, h6, h7, h8, F140_s1, h9, h11, h13]
          try simp only [bindO_assoc]
          refine ite_ext (fun h16 => ?_) (fun h16 => ?_)
          · simp -implicitDefEqProofs only [push_cast, hty, heq, h0, Proofs.Try.f140, g140_168, seval, h4, h5, h6, h7, h8, F140_s1, h9, h11, h13, h16]
          · simp -implicitDefEqProofs only [push_cast, hty, heq, h0, Proofs.Try.f140, g140_168, seval, h4, h5, h6, h7, h8, F140_s1, h9, h11, h13, h16]
  · intro s3
    have h17 := lt_self (n := l.length)
    try simp -implicitDefEqProofs only [push_cast, hty, heq, h0, Proofs.Try.f140, g140_168, seval, h17, F140_f1]
    try simp only [bindO_assoc]
    refine iten_ext (fun h18 => ?_) (fun h18 => ?_)
    · simp -implicitDefEqProofs only [push_cast, hty, heq, h0, Proofs.Try.f140, g140_168, seval, h17, F140_f1, h18]
    · try simp -implicitDefEqProofs only [push_cast, hty, heq, h0, Proofs.Try.f140, g140_168, seval, h17, F140_f1, h18]
      try simp only [bindO_assoc]
      refine ite_ext (fun h19 => ?_) (fun h19 => ?_)
      · simp -implicitDefEqProofs only [push_cast, hty, heq, h0, Proofs.Try.f140, g140_168, seval, h17, F140_f1, h18, h19]
      · simp -implicitDefEqProofs only [push_cast, hty, heq, h0, Proofs.Try.f140, g140_168, seval, h17, F140_f1, h18, h19]
theorem ev95 {E : Env} {N : Nat} (hB : N ≤ 4611686018427387904) (self95 : (List Decl) → Node → Option (List Decl)) (hty : E.ty = tys) (heq : E.eqt = eqts) (h0 : E.n0 = 0) (g95_140 : ∀ vs σ, E.tab 140 vs σ = plain (t140 N) vs σ) (g95_95 : ∀ vs σ, E.tab 95 vs σ = plain (ts95 self95) vs σ) (l : List Decl) (n : Node) :
    bindO (aPure E Proofs.Try.f95 H95 N [.sl false 2 (List.map Decl.cells l), .agg (Node.cells n)]) (cv sh95) = bindO (F95b self95 N l n) fun r => some (v95 r) := by
  unfold F95b
  rw [r_pure]
  unfold sh95
  try simp -implicitDefEqProofs only [push_cast, hty, heq, h0, Proofs.Try.f95, g95_140, g95_95, seval]
  try simp only [bindO_assoc]
  refine ite_ext (fun h1 => ?_) (fun h1 => ?_)
  · try simp -implicitDefEqProofs only [push_cast, hty, heq, h0, Proofs.Try.f95, g95_140, g95_95, seval, h1]
    try simp only [bindO_assoc]
    refine bindO_ext fun r1 => ?_
    try simp -implicitDefEqProofs only [push_cast, hty, heq, h0, Proofs.Try.f95, g95_140, g95_95, seval, h1]
    try simp only [bindO_assoc]
    refine fold_loop (S := List Decl) n.kids (fun (i2 : Nat) (s4 : List Decl) => [.sl false 2 (List.map Decl.cells s4), .top, .top, .top, .top, .top, .top, .top, .top, .top, .top, .top, .top, .top, .top, .top, .top, .top, .sl false 5 (List.map Node.cells n.kids), .int .i64 (n.kids.length : Int), .int .i64 (i2 : Int), .top, .top, .top, .top, .top, .top, .top, .top]) (fun (_ : Nat) (s4 : List Decl) => [.var [.int .i64 n.op, .int .i64 n.sortf, .str n.name, .int .i64 n.num, .sl false 5 (List.map Node.cells n.kids)], .row 2 0 []]) r1 ?_ ?_
    · intro s4 i2 x3 h2 h3 h4
      have h5 := rng_wrap h4 hB
      have h6 := lt_true h3
      have h7 := inB_lt h3
      have h8 := rng_get (c := Node.cells) h2
      have h9 := rng_getq (c := Node.cells) h2
      try simp -implicitDefEqProofs only [push_cast, hty, heq, h0, Proofs.Try.f95, g95_140, g95_95, seval, h1, h5, h6, h7, h8, h9, F95_s1]
      try simp only [bindO_assoc]
      refine bindO_ext fun r5 => ?_
      simp -implicitDefEqProofs only [push_cast, hty, heq, h0, Proofs.Try.f95, g95_140, g95_95, seval, h1, h5, h6, h7, h8, h9, F95_s1]
    · intro s4
      have h10 := lt_self (n := n.kids.length)
      simp -implicitDefEqProofs only [push_cast, hty, heq, h0, Proofs.Try.f95, g95_140, g95_95, seval, h1, h10, F95_f1]
  · try simp -implicitDefEqProofs only [push_cast, hty, heq, h0, Proofs.Try.f95, g95_140, g95_95, seval, h1]
    try simp only [bindO_assoc]
    refine fold_loop (S := List Decl) n.kids (fun (i6 : Nat) (s8 : List Decl) => [.sl false 2 (List.map Decl.cells s8), .top, .top, .top, .top, .top, .top, .top, .top, .top, .top, .top, .top, .top, .top, .top, .top, .top, .sl false 5 (List.map Node.cells n.kids), .int .i64 (n.kids.length : Int), .int .i64 (i6 : Int), .top, .top, .top, .top, .top, .top, .top, .top]) (fun (_ : Nat) (s8 : List Decl) => [.var [.int .i64 n.op, .int .i64 n.sortf, .str n.name, .int .i64 n.num, .sl false 5 (List.map Node.cells n.kids)], .row 2 0 []]) l ?_ ?_
    · intro s8 i6 x7 h11 h12 h13
      have h14 := rng_wrap h13 hB
      have h15 := lt_true h12
      have h16 := inB_lt h12
      have h17 := rng_get (c := Node.cells) h11
      have h18 := rng_getq (c := Node.cells) h11
      try simp -implicitDefEqProofs only [push_cast, hty, heq, h0, Proofs.Try.f95, g95_140, g95_95, seval, h1, h14, h15, h16, h17, h18, F95_s2]
      try simp only [bindO_assoc]
      refine bindO_ext fun r9 => ?_
      simp -implicitDefEqProofs only [push_cast, hty, heq, h0, Proofs.Try.f95, g95_140, g95_95, seval, h1, h14, h15, h16, h17, h18, F95_s2]
    · intro s8
      have h19 := lt_self (n := n.kids.length)
      simp -implicitDefEqProofs only [push_cast, hty, heq, h0, Proofs.Try.f95, g95_140, g95_95, seval, h1, h19, F95_f2]
theorem ev47 {E : Env} {N : Nat} (hB : N ≤ 4611686018427387904) (hty : E.ty = tys) (heq : E.eqt = eqts) (h0 : E.n0 = 0) (g47_95 : ∀ vs σ, E.tab 95 vs σ = plain (t95 N) vs σ) (n : Node) :
    bindO (aPure E Proofs.Try.f47 H47 N [.agg (Node.cells n)]) (cv sh47) = bindO (F47 N n) fun r => some (v47 r) := by
  unfold F47
  rw [r_pure]
  unfold sh47
  try simp -implicitDefEqProofs only [push_cast, hty, heq, h0, Proofs.Try.f47, g47_95, seval]
  try simp only [bindO_assoc]
  refine bindO_ext fun r1 => ?_
  simp -implicitDefEqProofs only [push_cast, hty, heq, h0, Proofs.Try.f47, g47_95, seval]
theorem ev92 {E : Env} {N : Nat} (hB : N ≤ 4611686018427387904) (self92 : Node → ByteArray → Option (Bool)) (hty : E.ty = tys) (heq : E.eqt = eqts) (h0 : E.n0 = 0) (g92_92 : ∀ vs σ, E.tab 92 vs σ = plain (ts92 self92) vs σ) (n : Node) (name : ByteArray) :
    bindO (aPure E Proofs.Try.f92 H92 N [.agg (Node.cells n), .str name]) (cv sh92) = bindO (F92b self92 N n name) fun r => some (v92 r) := by
  unfold F92b
  rw [r_pure]
  unfold sh92
  try simp -implicitDefEqProofs only [push_cast, hty, heq, h0, Proofs.Try.f92, g92_92, seval]
  try simp only [bindO_assoc]
  refine ite_ext (fun h1 => ?_) (fun h1 => ?_)
  · try simp -implicitDefEqProofs only [push_cast, hty, heq, h0, Proofs.Try.f92, g92_92, seval, h1]
    try simp only [bindO_assoc]
    refine ite_ext (fun h2 => ?_) (fun h2 => ?_)
    · try simp -implicitDefEqProofs only [push_cast, hty, heq, h0, Proofs.Try.f92, g92_92, seval, h1, h2]
      try simp only [bindO_assoc]
      refine ite_ext (fun h3 => ?_) (fun h3 => ?_)
      · simp -implicitDefEqProofs only [push_cast, hty, heq, h0, Proofs.Try.f92, g92_92, seval, h1, h2, h3]
      · try simp -implicitDefEqProofs only [push_cast, hty, heq, h0, Proofs.Try.f92, g92_92, seval, h1, h2, h3]
        try simp only [bindO_assoc]
        refine fold_loop (S := Unit) n.kids (fun (i1 : Nat) (s3 : Unit) => [.top, .str name, .top, .top, .top, .top, .top, .top, .top, .top, .top, .top, .top, .top, .top, .top, .top, .top, .top, .top, .top, .top, .top, .sl false 5 (List.map Node.cells n.kids), .int .i64 (n.kids.length : Int), .int .i64 (i1 : Int), .top, .top, .top, .top, .top, .top, .top]) (fun (_ : Nat) (s3 : Unit) => [.var [.int .i64 n.op, .int .i64 n.sortf, .str n.name, .int .i64 n.num, .sl false 5 (List.map Node.cells n.kids)]]) () ?_ ?_
        · intro s3 i1 x2 h4 h5 h6
          have h7 := rng_wrap h6 hB
          have h8 := lt_true h5
          have h9 := inB_lt h5
          have h10 := rng_get (c := Node.cells) h4
          have h11 := rng_getq (c := Node.cells) h4
          try simp -implicitDefEqProofs only [push_cast, hty, heq, h0, Proofs.Try.f92, g92_92, seval, h1, h2, h3, h7, h8, h9, h10, h11, F92_s1]
          try simp only [bindO_assoc]
          refine bindO_ext fun r4 => ?_
          try simp -implicitDefEqProofs only [push_cast, hty, heq, h0, Proofs.Try.f92, g92_92, seval, h1, h2, h3, h7, h8, h9, h10, h11, F92_s1]
          try simp only [bindO_assoc]
          refine ite_ext (fun h12 => ?_) (fun h12 => ?_)
          · simp -implicitDefEqProofs only [push_cast, hty, heq, h0, Proofs.Try.f92, g92_92, seval, h1, h2, h3, h7, h8, h9, h10, h11, F92_s1, h12]
          · simp -implicitDefEqProofs only [push_cast, hty, heq, h0, Proofs.Try.f92, g92_92, seval, h1, h2, h3, h7, h8, h9, h10, h11, F92_s1, h12]
        · intro s3
          have h13 := lt_self (n := n.kids.length)
          simp -implicitDefEqProofs only [push_cast, hty, heq, h0, Proofs.Try.f92, g92_92, seval, h1, h2, h3, h13, F92_f1]
    · try simp -implicitDefEqProofs only [push_cast, hty, heq, h0, Proofs.Try.f92, g92_92, seval, h1, h2]
      try simp only [bindO_assoc]
      refine fold_loop (S := Unit) n.kids (fun (i5 : Nat) (s7 : Unit) => [.top, .str name, .top, .top, .top, .top, .top, .top, .top, .top, .top, .top, .top, .top, .top, .top, .top, .top, .top, .top, .top, .top, .top, .sl false 5 (List.map Node.cells n.kids), .int .i64 (n.kids.length : Int), .int .i64 (i5 : Int), .top, .top, .top, .top, .top, .top, .top]) (fun (_ : Nat) (s7 : Unit) => [.var [.int .i64 n.op, .int .i64 n.sortf, .str n.name, .int .i64 n.num, .sl false 5 (List.map Node.cells n.kids)]]) () ?_ ?_
      · intro s7 i5 x6 h14 h15 h16
        have h17 := rng_wrap h16 hB
        have h18 := lt_true h15
        have h19 := inB_lt h15
        have h20 := rng_get (c := Node.cells) h14
        have h21 := rng_getq (c := Node.cells) h14
        try simp -implicitDefEqProofs only [push_cast, hty, heq, h0, Proofs.Try.f92, g92_92, seval, h1, h2, h17, h18, h19, h20, h21, F92_s2]
        try simp only [bindO_assoc]
        refine bindO_ext fun r8 => ?_
        try simp -implicitDefEqProofs only [push_cast, hty, heq, h0, Proofs.Try.f92, g92_92, seval, h1, h2, h17, h18, h19, h20, h21, F92_s2]
        try simp only [bindO_assoc]
        refine ite_ext (fun h22 => ?_) (fun h22 => ?_)
        · simp -implicitDefEqProofs only [push_cast, hty, heq, h0, Proofs.Try.f92, g92_92, seval, h1, h2, h17, h18, h19, h20, h21, F92_s2, h22]
        · simp -implicitDefEqProofs only [push_cast, hty, heq, h0, Proofs.Try.f92, g92_92, seval, h1, h2, h17, h18, h19, h20, h21, F92_s2, h22]
      · intro s7
        have h23 := lt_self (n := n.kids.length)
        simp -implicitDefEqProofs only [push_cast, hty, heq, h0, Proofs.Try.f92, g92_92, seval, h1, h2, h23, F92_f2]
  · try simp -implicitDefEqProofs only [push_cast, hty, heq, h0, Proofs.Try.f92, g92_92, seval, h1]
    try simp only [bindO_assoc]
    refine fold_loop (S := Unit) n.kids (fun (i9 : Nat) (s11 : Unit) => [.top, .str name, .top, .top, .top, .top, .top, .top, .top, .top, .top, .top, .top, .top, .top, .top, .top, .top, .top, .top, .top, .top, .top, .sl false 5 (List.map Node.cells n.kids), .int .i64 (n.kids.length : Int), .int .i64 (i9 : Int), .top, .top, .top, .top, .top, .top, .top]) (fun (_ : Nat) (s11 : Unit) => [.var [.int .i64 n.op, .int .i64 n.sortf, .str n.name, .int .i64 n.num, .sl false 5 (List.map Node.cells n.kids)]]) () ?_ ?_
    · intro s11 i9 x10 h24 h25 h26
      have h27 := rng_wrap h26 hB
      have h28 := lt_true h25
      have h29 := inB_lt h25
      have h30 := rng_get (c := Node.cells) h24
      have h31 := rng_getq (c := Node.cells) h24
      try simp -implicitDefEqProofs only [push_cast, hty, heq, h0, Proofs.Try.f92, g92_92, seval, h1, h27, h28, h29, h30, h31, F92_s3]
      try simp only [bindO_assoc]
      refine bindO_ext fun r12 => ?_
      try simp -implicitDefEqProofs only [push_cast, hty, heq, h0, Proofs.Try.f92, g92_92, seval, h1, h27, h28, h29, h30, h31, F92_s3]
      try simp only [bindO_assoc]
      refine ite_ext (fun h32 => ?_) (fun h32 => ?_)
      · simp -implicitDefEqProofs only [push_cast, hty, heq, h0, Proofs.Try.f92, g92_92, seval, h1, h27, h28, h29, h30, h31, F92_s3, h32]
      · simp -implicitDefEqProofs only [push_cast, hty, heq, h0, Proofs.Try.f92, g92_92, seval, h1, h27, h28, h29, h30, h31, F92_s3, h32]
    · intro s11
      have h33 := lt_self (n := n.kids.length)
      simp -implicitDefEqProofs only [push_cast, hty, heq, h0, Proofs.Try.f92, g92_92, seval, h1, h33, F92_f3]
theorem ev41 {E : Env} {N : Nat} (hB : N ≤ 4611686018427387904) (hty : E.ty = tys) (heq : E.eqt = eqts) (h0 : E.n0 = 0) (g41_47 : ∀ vs σ, E.tab 47 vs σ = plain (t47 N) vs σ) (g41_92 : ∀ vs σ, E.tab 92 vs σ = plain (t92 N) vs σ) (n : Node) :
    bindO (aPure E Proofs.Try.f41 H41 N [.agg (Node.cells n)]) (cv sh41) = bindO (F41 N n) fun r => some (v41 r) := by
  unfold F41
  rw [r_pure]
  unfold sh41
  try simp -implicitDefEqProofs only [push_cast, hty, heq, h0, Proofs.Try.f41, g41_47, g41_92, seval]
  try simp only [bindO_assoc]
  refine bindO_ext fun r1 => ?_
  try simp -implicitDefEqProofs only [push_cast, hty, heq, h0, Proofs.Try.f41, g41_47, g41_92, seval]
  try simp only [bindO_assoc]
  refine while_loop (S := Int) (fun (s2 : Int) => [.top, .ptr 0 0, .top, .sl false 2 (List.map Decl.cells r1), .int .i64 s2, .top, .top, .top, .top, .top, .top, .top, .top, .top, .top, .top, .top, .top, .top, .top, .top, .top, .top, .top, .top, .top, .top, .top, .top, .top, .top, .top, .top, .top, .top, .top, .top, .top]) (fun (s2 : Int) => [.var [.int .i64 n.op, .int .i64 n.sortf, .str n.name, .int .i64 n.num, .sl false 5 (List.map Node.cells n.kids)]]) ?_ N 1
  intro s2
  try simp -implicitDefEqProofs only [push_cast, hty, heq, h0, Proofs.Try.f41, g41_47, g41_92, seval, F41_s1]
  try simp only [bindO_assoc]
  refine ite_ext (fun h1 => ?_) (fun h1 => ?_)
  · try simp -implicitDefEqProofs only [push_cast, hty, heq, h0, Proofs.Try.f41, g41_47, g41_92, seval, F41_s1, h1]
    try simp only [bindO_assoc]
    refine at_sl (c := Decl.cells) fun x3 h2 h3 h4 h5 => ?_
    try simp only [Int.reduceToNat, Int.toNat_natCast] at h4 h5
    try simp -implicitDefEqProofs only [push_cast, hty, heq, h0, Proofs.Try.f41, g41_47, g41_92, seval, F41_s1, h1, h2, h4, h5]
    try simp only [bindO_assoc]
    refine at_sl (c := Decl.cells) fun x4 h6 h7 h8 h9 => ?_
    try simp only [Int.reduceToNat, Int.toNat_natCast] at h8 h9
    try simp -implicitDefEqProofs only [push_cast, hty, heq, h0, Proofs.Try.f41, g41_47, g41_92, seval, F41_s1, h1, h2, h4, h5, h6, h8, h9]
    try simp only [bindO_assoc]
    refine ite_ext (fun h10 => ?_) (fun h10 => ?_)
    · simp -implicitDefEqProofs only [push_cast, hty, heq, h0, Proofs.Try.f41, g41_47, g41_92, seval, F41_s1, h1, h2, h4, h5, h6, h8, h9, h10]
    · simp -implicitDefEqProofs only [push_cast, hty, heq, h0, Proofs.Try.f41, g41_47, g41_92, seval, F41_s1, h1, h2, h4, h5, h6, h8, h9, h10]
  · try simp -implicitDefEqProofs only [push_cast, hty, heq, h0, Proofs.Try.f41, g41_47, g41_92, seval, F41_s1, h1]
    try simp only [bindO_assoc]
    refine fold_loop (S := Unit) r1 (fun (i5 : Nat) (s7 : Unit) => [.top, .ptr 0 0, .top, .top, .top, .top, .top, .top, .top, .top, .top, .top, .top, .top, .top, .top, .top, .top, .top, .top, .top, .top, .top, .top, .top, .top, .top, .sl false 2 (List.map Decl.cells r1), .int .i64 (r1.length : Int), .int .i64 (i5 : Int), .top, .top, .top, .top, .top, .top, .top, .top]) (fun (_ : Nat) (s7 : Unit) => [.var [.int .i64 n.op, .int .i64 n.sortf, .str n.name, .int .i64 n.num, .sl false 5 (List.map Node.cells n.kids)]]) () ?_ ?_
    · intro s7 i5 x6 h11 h12 h13
      have h14 := rng_wrap h13 hB
      have h15 := lt_true h12
      have h16 := inB_lt h12
      have h17 := rng_get (c := Decl.cells) h11
      have h18 := rng_getq (c := Decl.cells) h11
      try simp -implicitDefEqProofs only [push_cast, hty, heq, h0, Proofs.Try.f41, g41_47, g41_92, seval, F41_s1, h1, h14, h15, h16, h17, h18, F41_s2]
      try simp only [bindO_assoc]
      refine bindO_ext fun r8 => ?_
      try simp -implicitDefEqProofs only [push_cast, hty, heq, h0, Proofs.Try.f41, g41_47, g41_92, seval, F41_s1, h1, h14, h15, h16, h17, h18, F41_s2]
      try simp only [bindO_assoc]
      refine ite_ext (fun h19 => ?_) (fun h19 => ?_)
      · simp -implicitDefEqProofs only [push_cast, hty, heq, h0, Proofs.Try.f41, g41_47, g41_92, seval, F41_s1, h1, h14, h15, h16, h17, h18, F41_s2, h19]
      · simp -implicitDefEqProofs only [push_cast, hty, heq, h0, Proofs.Try.f41, g41_47, g41_92, seval, F41_s1, h1, h14, h15, h16, h17, h18, F41_s2, h19]
    · intro s7
      have h20 := lt_self (n := r1.length)
      simp -implicitDefEqProofs only [push_cast, hty, heq, h0, Proofs.Try.f41, g41_47, g41_92, seval, F41_s1, h1, h20, F41_f2]
end Go.Abs.Try
