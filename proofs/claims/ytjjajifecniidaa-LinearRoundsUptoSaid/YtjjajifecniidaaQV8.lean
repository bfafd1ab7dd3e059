import Derived.Test.YtjjajifecniidaaQD
namespace Go.Abs.Try
open Go.RowKit
set_option linter.unusedSimpArgs false
set_option linter.unusedVariables false
set_option maxRecDepth 100000
set_option maxHeartbeats 4000000
attribute [local push_cast] ty2 ty3 ty9 ty22 ty24 ty34
theorem ev39 {E : Env} {N : Nat} (hB : N ≤ 4611686018427387904) (self39 : Node → Option (Int)) (hty : E.ty = tys) (heq : E.eqt = eqts) (h0 : E.n0 = 0) (g39_39 : ∀ vs σ, E.tab 39 vs σ = plain (ts39 self39) vs σ) (n : Node) :
    bindO (aPure E Proofs.Try.f39 H39 N [.agg (Node.cells n)]) (cv sh39) = bindO (F39b self39 N n) fun r => some (v39 r) := by
  unfold F39b
  rw [r_pure]
  unfold sh39
  try simp -implicitDefEqProofs only [push_cast, hty, heq, h0, Proofs.Try.f39, g39_39, seval]
  try simp only [bindO_assoc]
  refine fold_loop (S := Int) n.kids (fun (i1 : Nat) (s3 : Int) => [.top, .top, .top, .int .i64 s3, .top, .top, .top, .sl false 5 (List.map Node.cells n.kids), .int .i64 (n.kids.length : Int), .int .i64 (i1 : Int), .top, .top, .top, .top, .top, .top, .top, .top, .top, .top]) (fun (_ : Nat) (s3 : Int) => [.var [.int .i64 n.op, .int .i64 n.sortf, .str n.name, .int .i64 n.num, .sl false 5 (List.map Node.cells n.kids)]]) 0 ?_ ?_
  · intro s3 i1 x2 h1 h2 h3
    have h4 := rng_wrap h3 hB
    have h5 := lt_true h2
    have h6 := inB_lt h2
    have h7 := rng_get (c := Node.cells) h1
    have h8 := rng_getq (c := Node.cells) h1
    try simp -implicitDefEqProofs only [push_cast, hty, heq, h0, Proofs.Try.f39, g39_39, seval, h4, h5, h6, h7, h8, F39_s1]
    try simp only [bindO_assoc]
    refine bindO_ext fun r4 => ?_
    simp -implicitDefEqProofs only [push_cast, hty, heq, h0, Proofs.Try.f39, g39_39, seval, h4, h5, h6, h7, h8, F39_s1]
  · intro s3
    have h9 := lt_self (n := n.kids.length)
    simp -implicitDefEqProofs only [push_cast, hty, heq, h0, Proofs.Try.f39, g39_39, seval, h9, F39_f1]
theorem ev75 {E : Env} {N : Nat} (hB : N ≤ 4611686018427387904) (hty : E.ty = tys) (heq : E.eqt = eqts) (h0 : E.n0 = 0)  (c : Int) :
    bindO (aPure E Proofs.Try.f75 H75 N [.int .u8 c]) (cv sh75) = bindO (F75 c) fun r => some (v75 r) := by
  unfold F75
  rw [r_pure]
  unfold sh75
  try simp -implicitDefEqProofs only [push_cast, hty, heq, h0, Proofs.Try.f75, seval]
  try simp only [bindO_assoc]
  refine ite_ext (fun h1 => ?_) (fun h1 => ?_)
  · try simp -implicitDefEqProofs only [push_cast, hty, heq, h0, Proofs.Try.f75, seval, h1]
    try simp only [bindO_assoc]
    refine iten_ext (fun h2 => ?_) (fun h2 => ?_)
    · simp -implicitDefEqProofs only [push_cast, hty, heq, h0, Proofs.Try.f75, seval, h1, h2]
    · try simp -implicitDefEqProofs only [push_cast, hty, heq, h0, Proofs.Try.f75, seval, h1, h2]
      try simp only [bindO_assoc]
      refine ite_ext (fun h3 => ?_) (fun h3 => ?_)
      · simp -implicitDefEqProofs only [push_cast, hty, heq, h0, Proofs.Try.f75, seval, h1, h2, h3]
      · simp -implicitDefEqProofs only [push_cast, hty, heq, h0, Proofs.Try.f75, seval, h1, h2, h3]
  · try simp -implicitDefEqProofs only [push_cast, hty, heq, h0, Proofs.Try.f75, seval, h1]
    try simp only [bindO_assoc]
    refine ite_ext (fun h4 => ?_) (fun h4 => ?_)
    · simp -implicitDefEqProofs only [push_cast, hty, heq, h0, Proofs.Try.f75, seval, h1, h4]
    · simp -implicitDefEqProofs only [push_cast, hty, heq, h0, Proofs.Try.f75, seval, h1, h4]
theorem ev121 {E : Env} {N : Nat} (hB : N ≤ 4611686018427387904) (hty : E.ty = tys) (heq : E.eqt = eqts) (h0 : E.n0 = 0)   :
    bindO (aPure E Proofs.Try.f121 H121 N []) (cv sh121) = bindO (F121) fun r => some (v121 r) := by
  unfold F121
  rw [r_pure]
  unfold sh121
  simp -implicitDefEqProofs only [push_cast, hty, heq, h0, Proofs.Try.f121, seval]
theorem ev76 {E : Env} {N : Nat} (hB : N ≤ 4611686018427387904) (hty : E.ty = tys) (heq : E.eqt = eqts) (h0 : E.n0 = 0) (g76_121 : ∀ vs σ, E.tab 121 vs σ = plain (t121) vs σ) (s : ByteArray) :
    bindO (aPure E Proofs.Try.f76 H76 N [.str s]) (cv sh76) = bindO (F76 N s) fun r => some (v76 r) := by
  unfold F76
  rw [r_pure]
  unfold sh76
  try simp -implicitDefEqProofs only [push_cast, hty, heq, h0, Proofs.Try.f76, g76_121, seval]
  try simp only [bindO_assoc]
  refine bindO_ext fun r1 => ?_
  try simp -implicitDefEqProofs only [push_cast, hty, heq, h0, Proofs.Try.f76, g76_121, seval]
  try simp only [bindO_assoc]
  refine fold_loop (S := Unit) r1 (fun (i2 : Nat) (s4 : Unit) => [.str s, .top, .top, .top, .top, .sl false 1 (List.map cS r1), .int .i64 (r1.length : Int), .int .i64 (i2 : Int), .top, .top, .top, .top, .top, .top, .top]) (fun (_ : Nat) (s4 : Unit) => []) () ?_ ?_
  · intro s4 i2 x3 h1 h2 h3
    have h4 := rng_wrap h3 hB
    have h5 := lt_true h2
    have h6 := inB_lt h2
    have h7 := rng_get (c := cS) h1
    have h8 := rng_getq (c := cS) h1
    try simp -implicitDefEqProofs only [push_cast, hty, heq, h0, Proofs.Try.f76, g76_121, seval, h4, h5, h6, h7, h8, F76_s1]
    try simp only [bindO_assoc]
    refine ite_ext (fun h9 => ?_) (fun h9 => ?_)
    · simp -implicitDefEqProofs only [push_cast, hty, heq, h0, Proofs.Try.f76, g76_121, seval, h4, h5, h6, h7, h8, F76_s1, h9]
    · simp -implicitDefEqProofs only [push_cast, hty, heq, h0, Proofs.Try.f76, g76_121, seval, h4, h5, h6, h7, h8, F76_s1, h9]
  · intro s4
    have h10 := lt_self (n := r1.length)
    simp -implicitDefEqProofs only [push_cast, hty, heq, h0, Proofs.Try.f76, g76_121, seval, h10, F76_f1]
theorem ev77 {E : Env} {N : Nat} (hB : N ≤ 4611686018427387904) (hty : E.ty = tys) (heq : E.eqt = eqts) (h0 : E.n0 = 0)  (c : Int) :
    bindO (aPure E Proofs.Try.f77 H77 N [.int .u8 c]) (cv sh77) = bindO (F77 c) fun r => some (v77 r) := by
  unfold F77
  rw [r_pure]
  unfold sh77
  try simp -implicitDefEqProofs only [push_cast, hty, heq, h0, Proofs.Try.f77, seval]
  try simp only [bindO_assoc]
  refine ite_ext (fun h1 => ?_) (fun h1 => ?_)
  · simp -implicitDefEqProofs only [push_cast, hty, heq, h0, Proofs.Try.f77, seval, h1]
  · simp -implicitDefEqProofs only [push_cast, hty, heq, h0, Proofs.Try.f77, seval, h1]
theorem ev17 {E : Env} {N : Nat} (hB : N ≤ 4611686018427387904) (hty : E.ty = tys) (heq : E.eqt = eqts) (h0 : E.n0 = 0) (g17_75 : ∀ vs σ, E.tab 75 vs σ = plain (t75) vs σ) (g17_76 : ∀ vs σ, E.tab 76 vs σ = plain (t76 N) vs σ) (g17_77 : ∀ vs σ, E.tab 77 vs σ = plain (t77) vs σ) (s : ByteArray) :
    bindO (aPure E Proofs.Try.f17 H17 N [.str s]) (cv sh17) = bindO (F17 N s) fun r => some (v17 r) := by
  unfold F17
  rw [r_pure]
  unfold sh17
  try simp -implicitDefEqProofs only [push_cast, hty, heq, h0, Proofs.Try.f17, g17_75, g17_76, g17_77, seval]
  try simp only [bindO_assoc]
  refine iten_ext (fun h1 => ?_) (fun h1 => ?_)
  · simp -implicitDefEqProofs only [push_cast, hty, heq, h0, Proofs.Try.f17, g17_75, g17_76, g17_77, seval, h1]
  · try simp -implicitDefEqProofs only [push_cast, hty, heq, h0, Proofs.Try.f17, g17_75, g17_76, g17_77, seval, h1]
    try simp only [bindO_assoc]
    refine iten_ext (fun h2 => ?_) (fun h2 => ?_)
    · simp -implicitDefEqProofs only [push_cast, hty, heq, h0, Proofs.Try.f17, g17_75, g17_76, g17_77, seval, h1, h2]
    · try simp -implicitDefEqProofs only [push_cast, hty, heq, h0, Proofs.Try.f17, g17_75, g17_76, g17_77, seval, h1, h2]
      try simp only [bindO_assoc]
      refine ite_ext (fun h3 => ?_) (fun h3 => ?_)
      · try simp -implicitDefEqProofs only [push_cast, hty, heq, h0, Proofs.Try.f17, g17_75, g17_76, g17_77, seval, h1, h2, h3]
        try simp only [bindO_assoc]
        refine bindO_ext fun r1 => ?_
        try simp -implicitDefEqProofs only [push_cast, hty, heq, h0, Proofs.Try.f17, g17_75, g17_76, g17_77, seval, h1, h2, h3]
        try simp only [bindO_assoc]
        refine ite_ext (fun h4 => ?_) (fun h4 => ?_)
        · try simp -implicitDefEqProofs only [push_cast, hty, heq, h0, Proofs.Try.f17, g17_75, g17_76, g17_77, seval, h1, h2, h3, h4]
          try simp only [bindO_assoc]
          refine bindO_ext fun r2 => ?_
          try simp -implicitDefEqProofs only [push_cast, hty, heq, h0, Proofs.Try.f17, g17_75, g17_76, g17_77, seval, h1, h2, h3, h4]
          try simp only [bindO_assoc]
          refine ite_ext (fun h5 => ?_) (fun h5 => ?_)
          · simp -implicitDefEqProofs only [push_cast, hty, heq, h0, Proofs.Try.f17, g17_75, g17_76, g17_77, seval, h1, h2, h3, h4, h5]
          · try simp -implicitDefEqProofs only [push_cast, hty, heq, h0, Proofs.Try.f17, g17_75, g17_76, g17_77, seval, h1, h2, h3, h4, h5]
            try simp only [bindO_assoc]
            refine while_loop (S := Int) (fun (s3 : Int) => [.str s, .top, .top, .int .i64 s3, .top, .top, .top, .top, .top, .top, .top, .top, .top, .top, .top, .top, .top, .top, .top, .top, .top, .top, .top, .top, .top, .top, .top, .top, .top, .top, .top, .top, .top, .top, .top, .top, .top, .top, .top, .top, .top, .top, .top, .top, .top, .top]) (fun (s3 : Int) => []) ?_ N 1
            intro s3
            try simp -implicitDefEqProofs only [push_cast, hty, heq, h0, Proofs.Try.f17, g17_75, g17_76, g17_77, seval, h1, h2, h3, h4, h5, F17_s1]
            try simp only [bindO_assoc]
            refine ite_ext (fun h6 => ?_) (fun h6 => ?_)
            · try simp -implicitDefEqProofs only [push_cast, hty, heq, h0, Proofs.Try.f17, g17_75, g17_76, g17_77, seval, h1, h2, h3, h4, h5, F17_s1, h6]
              try simp only [bindO_assoc]
              refine ite_ext (fun h7 => ?_) (fun h7 => ?_)
              · try simp -implicitDefEqProofs only [push_cast, hty, heq, h0, Proofs.Try.f17, g17_75, g17_76, g17_77, seval, h1, h2, h3, h4, h5, F17_s1, h6, h7]
                try simp only [bindO_assoc]
                refine bindO_ext fun r4 => ?_
                try simp -implicitDefEqProofs only [push_cast, hty, heq, h0, Proofs.Try.f17, g17_75, g17_76, g17_77, seval, h1, h2, h3, h4, h5, F17_s1, h6, h7]
                try simp only [bindO_assoc]
                refine iten_ext (fun h8 => ?_) (fun h8 => ?_)
                · simp -implicitDefEqProofs only [push_cast, hty, heq, h0, Proofs.Try.f17, g17_75, g17_76, g17_77, seval, h1, h2, h3, h4, h5, F17_s1, h6, h7, h8]
                · try simp -implicitDefEqProofs only [push_cast, hty, heq, h0, Proofs.Try.f17, g17_75, g17_76, g17_77, seval, h1, h2, h3, h4, h5, F17_s1, h6, h7, h8]
                  try simp only [bindO_assoc]
                  refine bindO_ext fun r5 => ?_
                  try simp -implicitDefEqProofs only [push_cast, hty, heq, h0, Proofs.Try.f17, g17_75, g17_76, g17_77, seval, h1, h2, h3, h4, h5, F17_s1, h6, h7, h8]
                  try simp only [bindO_assoc]
                  refine iten_ext (fun h9 => ?_) (fun h9 => ?_)
                  · simp -implicitDefEqProofs only [push_cast, hty, heq, h0, Proofs.Try.f17, g17_75, g17_76, g17_77, seval, h1, h2, h3, h4, h5, F17_s1, h6, h7, h8, h9]
                  · try simp -implicitDefEqProofs only [push_cast, hty, heq, h0, Proofs.Try.f17, g17_75, g17_76, g17_77, seval, h1, h2, h3, h4, h5, F17_s1, h6, h7, h8, h9]
                    try simp only [bindO_assoc]
                    refine iten_ext (fun h10 => ?_) (fun h10 => ?_)
                    · simp -implicitDefEqProofs only [push_cast, hty, heq, h0, Proofs.Try.f17, g17_75, g17_76, g17_77, seval, h1, h2, h3, h4, h5, F17_s1, h6, h7, h8, h9, h10]
                    · simp -implicitDefEqProofs only [push_cast, hty, heq, h0, Proofs.Try.f17, g17_75, g17_76, g17_77, seval, h1, h2, h3, h4, h5, F17_s1, h6, h7, h8, h9, h10]
              · simp -implicitDefEqProofs only [push_cast, hty, heq, h0, Proofs.Try.f17, g17_75, g17_76, g17_77, seval, h1, h2, h3, h4, h5, F17_s1, h6, h7]
            · simp -implicitDefEqProofs only [push_cast, hty, heq, h0, Proofs.Try.f17, g17_75, g17_76, g17_77, seval, h1, h2, h3, h4, h5, F17_s1, h6]
        · simp -implicitDefEqProofs only [push_cast, hty, heq, h0, Proofs.Try.f17, g17_75, g17_76, g17_77, seval, h1, h2, h3, h4]
      · simp -implicitDefEqProofs only [push_cast, hty, heq, h0, Proofs.Try.f17, g17_75, g17_76, g17_77, seval, h1, h2, h3]
theorem ev118 {E : Env} {N : Nat} (hB : N ≤ 4611686018427387904) (hty : E.ty = tys) (heq : E.eqt = eqts) (h0 : E.n0 = 0) (g118_17 : ∀ vs σ, E.tab 17 vs σ = plain (t17 N) vs σ) (n : Node) :
    bindO (aPure E Proofs.Try.f118 H118 N [.agg (Node.cells n)]) (cv sh118) = bindO (F118 N n) fun r => some (v118 r) := by
  unfold F118
  rw [r_pure]
  unfold sh118
  try simp -implicitDefEqProofs only [push_cast, hty, heq, h0, Proofs.Try.f118, g118_17, seval]
  try simp only [bindO_assoc]
  refine iten_ext (fun h1 => ?_) (fun h1 => ?_)
  · try simp -implicitDefEqProofs only [push_cast, hty, heq, h0, Proofs.Try.f118, g118_17, seval, h1]
    try simp only [bindO_assoc]
    refine bindO_ext fun r2 => ?_
    try simp -implicitDefEqProofs only [push_cast, hty, heq, h0, Proofs.Try.f118, g118_17, seval, h1]
    try simp only [bindO_assoc]
    refine ite_ext (fun h2 => ?_) (fun h2 => ?_)
    · try simp -implicitDefEqProofs only [push_cast, hty, heq, h0, Proofs.Try.f118, g118_17, seval, h1, h2]
      try simp only [bindO_assoc]
      refine iten_ext (fun h3 => ?_) (fun h3 => ?_)
      · simp -implicitDefEqProofs only [push_cast, hty, heq, h0, Proofs.Try.f118, g118_17, seval, h1, h2, h3]
      · try simp -implicitDefEqProofs only [push_cast, hty, heq, h0, Proofs.Try.f118, g118_17, seval, h1, h2, h3]
        try simp only [bindO_assoc]
        refine iten_ext (fun h4 => ?_) (fun h4 => ?_)
        · simp -implicitDefEqProofs only [push_cast, hty, heq, h0, Proofs.Try.f118, g118_17, seval, h1, h2, h3, h4]
        · try simp -implicitDefEqProofs only [push_cast, hty, heq, h0, Proofs.Try.f118, g118_17, seval, h1, h2, h3, h4]
          try simp only [bindO_assoc]
          refine ite_ext (fun h5 => ?_) (fun h5 => ?_)
          · try simp -implicitDefEqProofs only [push_cast, hty, heq, h0, Proofs.Try.f118, g118_17, seval, h1, h2, h3, h4, h5]
            try simp only [bindO_assoc]
            refine ite_ext (fun h6 => ?_) (fun h6 => ?_)
            · simp -implicitDefEqProofs only [push_cast, hty, heq, h0, Proofs.Try.f118, g118_17, seval, h1, h2, h3, h4, h5, h6]
            · simp -implicitDefEqProofs only [push_cast, hty, heq, h0, Proofs.Try.f118, g118_17, seval, h1, h2, h3, h4, h5, h6]
          · try simp -implicitDefEqProofs only [push_cast, hty, heq, h0, Proofs.Try.f118, g118_17, seval, h1, h2, h3, h4, h5]
            try simp only [bindO_assoc]
            refine ite_ext (fun h7 => ?_) (fun h7 => ?_)
            · try simp -implicitDefEqProofs only [push_cast, hty, heq, h0, Proofs.Try.f118, g118_17, seval, h1, h2, h3, h4, h5, h7]
              try simp only [bindO_assoc]
              refine ite_ext (fun h8 => ?_) (fun h8 => ?_)
              · simp -implicitDefEqProofs only [push_cast, hty, heq, h0, Proofs.Try.f118, g118_17, seval, h1, h2, h3, h4, h5, h7, h8]
              · simp -implicitDefEqProofs only [push_cast, hty, heq, h0, Proofs.Try.f118, g118_17, seval, h1, h2, h3, h4, h5, h7, h8]
            · try simp -implicitDefEqProofs only [push_cast, hty, heq, h0, Proofs.Try.f118, g118_17, seval, h1, h2, h3, h4, h5, h7]
              try simp only [bindO_assoc]
              refine ite_ext (fun h9 => ?_) (fun h9 => ?_)
              · try simp -implicitDefEqProofs only [push_cast, hty, heq, h0, Proofs.Try.f118, g118_17, seval, h1, h2, h3, h4, h5, h7, h9]
                try simp only [bindO_assoc]
                refine ite_ext (fun h10 => ?_) (fun h10 => ?_)
                · simp -implicitDefEqProofs only [push_cast, hty, heq, h0, Proofs.Try.f118, g118_17, seval, h1, h2, h3, h4, h5, h7, h9, h10]
                · simp -implicitDefEqProofs only [push_cast, hty, heq, h0, Proofs.Try.f118, g118_17, seval, h1, h2, h3, h4, h5, h7, h9, h10]
              · simp -implicitDefEqProofs only [push_cast, hty, heq, h0, Proofs.Try.f118, g118_17, seval, h1, h2, h3, h4, h5, h7, h9]
    · simp -implicitDefEqProofs only [push_cast, hty, heq, h0, Proofs.Try.f118, g118_17, seval, h1, h2]
  · try simp -implicitDefEqProofs only [push_cast, hty, heq, h0, Proofs.Try.f118, g118_17, seval, h1]
    try simp only [bindO_assoc]
    refine ite_ext (fun h11 => ?_) (fun h11 => ?_)
    · try simp -implicitDefEqProofs only [push_cast, hty, heq, h0, Proofs.Try.f118, g118_17, seval, h1, h11]
      try simp only [bindO_assoc]
      refine bindO_ext fun r1 => ?_
      try simp -implicitDefEqProofs only [push_cast, hty, heq, h0, Proofs.Try.f118, g118_17, seval, h1, h11]
      try simp only [bindO_assoc]
      refine ite_ext (fun h12 => ?_) (fun h12 => ?_)
      · try simp -implicitDefEqProofs only [push_cast, hty, heq, h0, Proofs.Try.f118, g118_17, seval, h1, h11, h12]
        try simp only [bindO_assoc]
        refine iten_ext (fun h13 => ?_) (fun h13 => ?_)
        · simp -implicitDefEqProofs only [push_cast, hty, heq, h0, Proofs.Try.f118, g118_17, seval, h1, h11, h12, h13]
        · try simp -implicitDefEqProofs only [push_cast, hty, heq, h0, Proofs.Try.f118, g118_17, seval, h1, h11, h12, h13]
          try simp only [bindO_assoc]
          refine iten_ext (fun h14 => ?_) (fun h14 => ?_)
          · simp -implicitDefEqProofs only [push_cast, hty, heq, h0, Proofs.Try.f118, g118_17, seval, h1, h11, h12, h13, h14]
          · try simp -implicitDefEqProofs only [push_cast, hty, heq, h0, Proofs.Try.f118, g118_17, seval, h1, h11, h12, h13, h14]
            try simp only [bindO_assoc]
            refine ite_ext (fun h15 => ?_) (fun h15 => ?_)
            · try simp -implicitDefEqProofs only [push_cast, hty, heq, h0, Proofs.Try.f118, g118_17, seval, h1, h11, h12, h13, h14, h15]
              try simp only [bindO_assoc]
              refine ite_ext (fun h16 => ?_) (fun h16 => ?_)
              · simp -implicitDefEqProofs only [push_cast, hty, heq, h0, Proofs.Try.f118, g118_17, seval, h1, h11, h12, h13, h14, h15, h16]
              · simp -implicitDefEqProofs only [push_cast, hty, heq, h0, Proofs.Try.f118, g118_17, seval, h1, h11, h12, h13, h14, h15, h16]
            · try simp -implicitDefEqProofs only [push_cast, hty, heq, h0, Proofs.Try.f118, g118_17, seval, h1, h11, h12, h13, h14, h15]
              try simp only [bindO_assoc]
              refine ite_ext (fun h17 => ?_) (fun h17 => ?_)
              · try simp -implicitDefEqProofs only [push_cast, hty, heq, h0, Proofs.Try.f118, g118_17, seval, h1, h11, h12, h13, h14, h15, h17]
                try simp only [bindO_assoc]
                refine ite_ext (fun h18 => ?_) (fun h18 => ?_)
                · simp -implicitDefEqProofs only [push_cast, hty, heq, h0, Proofs.Try.f118, g118_17, seval, h1, h11, h12, h13, h14, h15, h17, h18]
                · simp -implicitDefEqProofs only [push_cast, hty, heq, h0, Proofs.Try.f118, g118_17, seval, h1, h11, h12, h13, h14, h15, h17, h18]
              · try simp -implicitDefEqProofs only [push_cast, hty, heq, h0, Proofs.Try.f118, g118_17, seval, h1, h11, h12, h13, h14, h15, h17]
                try simp only [bindO_assoc]
                refine ite_ext (fun h19 => ?_) (fun h19 => ?_)
                · try simp -implicitDefEqProofs only [push_cast, hty, heq, h0, Proofs.Try.f118, g118_17, seval, h1, h11, h12, h13, h14, h15, h17, h19]
                  try simp only [bindO_assoc]
                  refine ite_ext (fun h20 => ?_) (fun h20 => ?_)
                  · simp -implicitDefEqProofs only [push_cast, hty, heq, h0, Proofs.Try.f118, g118_17, seval, h1, h11, h12, h13, h14, h15, h17, h19, h20]
                  · simp -implicitDefEqProofs only [push_cast, hty, heq, h0, Proofs.Try.f118, g118_17, seval, h1, h11, h12, h13, h14, h15, h17, h19, h20]
                · simp -implicitDefEqProofs only [push_cast, hty, heq, h0, Proofs.Try.f118, g118_17, seval, h1, h11, h12, h13, h14, h15, h17, h19]
      · simp -implicitDefEqProofs only [push_cast, hty, heq, h0, Proofs.Try.f118, g118_17, seval, h1, h11, h12]
    · try simp -implicitDefEqProofs only [push_cast, hty, heq, h0, Proofs.Try.f118, g118_17, seval, h1, h11]
      try simp only [bindO_assoc]
      refine ite_ext (fun h21 => ?_) (fun h21 => ?_)
      · try simp -implicitDefEqProofs only [push_cast, hty, heq, h0, Proofs.Try.f118, g118_17, seval, h1, h11, h21]
        try simp only [bindO_assoc]
        refine iten_ext (fun h22 => ?_) (fun h22 => ?_)
        · try simp -implicitDefEqProofs only [push_cast, hty, heq, h0, Proofs.Try.f118, g118_17, seval, h1, h11, h21, h22]
          try simp only [bindO_assoc]
          refine ite_ext (fun h23 => ?_) (fun h23 => ?_)
          · try simp -implicitDefEqProofs only [push_cast, hty, heq, h0, Proofs.Try.f118, g118_17, seval, h1, h11, h21, h22, h23]
            try simp only [bindO_assoc]
            refine ite_ext (fun h24 => ?_) (fun h24 => ?_)
            · simp -implicitDefEqProofs only [push_cast, hty, heq, h0, Proofs.Try.f118, g118_17, seval, h1, h11, h21, h22, h23, h24]
            · simp -implicitDefEqProofs only [push_cast, hty, heq, h0, Proofs.Try.f118, g118_17, seval, h1, h11, h21, h22, h23, h24]
          · try simp -implicitDefEqProofs only [push_cast, hty, heq, h0, Proofs.Try.f118, g118_17, seval, h1, h11, h21, h22, h23]
            try simp only [bindO_assoc]
            refine ite_ext (fun h25 => ?_) (fun h25 => ?_)
            · try simp -implicitDefEqProofs only [push_cast, hty, heq, h0, Proofs.Try.f118, g118_17, seval, h1, h11, h21, h22, h23, h25]
              try simp only [bindO_assoc]
              refine ite_ext (fun h26 => ?_) (fun h26 => ?_)
              · simp -implicitDefEqProofs only [push_cast, hty, heq, h0, Proofs.Try.f118, g118_17, seval, h1, h11, h21, h22, h23, h25, h26]
              · simp -implicitDefEqProofs only [push_cast, hty, heq, h0, Proofs.Try.f118, g118_17, seval, h1, h11, h21, h22, h23, h25, h26]
            · try simp -implicitDefEqProofs only [push_cast, hty, heq, h0, Proofs.Try.f118, g118_17, seval, h1, h11, h21, h22, h23, h25]
              try simp only [bindO_assoc]
              refine ite_ext (fun h27 => ?_) (fun h27 => ?_)
              · try simp -implicitDefEqProofs only [push_cast, hty, heq, h0, Proofs.Try.f118, g118_17, seval, h1, h11, h21, h22, h23, h25, h27]
                try simp only [bindO_assoc]
                refine ite_ext (fun h28 => ?_) (fun h28 => ?_)
                · simp -implicitDefEqProofs only [push_cast, hty, heq, h0, Proofs.Try.f118, g118_17, seval, h1, h11, h21, h22, h23, h25, h27, h28]
                · simp -implicitDefEqProofs only [push_cast, hty, heq, h0, Proofs.Try.f118, g118_17, seval, h1, h11, h21, h22, h23, h25, h27, h28]
              · simp -implicitDefEqProofs only [push_cast, hty, heq, h0, Proofs.Try.f118, g118_17, seval, h1, h11, h21, h22, h23, h25, h27]
        · simp -implicitDefEqProofs only [push_cast, hty, heq, h0, Proofs.Try.f118, g118_17, seval, h1, h11, h21, h22]
      · simp -implicitDefEqProofs only [push_cast, hty, heq, h0, Proofs.Try.f118, g118_17, seval, h1, h11, h21]
end Go.Abs.Try
