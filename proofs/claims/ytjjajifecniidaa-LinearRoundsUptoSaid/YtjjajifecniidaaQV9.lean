import Derived.Test.YtjjajifecniidaaQD
namespace Go.Abs.Try
open Go.RowKit
set_option linter.unusedSimpArgs false
set_option linter.unusedVariables false
set_option maxRecDepth 100000
set_option maxHeartbeats 4000000
attribute [local push_cast] ty3 ty22 ty24 ty117
theorem ev119 {E : Env} {N : Nat} (hB : N ≤ 4611686018427387904) (hty : E.ty = tys) (heq : E.eqt = eqts) (h0 : E.n0 = 0)  (s : Int) :
    bindO (aPure E Proofs.Try.f119 H119 N [.int .i64 s]) (cv sh119) = bindO (F119 s) fun r => some (v119 r) := by
  unfold F119
  rw [r_pure]
  unfold sh119
  try simp -implicitDefEqProofs only [push_cast, hty, heq, h0, Proofs.Try.f119, seval]
  try simp only [bindO_assoc]
  refine iten_ext (fun h1 => ?_) (fun h1 => ?_)
  · simp -implicitDefEqProofs only [push_cast, hty, heq, h0, Proofs.Try.f119, seval, h1]
  · try simp -implicitDefEqProofs only [push_cast, hty, heq, h0, Proofs.Try.f119, seval, h1]
    try simp only [bindO_assoc]
    refine iten_ext (fun h2 => ?_) (fun h2 => ?_)
    · simp -implicitDefEqProofs only [push_cast, hty, heq, h0, Proofs.Try.f119, seval, h1, h2]
    · try simp -implicitDefEqProofs only [push_cast, hty, heq, h0, Proofs.Try.f119, seval, h1, h2]
      try simp only [bindO_assoc]
      refine iten_ext (fun h3 => ?_) (fun h3 => ?_)
      · simp -implicitDefEqProofs only [push_cast, hty, heq, h0, Proofs.Try.f119, seval, h1, h2, h3]
      · simp -implicitDefEqProofs only [push_cast, hty, heq, h0, Proofs.Try.f119, seval, h1, h2, h3]
theorem ev120 {E : Env} {N : Nat} (hB : N ≤ 4611686018427387904) (hty : E.ty = tys) (heq : E.eqt = eqts) (h0 : E.n0 = 0)  (op : Int) :
    bindO (aPure E Proofs.Try.f120 H120 N [.int .i64 op]) (cv sh120) = bindO (F120 op) fun r => some (v120 r) := by
  unfold F120
  rw [r_pure]
  unfold sh120
  try simp -implicitDefEqProofs only [push_cast, hty, heq, h0, Proofs.Try.f120, seval]
  try simp only [bindO_assoc]
  refine ite_ext (fun h1 => ?_) (fun h1 => ?_)
  · simp -implicitDefEqProofs only [push_cast, hty, heq, h0, Proofs.Try.f120, seval, h1]
  · try simp -implicitDefEqProofs only [push_cast, hty, heq, h0, Proofs.Try.f120, seval, h1]
    try simp only [bindO_assoc]
    refine ite_ext (fun h2 => ?_) (fun h2 => ?_)
    · simp -implicitDefEqProofs only [push_cast, hty, heq, h0, Proofs.Try.f120, seval, h1, h2]
    · try simp -implicitDefEqProofs only [push_cast, hty, heq, h0, Proofs.Try.f120, seval, h1, h2]
      try simp only [bindO_assoc]
      refine ite_ext (fun h3 => ?_) (fun h3 => ?_)
      · simp -implicitDefEqProofs only [push_cast, hty, heq, h0, Proofs.Try.f120, seval, h1, h2, h3]
      · try simp -implicitDefEqProofs only [push_cast, hty, heq, h0, Proofs.Try.f120, seval, h1, h2, h3]
        try simp only [bindO_assoc]
        refine ite_ext (fun h4 => ?_) (fun h4 => ?_)
        · simp -implicitDefEqProofs only [push_cast, hty, heq, h0, Proofs.Try.f120, seval, h1, h2, h3, h4]
        · try simp -implicitDefEqProofs only [push_cast, hty, heq, h0, Proofs.Try.f120, seval, h1, h2, h3, h4]
          try simp only [bindO_assoc]
          refine ite_ext (fun h5 => ?_) (fun h5 => ?_)
          · simp -implicitDefEqProofs only [push_cast, hty, heq, h0, Proofs.Try.f120, seval, h1, h2, h3, h4, h5]
          · try simp -implicitDefEqProofs only [push_cast, hty, heq, h0, Proofs.Try.f120, seval, h1, h2, h3, h4, h5]
            try simp only [bindO_assoc]
            refine ite_ext (fun h6 => ?_) (fun h6 => ?_)
            · simp -implicitDefEqProofs only [push_cast, hty, heq, h0, Proofs.Try.f120, seval, h1, h2, h3, h4, h5, h6]
            · try simp -implicitDefEqProofs only [push_cast, hty, heq, h0, Proofs.Try.f120, seval, h1, h2, h3, h4, h5, h6]
              try simp only [bindO_assoc]
              refine ite_ext (fun h7 => ?_) (fun h7 => ?_)
              · simp -implicitDefEqProofs only [push_cast, hty, heq, h0, Proofs.Try.f120, seval, h1, h2, h3, h4, h5, h6, h7]
              · try simp -implicitDefEqProofs only [push_cast, hty, heq, h0, Proofs.Try.f120, seval, h1, h2, h3, h4, h5, h6, h7]
                try simp only [bindO_assoc]
                refine ite_ext (fun h8 => ?_) (fun h8 => ?_)
                · simp -implicitDefEqProofs only [push_cast, hty, heq, h0, Proofs.Try.f120, seval, h1, h2, h3, h4, h5, h6, h7, h8]
                · try simp -implicitDefEqProofs only [push_cast, hty, heq, h0, Proofs.Try.f120, seval, h1, h2, h3, h4, h5, h6, h7, h8]
                  try simp only [bindO_assoc]
                  refine ite_ext (fun h9 => ?_) (fun h9 => ?_)
                  · simp -implicitDefEqProofs only [push_cast, hty, heq, h0, Proofs.Try.f120, seval, h1, h2, h3, h4, h5, h6, h7, h8, h9]
                  · try simp -implicitDefEqProofs only [push_cast, hty, heq, h0, Proofs.Try.f120, seval, h1, h2, h3, h4, h5, h6, h7, h8, h9]
                    try simp only [bindO_assoc]
                    refine ite_ext (fun h10 => ?_) (fun h10 => ?_)
                    · simp -implicitDefEqProofs only [push_cast, hty, heq, h0, Proofs.Try.f120, seval, h1, h2, h3, h4, h5, h6, h7, h8, h9, h10]
                    · try simp -implicitDefEqProofs only [push_cast, hty, heq, h0, Proofs.Try.f120, seval, h1, h2, h3, h4, h5, h6, h7, h8, h9, h10]
                      try simp only [bindO_assoc]
                      refine ite_ext (fun h11 => ?_) (fun h11 => ?_)
                      · simp -implicitDefEqProofs only [push_cast, hty, heq, h0, Proofs.Try.f120, seval, h1, h2, h3, h4, h5, h6, h7, h8, h9, h10, h11]
                      · try simp -implicitDefEqProofs only [push_cast, hty, heq, h0, Proofs.Try.f120, seval, h1, h2, h3, h4, h5, h6, h7, h8, h9, h10, h11]
                        try simp only [bindO_assoc]
                        refine ite_ext (fun h12 => ?_) (fun h12 => ?_)
                        · simp -implicitDefEqProofs only [push_cast, hty, heq, h0, Proofs.Try.f120, seval, h1, h2, h3, h4, h5, h6, h7, h8, h9, h10, h11, h12]
                        · try simp -implicitDefEqProofs only [push_cast, hty, heq, h0, Proofs.Try.f120, seval, h1, h2, h3, h4, h5, h6, h7, h8, h9, h10, h11, h12]
                          try simp only [bindO_assoc]
                          refine ite_ext (fun h13 => ?_) (fun h13 => ?_)
                          · simp -implicitDefEqProofs only [push_cast, hty, heq, h0, Proofs.Try.f120, seval, h1, h2, h3, h4, h5, h6, h7, h8, h9, h10, h11, h12, h13]
                          · try simp -implicitDefEqProofs only [push_cast, hty, heq, h0, Proofs.Try.f120, seval, h1, h2, h3, h4, h5, h6, h7, h8, h9, h10, h11, h12, h13]
                            try simp only [bindO_assoc]
                            refine ite_ext (fun h14 => ?_) (fun h14 => ?_)
                            · simp -implicitDefEqProofs only [push_cast, hty, heq, h0, Proofs.Try.f120, seval, h1, h2, h3, h4, h5, h6, h7, h8, h9, h10, h11, h12, h13, h14]
                            · try simp -implicitDefEqProofs only [push_cast, hty, heq, h0, Proofs.Try.f120, seval, h1, h2, h3, h4, h5, h6, h7, h8, h9, h10, h11, h12, h13, h14]
                              try simp only [bindO_assoc]
                              refine ite_ext (fun h15 => ?_) (fun h15 => ?_)
                              · simp -implicitDefEqProofs only [push_cast, hty, heq, h0, Proofs.Try.f120, seval, h1, h2, h3, h4, h5, h6, h7, h8, h9, h10, h11, h12, h13, h14, h15]
                              · try simp -implicitDefEqProofs only [push_cast, hty, heq, h0, Proofs.Try.f120, seval, h1, h2, h3, h4, h5, h6, h7, h8, h9, h10, h11, h12, h13, h14, h15]
                                try simp only [bindO_assoc]
                                refine ite_ext (fun h16 => ?_) (fun h16 => ?_)
                                · simp -implicitDefEqProofs only [push_cast, hty, heq, h0, Proofs.Try.f120, seval, h1, h2, h3, h4, h5, h6, h7, h8, h9, h10, h11, h12, h13, h14, h15, h16]
                                · try simp -implicitDefEqProofs only [push_cast, hty, heq, h0, Proofs.Try.f120, seval, h1, h2, h3, h4, h5, h6, h7, h8, h9, h10, h11, h12, h13, h14, h15, h16]
                                  try simp only [bindO_assoc]
                                  refine ite_ext (fun h17 => ?_) (fun h17 => ?_)
                                  · simp -implicitDefEqProofs only [push_cast, hty, heq, h0, Proofs.Try.f120, seval, h1, h2, h3, h4, h5, h6, h7, h8, h9, h10, h11, h12, h13, h14, h15, h16, h17]
                                  · try simp -implicitDefEqProofs only [push_cast, hty, heq, h0, Proofs.Try.f120, seval, h1, h2, h3, h4, h5, h6, h7, h8, h9, h10, h11, h12, h13, h14, h15, h16, h17]
                                    try simp only [bindO_assoc]
                                    refine ite_ext (fun h18 => ?_) (fun h18 => ?_)
                                    · simp -implicitDefEqProofs only [push_cast, hty, heq, h0, Proofs.Try.f120, seval, h1, h2, h3, h4, h5, h6, h7, h8, h9, h10, h11, h12, h13, h14, h15, h16, h17, h18]
                                    · try simp -implicitDefEqProofs only [push_cast, hty, heq, h0, Proofs.Try.f120, seval, h1, h2, h3, h4, h5, h6, h7, h8, h9, h10, h11, h12, h13, h14, h15, h16, h17, h18]
                                      try simp only [bindO_assoc]
                                      refine ite_ext (fun h19 => ?_) (fun h19 => ?_)
                                      · simp -implicitDefEqProofs only [push_cast, hty, heq, h0, Proofs.Try.f120, seval, h1, h2, h3, h4, h5, h6, h7, h8, h9, h10, h11, h12, h13, h14, h15, h16, h17, h18, h19]
                                      · try simp -implicitDefEqProofs only [push_cast, hty, heq, h0, Proofs.Try.f120, seval, h1, h2, h3, h4, h5, h6, h7, h8, h9, h10, h11, h12, h13, h14, h15, h16, h17, h18, h19]
                                        try simp only [bindO_assoc]
                                        refine ite_ext (fun h20 => ?_) (fun h20 => ?_)
                                        · simp -implicitDefEqProofs only [push_cast, hty, heq, h0, Proofs.Try.f120, seval, h1, h2, h3, h4, h5, h6, h7, h8, h9, h10, h11, h12, h13, h14, h15, h16, h17, h18, h19, h20]
                                        · try simp -implicitDefEqProofs only [push_cast, hty, heq, h0, Proofs.Try.f120, seval, h1, h2, h3, h4, h5, h6, h7, h8, h9, h10, h11, h12, h13, h14, h15, h16, h17, h18, h19, h20]
                                          try simp only [bindO_assoc]
                                          refine ite_ext (fun h21 => ?_) (fun h21 => ?_)
                                          · simp -implicitDefEqProofs only [push_cast, hty, heq, h0, Proofs.Try.f120, seval, h1, h2, h3, h4, h5, h6, h7, h8, h9, h10, h11, h12, h13, h14, h15, h16, h17, h18, h19, h20, h21]
                                          · try simp -implicitDefEqProofs only [push_cast, hty, heq, h0, Proofs.Try.f120, seval, h1, h2, h3, h4, h5, h6, h7, h8, h9, h10, h11, h12, h13, h14, h15, h16, h17, h18, h19, h20, h21]
                                            try simp only [bindO_assoc]
                                            refine ite_ext (fun h22 => ?_) (fun h22 => ?_)
                                            · simp -implicitDefEqProofs only [push_cast, hty, heq, h0, Proofs.Try.f120, seval, h1, h2, h3, h4, h5, h6, h7, h8, h9, h10, h11, h12, h13, h14, h15, h16, h17, h18, h19, h20, h21, h22]
                                            · try simp -implicitDefEqProofs only [push_cast, hty, heq, h0, Proofs.Try.f120, seval, h1, h2, h3, h4, h5, h6, h7, h8, h9, h10, h11, h12, h13, h14, h15, h16, h17, h18, h19, h20, h21, h22]
                                              try simp only [bindO_assoc]
                                              refine ite_ext (fun h23 => ?_) (fun h23 => ?_)
                                              · simp -implicitDefEqProofs only [push_cast, hty, heq, h0, Proofs.Try.f120, seval, h1, h2, h3, h4, h5, h6, h7, h8, h9, h10, h11, h12, h13, h14, h15, h16, h17, h18, h19, h20, h21, h22, h23]
                                              · try simp -implicitDefEqProofs only [push_cast, hty, heq, h0, Proofs.Try.f120, seval, h1, h2, h3, h4, h5, h6, h7, h8, h9, h10, h11, h12, h13, h14, h15, h16, h17, h18, h19, h20, h21, h22, h23]
                                                try simp only [bindO_assoc]
                                                refine ite_ext (fun h24 => ?_) (fun h24 => ?_)
                                                · simp -implicitDefEqProofs only [push_cast, hty, heq, h0, Proofs.Try.f120, seval, h1, h2, h3, h4, h5, h6, h7, h8, h9, h10, h11, h12, h13, h14, h15, h16, h17, h18, h19, h20, h21, h22, h23, h24]
                                                · try simp -implicitDefEqProofs only [push_cast, hty, heq, h0, Proofs.Try.f120, seval, h1, h2, h3, h4, h5, h6, h7, h8, h9, h10, h11, h12, h13, h14, h15, h16, h17, h18, h19, h20, h21, h22, h23, h24]
                                                  try simp only [bindO_assoc]
                                                  refine ite_ext (fun h25 => ?_) (fun h25 => ?_)
                                                  · simp -implicitDefEqProofs only [push_cast, hty, heq, h0, Proofs.Try.f120, seval, h1, h2, h3, h4, h5, h6, h7, h8, h9, h10, h11, h12, h13, h14, h15, h16, h17, h18, h19, h20, h21, h22, h23, h24, h25]
                                                  · simp -implicitDefEqProofs only [push_cast, hty, heq, h0, Proofs.Try.f120, seval, h1, h2, h3, h4, h5, h6, h7, h8, h9, h10, h11, h12, h13, h14, h15, h16, h17, h18, h19, h20, h21, h22, h23, h24, h25]
theorem ev72 {E : Env} {N : Nat} (hB : N ≤ 4611686018427387904) (self72 : Node → Option (Bool)) (hty : E.ty = tys) (heq : E.eqt = eqts) (h0 : E.n0 = 0) (g72_118 : ∀ vs σ, E.tab 118 vs σ = plain (t118 N) vs σ) (g72_72 : ∀ vs σ, E.tab 72 vs σ = plain (ts72 self72) vs σ) (g72_28 : ∀ vs σ, E.tab 28 vs σ = plain (t28 N) vs σ) (g72_119 : ∀ vs σ, E.tab 119 vs σ = plain (t119) vs σ) (g72_120 : ∀ vs σ, E.tab 120 vs σ = plain (t120) vs σ) (n : Node) :
    bindO (aPure E Proofs.Try.f72 H72 N [.agg (Node.cells n)]) (cv sh72) = bindO (F72b self72 N n) fun r => some (v72 r) := by
  unfold F72b
  rw [r_pure]
  unfold sh72
  try simp -implicitDefEqProofs only [push_cast, hty, heq, h0, Proofs.Try.f72, g72_118, g72_72, g72_28, g72_119, g72_120, seval]
  try simp only [bindO_assoc]
  refine bindO_ext fun r1 => ?_
  try simp -implicitDefEqProofs only [push_cast, hty, heq, h0, Proofs.Try.f72, g72_118, g72_72, g72_28, g72_119, g72_120, seval]
  try simp only [bindO_assoc]
  refine iten_ext (fun h1 => ?_) (fun h1 => ?_)
  · try simp -implicitDefEqProofs only [push_cast, hty, heq, h0, Proofs.Try.f72, g72_118, g72_72, g72_28, g72_119, g72_120, seval, h1]
    try simp only [bindO_assoc]
    refine fold_loop (S := Unit) n.kids (fun (i2 : Nat) (s4 : Unit) => [.top, .ptr 0 0, .top, .top, .top, .top, .top, .top, .top, .top, .top, .top, .top, .sl false 5 (List.map Node.cells n.kids), .int .i64 (n.kids.length : Int), .int .i64 (i2 : Int), .top, .top, .top, .top, .top, .top, .top, .top, .top, .top, .top, .top, .top, .top, .top, .top, .top, .top, .top, .top, .top, .top, .top, .top, .top, .top, .top, .top, .top, .top, .top, .top, .top, .top, .top, .top, .top, .top, .top, .top, .top, .top, .top, .top, .top, .top, .top, .top, .top, .top, .top, .top, .top, .top, .top, .top, .top, .top, .top, .top, .top, .top, .top, .top, .top, .top, .top, .top, .top, .top, .top, .top, .top, .top, .top, .top, .top, .top, .top, .top, .top, .top, .top, .top, .top, .top, .top, .top, .top, .top, .top, .top, .top, .top, .top, .top, .top, .top, .top, .top, .top, .top, .top, .top, .top, .top, .top, .top, .top, .top, .top, .top, .top, .top, .top, .top, .top, .top, .top, .top, .top]) (fun (_ : Nat) (s4 : Unit) => [.var [.int .i64 n.op, .int .i64 n.sortf, .str n.name, .int .i64 n.num, .sl false 5 (List.map Node.cells n.kids)]]) () ?_ ?_
    · intro s4 i2 x3 h2 h3 h4
      have h5 := rng_wrap h4 hB
      have h6 := lt_true h3
      have h7 := inB_lt h3
      have h8 := rng_get (c := Node.cells) h2
      have h9 := rng_getq (c := Node.cells) h2
      try simp -implicitDefEqProofs only [push_cast, hty, heq, h0, Proofs.Try.f72, g72_118, g72_72, g72_28, g72_119, g72_120, seval, h1, h5, h6, h7, h8, h9, F72_s1]
      try simp only [bindO_assoc]
      refine bindO_ext fun r5 => ?_
      try simp -implicitDefEqProofs only [push_cast, hty, heq, h0, Proofs.Try.f72, g72_118, g72_72, g72_28, g72_119, g72_120, seval, h1, h5, h6, h7, h8, h9, F72_s1]
      try simp only [bindO_assoc]
      refine iten_ext (fun h10 => ?_) (fun h10 => ?_)
      · simp -implicitDefEqProofs only [push_cast, hty, heq, h0, Proofs.Try.f72, g72_118, g72_72, g72_28, g72_119, g72_120, seval, h1, h5, h6, h7, h8, h9, F72_s1, h10]
      · simp -implicitDefEqProofs only [push_cast, hty, heq, h0, Proofs.Try.f72, g72_118, g72_72, g72_28, g72_119, g72_120, seval, h1, h5, h6, h7, h8, h9, F72_s1, h10]
    · intro s4
      have h11 := lt_self (n := n.kids.length)
      try simp -implicitDefEqProofs only [push_cast, hty, heq, h0, Proofs.Try.f72, g72_118, g72_72, g72_28, g72_119, g72_120, seval, h1, h11, F72_f1]
      try simp only [bindO_assoc]
      refine ite_ext (fun h12 => ?_) (fun h12 => ?_)
      · simp -implicitDefEqProofs only [push_cast, hty, heq, h0, Proofs.Try.f72, g72_118, g72_72, g72_28, g72_119, g72_120, seval, h1, h11, F72_f1, h12]
      · try simp -implicitDefEqProofs only [push_cast, hty, heq, h0, Proofs.Try.f72, g72_118, g72_72, g72_28, g72_119, g72_120, seval, h1, h11, F72_f1, h12]
        try simp only [bindO_assoc]
        refine ite_ext (fun h13 => ?_) (fun h13 => ?_)
        · try simp -implicitDefEqProofs only [push_cast, hty, heq, h0, Proofs.Try.f72, g72_118, g72_72, g72_28, g72_119, g72_120, seval, h1, h11, F72_f1, h12, h13]
          try simp only [bindO_assoc]
          refine ite_ext (fun h14 => ?_) (fun h14 => ?_)
          · simp -implicitDefEqProofs only [push_cast, hty, heq, h0, Proofs.Try.f72, g72_118, g72_72, g72_28, g72_119, g72_120, seval, h1, h11, F72_f1, h12, h13, h14]
          · simp -implicitDefEqProofs only [push_cast, hty, heq, h0, Proofs.Try.f72, g72_118, g72_72, g72_28, g72_119, g72_120, seval, h1, h11, F72_f1, h12, h13, h14]
        · try simp -implicitDefEqProofs only [push_cast, hty, heq, h0, Proofs.Try.f72, g72_118, g72_72, g72_28, g72_119, g72_120, seval, h1, h11, F72_f1, h12, h13]
          try simp only [bindO_assoc]
          refine ite_ext (fun h15 => ?_) (fun h15 => ?_)
          · try simp -implicitDefEqProofs only [push_cast, hty, heq, h0, Proofs.Try.f72, g72_118, g72_72, g72_28, g72_119, g72_120, seval, h1, h11, F72_f1, h12, h13, h15]
            try simp only [bindO_assoc]
            refine ite_ext (fun h16 => ?_) (fun h16 => ?_)
            · try simp -implicitDefEqProofs only [push_cast, hty, heq, h0, Proofs.Try.f72, g72_118, g72_72, g72_28, g72_119, g72_120, seval, h1, h11, F72_f1, h12, h13, h15, h16]
              try simp only [bindO_assoc]
              refine at_sl (c := Node.cells) fun x6 h17 h18 h19 h20 => ?_
              try simp only [Int.reduceToNat, Int.toNat_natCast] at h19 h20
              try simp -implicitDefEqProofs only [push_cast, hty, heq, h0, Proofs.Try.f72, g72_118, g72_72, g72_28, g72_119, g72_120, seval, h1, h11, F72_f1, h12, h13, h15, h16, h17, h19, h20]
              try simp only [bindO_assoc]
              refine bindO_ext fun r7 => ?_
              try simp -implicitDefEqProofs only [push_cast, hty, heq, h0, Proofs.Try.f72, g72_118, g72_72, g72_28, g72_119, g72_120, seval, h1, h11, F72_f1, h12, h13, h15, h16, h17, h19, h20]
              try simp only [bindO_assoc]
              refine at_sl (c := Node.cells) fun x8 h21 h22 h23 h24 => ?_
              try simp only [Int.reduceToNat, Int.toNat_natCast] at h23 h24
              try simp -implicitDefEqProofs only [push_cast, hty, heq, h0, Proofs.Try.f72, g72_118, g72_72, g72_28, g72_119, g72_120, seval, h1, h11, F72_f1, h12, h13, h15, h16, h17, h19, h20, h21, h23, h24]
              try simp only [bindO_assoc]
              refine bindO_ext fun r9 => ?_
              try simp -implicitDefEqProofs only [push_cast, hty, heq, h0, Proofs.Try.f72, g72_118, g72_72, g72_28, g72_119, g72_120, seval, h1, h11, F72_f1, h12, h13, h15, h16, h17, h19, h20, h21, h23, h24]
              try simp only [bindO_assoc]
              refine ite_ext (fun h25 => ?_) (fun h25 => ?_)
              · try simp -implicitDefEqProofs only [push_cast, hty, heq, h0, Proofs.Try.f72, g72_118, g72_72, g72_28, g72_119, g72_120, seval, h1, h11, F72_f1, h12, h13, h15, h16, h17, h19, h20, h21, h23, h24, h25]
                try simp only [bindO_assoc]
                refine bindO_ext fun r10 => ?_
                try simp -implicitDefEqProofs only [push_cast, hty, heq, h0, Proofs.Try.f72, g72_118, g72_72, g72_28, g72_119, g72_120, seval, h1, h11, F72_f1, h12, h13, h15, h16, h17, h19, h20, h21, h23, h24, h25]
                try simp only [bindO_assoc]
                refine bindO_ext fun r11 => ?_
                simp -implicitDefEqProofs only [push_cast, hty, heq, h0, Proofs.Try.f72, g72_118, g72_72, g72_28, g72_119, g72_120, seval, h1, h11, F72_f1, h12, h13, h15, h16, h17, h19, h20, h21, h23, h24, h25]
              · simp -implicitDefEqProofs only [push_cast, hty, heq, h0, Proofs.Try.f72, g72_118, g72_72, g72_28, g72_119, g72_120, seval, h1, h11, F72_f1, h12, h13, h15, h16, h17, h19, h20, h21, h23, h24, h25]
            · simp -implicitDefEqProofs only [push_cast, hty, heq, h0, Proofs.Try.f72, g72_118, g72_72, g72_28, g72_119, g72_120, seval, h1, h11, F72_f1, h12, h13, h15, h16]
          · try simp -implicitDefEqProofs only [push_cast, hty, heq, h0, Proofs.Try.f72, g72_118, g72_72, g72_28, g72_119, g72_120, seval, h1, h11, F72_f1, h12, h13, h15]
            try simp only [bindO_assoc]
            refine ite_ext (fun h26 => ?_) (fun h26 => ?_)
            · try simp -implicitDefEqProofs only [push_cast, hty, heq, h0, Proofs.Try.f72, g72_118, g72_72, g72_28, g72_119, g72_120, seval, h1, h11, F72_f1, h12, h13, h15, h26]
              try simp only [bindO_assoc]
              refine ite_ext (fun h27 => ?_) (fun h27 => ?_)
              · try simp -implicitDefEqProofs only [push_cast, hty, heq, h0, Proofs.Try.f72, g72_118, g72_72, g72_28, g72_119, g72_120, seval, h1, h11, F72_f1, h12, h13, h15, h26, h27]
                try simp only [bindO_assoc]
                refine at_sl (c := Node.cells) fun x12 h28 h29 h30 h31 => ?_
                try simp only [Int.reduceToNat, Int.toNat_natCast] at h30 h31
                try simp -implicitDefEqProofs only [push_cast, hty, heq, h0, Proofs.Try.f72, g72_118, g72_72, g72_28, g72_119, g72_120, seval, h1, h11, F72_f1, h12, h13, h15, h26, h27, h28, h30, h31]
                try simp only [bindO_assoc]
                refine bindO_ext fun r13 => ?_
                try simp -implicitDefEqProofs only [push_cast, hty, heq, h0, Proofs.Try.f72, g72_118, g72_72, g72_28, g72_119, g72_120, seval, h1, h11, F72_f1, h12, h13, h15, h26, h27, h28, h30, h31]
                try simp only [bindO_assoc]
                refine ite_ext (fun h32 => ?_) (fun h32 => ?_)
                · try simp -implicitDefEqProofs only [push_cast, hty, heq, h0, Proofs.Try.f72, g72_118, g72_72, g72_28, g72_119, g72_120, seval, h1, h11, F72_f1, h12, h13, h15, h26, h27, h28, h30, h31, h32]
                  try simp only [bindO_assoc]
                  refine at_sl (c := Node.cells) fun x14 h33 h34 h35 h36 => ?_
                  try simp only [Int.reduceToNat, Int.toNat_natCast] at h35 h36
                  try simp -implicitDefEqProofs only [push_cast, hty, heq, h0, Proofs.Try.f72, g72_118, g72_72, g72_28, g72_119, g72_120, seval, h1, h11, F72_f1, h12, h13, h15, h26, h27, h28, h30, h31, h32, h33, h35, h36]
                  try simp only [bindO_assoc]
                  refine bindO_ext fun r15 => ?_
                  try simp -implicitDefEqProofs only [push_cast, hty, heq, h0, Proofs.Try.f72, g72_118, g72_72, g72_28, g72_119, g72_120, seval, h1, h11, F72_f1, h12, h13, h15, h26, h27, h28, h30, h31, h32, h33, h35, h36]
                  try simp only [bindO_assoc]
                  refine at_sl (c := Node.cells) fun x16 h37 h38 h39 h40 => ?_
                  try simp only [Int.reduceToNat, Int.toNat_natCast] at h39 h40
                  try simp -implicitDefEqProofs only [push_cast, hty, heq, h0, Proofs.Try.f72, g72_118, g72_72, g72_28, g72_119, g72_120, seval, h1, h11, F72_f1, h12, h13, h15, h26, h27, h28, h30, h31, h32, h33, h35, h36, h37, h39, h40]
                  try simp only [bindO_assoc]
                  refine bindO_ext fun r17 => ?_
                  try simp -implicitDefEqProofs only [push_cast, hty, heq, h0, Proofs.Try.f72, g72_118, g72_72, g72_28, g72_119, g72_120, seval, h1, h11, F72_f1, h12, h13, h15, h26, h27, h28, h30, h31, h32, h33, h35, h36, h37, h39, h40]
                  try simp only [bindO_assoc]
                  refine ite_ext (fun h41 => ?_) (fun h41 => ?_)
                  · try simp -implicitDefEqProofs only [push_cast, hty, heq, h0, Proofs.Try.f72, g72_118, g72_72, g72_28, g72_119, g72_120, seval, h1, h11, F72_f1, h12, h13, h15, h26, h27, h28, h30, h31, h32, h33, h35, h36, h37, h39, h40, h41]
                    try simp only [bindO_assoc]
                    refine bindO_ext fun r18 => ?_
                    try simp -implicitDefEqProofs only [push_cast, hty, heq, h0, Proofs.Try.f72, g72_118, g72_72, g72_28, g72_119, g72_120, seval, h1, h11, F72_f1, h12, h13, h15, h26, h27, h28, h30, h31, h32, h33, h35, h36, h37, h39, h40, h41]
                    try simp only [bindO_assoc]
                    refine bindO_ext fun r19 => ?_
                    simp -implicitDefEqProofs only [push_cast, hty, heq, h0, Proofs.Try.f72, g72_118, g72_72, g72_28, g72_119, g72_120, seval, h1, h11, F72_f1, h12, h13, h15, h26, h27, h28, h30, h31, h32, h33, h35, h36, h37, h39, h40, h41]
                  · simp -implicitDefEqProofs only [push_cast, hty, heq, h0, Proofs.Try.f72, g72_118, g72_72, g72_28, g72_119, g72_120, seval, h1, h11, F72_f1, h12, h13, h15, h26, h27, h28, h30, h31, h32, h33, h35, h36, h37, h39, h40, h41]
                · simp -implicitDefEqProofs only [push_cast, hty, heq, h0, Proofs.Try.f72, g72_118, g72_72, g72_28, g72_119, g72_120, seval, h1, h11, F72_f1, h12, h13, h15, h26, h27, h28, h30, h31, h32]
              · simp -implicitDefEqProofs only [push_cast, hty, heq, h0, Proofs.Try.f72, g72_118, g72_72, g72_28, g72_119, g72_120, seval, h1, h11, F72_f1, h12, h13, h15, h26, h27]
            · try simp -implicitDefEqProofs only [push_cast, hty, heq, h0, Proofs.Try.f72, g72_118, g72_72, g72_28, g72_119, g72_120, seval, h1, h11, F72_f1, h12, h13, h15, h26]
              try simp only [bindO_assoc]
              refine bindO_ext fun r20 => ?_
              try simp -implicitDefEqProofs only [push_cast, hty, heq, h0, Proofs.Try.f72, g72_118, g72_72, g72_28, g72_119, g72_120, seval, h1, h11, F72_f1, h12, h13, h15, h26]
              try simp only [bindO_assoc]
              refine ite_ext (fun h42 => ?_) (fun h42 => ?_)
              · try simp -implicitDefEqProofs only [push_cast, hty, heq, h0, Proofs.Try.f72, g72_118, g72_72, g72_28, g72_119, g72_120, seval, h1, h11, F72_f1, h12, h13, h15, h26, h42]
                try simp only [bindO_assoc]
                refine iten_ext (fun h43 => ?_) (fun h43 => ?_)
                · try simp -implicitDefEqProofs only [push_cast, hty, heq, h0, Proofs.Try.f72, g72_118, g72_72, g72_28, g72_119, g72_120, seval, h1, h11, F72_f1, h12, h13, h15, h26, h42, h43]
                  try simp only [bindO_assoc]
                  refine fold_loop (S := Unit) r20.1 (fun (i21 : Nat) (s23 : Unit) => [.top, .ptr 0 0, .top, .top, .top, .top, .top, .top, .top, .top, .top, .top, .top, .top, .top, .top, .top, .top, .top, .top, .top, .top, .top, .top, .top, .top, .top, .top, .top, .top, .top, .top, .top, .top, .top, .top, .top, .top, .top, .top, .top, .top, .top, .top, .top, .top, .top, .top, .top, .top, .top, .top, .top, .top, .top, .top, .top, .top, .top, .top, .top, .top, .top, .top, .top, .top, .top, .top, .top, .top, .top, .top, .top, .top, .top, .top, .top, .top, .top, .top, .top, .top, .top, .top, .top, .top, .top, .top, .top, .top, .top, .top, .top, .top, .top, .top, .top, .top, .top, .top, .top, .top, .top, .top, .top, .top, .top, .top, .top, .top, .top, .top, .top, .top, .top, .top, .top, .top, .top, .top, .top, .sl false 1 (List.map (cI .i64) r20.1), .int .i64 (r20.1.length : Int), .int .i64 (i21 : Int), .top, .top, .top, .top, .top, .top, .top, .top, .top, .top, .top, .top, .top]) (fun (_ : Nat) (s23 : Unit) => [.var [.int .i64 n.op, .int .i64 n.sortf, .str n.name, .int .i64 n.num, .sl false 5 (List.map Node.cells n.kids)]]) () ?_ ?_
                  · intro s23 i21 x22 h44 h45 h46
                    have h47 := rng_wrap h46 hB
                    have h48 := lt_true h45
                    have h49 := inB_lt h45
                    have h50 := rng_get (c := (cI .i64)) h44
                    have h51 := rng_getq (c := (cI .i64)) h44
                    try simp -implicitDefEqProofs only [push_cast, hty, heq, h0, Proofs.Try.f72, g72_118, g72_72, g72_28, g72_119, g72_120, seval, h1, h11, F72_f1, h12, h13, h15, h26, h42, h43, h47, h48, h49, h50, h51, F72_s2]
                    try simp only [bindO_assoc]
                    refine at_sl (c := Node.cells) fun x24 h52 h53 h54 h55 => ?_
                    try simp only [Int.reduceToNat, Int.toNat_natCast] at h54 h55
                    try simp -implicitDefEqProofs only [push_cast, hty, heq, h0, Proofs.Try.f72, g72_118, g72_72, g72_28, g72_119, g72_120, seval, h1, h11, F72_f1, h12, h13, h15, h26, h42, h43, h47, h48, h49, h50, h51, F72_s2, h52, h54, h55]
                    try simp only [bindO_assoc]
                    refine bindO_ext fun r25 => ?_
                    try simp -implicitDefEqProofs only [push_cast, hty, heq, h0, Proofs.Try.f72, g72_118, g72_72, g72_28, g72_119, g72_120, seval, h1, h11, F72_f1, h12, h13, h15, h26, h42, h43, h47, h48, h49, h50, h51, F72_s2, h52, h54, h55]
                    try simp only [bindO_assoc]
                    refine iten_ext (fun h56 => ?_) (fun h56 => ?_)
                    · simp -implicitDefEqProofs only [push_cast, hty, heq, h0, Proofs.Try.f72, g72_118, g72_72, g72_28, g72_119, g72_120, seval, h1, h11, F72_f1, h12, h13, h15, h26, h42, h43, h47, h48, h49, h50, h51, F72_s2, h52, h54, h55, h56]
                    · simp -implicitDefEqProofs only [push_cast, hty, heq, h0, Proofs.Try.f72, g72_118, g72_72, g72_28, g72_119, g72_120, seval, h1, h11, F72_f1, h12, h13, h15, h26, h42, h43, h47, h48, h49, h50, h51, F72_s2, h52, h54, h55, h56]
                  · intro s23
                    have h57 := lt_self (n := r20.1.length)
                    simp -implicitDefEqProofs only [push_cast, hty, heq, h0, Proofs.Try.f72, g72_118, g72_72, g72_28, g72_119, g72_120, seval, h1, h11, F72_f1, h12, h13, h15, h26, h42, h43, h57, F72_f2]
                · simp -implicitDefEqProofs only [push_cast, hty, heq, h0, Proofs.Try.f72, g72_118, g72_72, g72_28, g72_119, g72_120, seval, h1, h11, F72_f1, h12, h13, h15, h26, h42, h43]
              · simp -implicitDefEqProofs only [push_cast, hty, heq, h0, Proofs.Try.f72, g72_118, g72_72, g72_28, g72_119, g72_120, seval, h1, h11, F72_f1, h12, h13, h15, h26, h42]
  · simp -implicitDefEqProofs only [push_cast, hty, heq, h0, Proofs.Try.f72, g72_118, g72_72, g72_28, g72_119, g72_120, seval, h1]
end Go.Abs.Try
