import Derived.Test.YtjjajifecniidaaQD
namespace Go.Abs.Try
open Go.RowKit
set_option linter.unusedSimpArgs false
set_option linter.unusedVariables false
set_option maxRecDepth 100000
set_option maxHeartbeats 4000000
attribute [local push_cast] ty2 ty3 ty4 ty9 ty22 ty24
theorem ev84 {E : Env} {N : Nat} (hB : N ≤ 4611686018427387904) (hty : E.ty = tys) (heq : E.eqt = eqts) (h0 : E.n0 = 0)  (op : Int) (a : Node) (b : Node) :
    bindO (aPure E Proofs.Try.f84 H84 N [.int .i64 op, .agg (Node.cells a), .agg (Node.cells b)]) (cv sh84) = bindO (F84 op a b) fun r => some (v84 r) := by
  unfold F84
  rw [r_pure]
  unfold sh84
  simp -implicitDefEqProofs only [push_cast, hty, heq, h0, Proofs.Try.f84, seval]
theorem ev37 {E : Env} {N : Nat} (hB : N ≤ 4611686018427387904) (hty : E.ty = tys) (heq : E.eqt = eqts) (h0 : E.n0 = 0) (g37_91 : ∀ vs σ, E.tab 91 vs σ = plain (t91) vs σ) (q37_136 : ∀ cs, E.seq (.fn 136 cs) = sq136 cs) (n : Node) :
    bindO (aPure E Proofs.Try.f37 H37 N [.agg (Node.cells n)]) (cv sh37) = bindO (F37 n) fun r => some (v37 r) := by
  unfold F37
  rw [r_pure]
  unfold sh37
  try simp -implicitDefEqProofs only [push_cast, hty, heq, h0, Proofs.Try.f37, g37_91, q37_136, seval]
  try simp only [bindO_assoc]
  refine bindO_ext fun l1 => ?_
  try simp -implicitDefEqProofs only [push_cast, hty, heq, h0, Proofs.Try.f37, g37_91, q37_136, seval]
  try simp only [bindO_assoc]
  refine range_loop (S := Int) e136 (fun (s3 : Int) => [.var [.int .i64 n.op, .int .i64 n.sortf, .str n.name, .int .i64 n.num, .sl false 5 (List.map Node.cells n.kids)], .var [.int .i64 s3]]) ?_ ?_ l1 0
  · intro s3 x2
    simp -implicitDefEqProofs only [push_cast, hty, heq, h0, Proofs.Try.f37, g37_91, q37_136, seval, F37_s1]
  · intro s3
    simp -implicitDefEqProofs only [push_cast, hty, heq, h0, Proofs.Try.f37, g37_91, q37_136, seval, F37_f1]
theorem ev38 {E : Env} {N : Nat} (hB : N ≤ 4611686018427387904) (self38 : Node → Option (Int)) (hty : E.ty = tys) (heq : E.eqt = eqts) (h0 : E.n0 = 0) (g38_38 : ∀ vs σ, E.tab 38 vs σ = plain (ts38 self38) vs σ) (n : Node) :
    bindO (aPure E Proofs.Try.f38 H38 N [.agg (Node.cells n)]) (cv sh38) = bindO (F38b self38 N n) fun r => some (v38 r) := by
  unfold F38b
  rw [r_pure]
  unfold sh38
  try simp -implicitDefEqProofs only [push_cast, hty, heq, h0, Proofs.Try.f38, g38_38, seval]
  try simp only [bindO_assoc]
  refine fold_loop (S := Int) n.kids (fun (i1 : Nat) (s3 : Int) => [.top, .top, .top, .int .i64 s3, .top, .top, .top, .sl false 5 (List.map Node.cells n.kids), .int .i64 (n.kids.length : Int), .int .i64 (i1 : Int), .top, .top, .top, .top, .top, .top, .top, .top, .top, .top]) (fun (_ : Nat) (s3 : Int) => [.var [.int .i64 n.op, .int .i64 n.sortf, .str n.name, .int .i64 n.num, .sl false 5 (List.map Node.cells n.kids)]]) 0 ?_ ?_
  · intro s3 i1 x2 h1 h2 h3
    have h4 := rng_wrap h3 hB
    have h5 := lt_true h2
    have h6 := inB_lt h2
    have h7 := rng_get (c := Node.cells) h1
    have h8 := rng_getq (c := Node.cells) h1
    try simp -implicitDefEqProofs only [push_cast, hty, heq, h0, Proofs.Try.f38, g38_38, seval, h4, h5, h6, h7, h8, F38_s1]
    try simp only [bindO_assoc]
    refine bindO_ext fun r4 => ?_
    simp -implicitDefEqProofs only [push_cast, hty, heq, h0, Proofs.Try.f38, g38_38, seval, h4, h5, h6, h7, h8, F38_s1]
  · intro s3
    have h9 := lt_self (n := n.kids.length)
    simp -implicitDefEqProofs only [push_cast, hty, heq, h0, Proofs.Try.f38, g38_38, seval, h9, F38_f1]
theorem ev70 {E : Env} {N : Nat} (hB : N ≤ 4611686018427387904) (hty : E.ty = tys) (heq : E.eqt = eqts) (h0 : E.n0 = 0) (g70_37 : ∀ vs σ, E.tab 37 vs σ = plain (t37) vs σ) (g70_38 : ∀ vs σ, E.tab 38 vs σ = plain (t38 N) vs σ) (n : Node) :
    bindO (aPure E Proofs.Try.f70 H70 N [.agg (Node.cells n)]) (cv sh70) = bindO (F70 N n) fun r => some (v70 r) := by
  unfold F70
  rw [r_pure]
  unfold sh70
  try simp -implicitDefEqProofs only [push_cast, hty, heq, h0, Proofs.Try.f70, g70_37, g70_38, seval]
  try simp only [bindO_assoc]
  refine bindO_ext fun r1 => ?_
  try simp -implicitDefEqProofs only [push_cast, hty, heq, h0, Proofs.Try.f70, g70_37, g70_38, seval]
  try simp only [bindO_assoc]
  refine ite_ext (fun h1 => ?_) (fun h1 => ?_)
  · try simp -implicitDefEqProofs only [push_cast, hty, heq, h0, Proofs.Try.f70, g70_37, g70_38, seval, h1]
    try simp only [bindO_assoc]
    refine bindO_ext fun r2 => ?_
    simp -implicitDefEqProofs only [push_cast, hty, heq, h0, Proofs.Try.f70, g70_37, g70_38, seval, h1]
  · simp -implicitDefEqProofs only [push_cast, hty, heq, h0, Proofs.Try.f70, g70_37, g70_38, seval, h1]
theorem ev73 {E : Env} {N : Nat} (hB : N ≤ 4611686018427387904) (hty : E.ty = tys) (heq : E.eqt = eqts) (h0 : E.n0 = 0)  (c : Int) :
    bindO (aPure E Proofs.Try.f73 H73 N [.int .u8 c]) (cv sh73) = bindO (F73 c) fun r => some (v73 r) := by
  unfold F73
  rw [r_pure]
  unfold sh73
  try simp -implicitDefEqProofs only [push_cast, hty, heq, h0, Proofs.Try.f73, seval]
  try simp only [bindO_assoc]
  refine ite_ext (fun h1 => ?_) (fun h1 => ?_)
  · try simp -implicitDefEqProofs only [push_cast, hty, heq, h0, Proofs.Try.f73, seval, h1]
    try simp only [bindO_assoc]
    refine iten_ext (fun h2 => ?_) (fun h2 => ?_)
    · simp -implicitDefEqProofs only [push_cast, hty, heq, h0, Proofs.Try.f73, seval, h1, h2]
    · try simp -implicitDefEqProofs only [push_cast, hty, heq, h0, Proofs.Try.f73, seval, h1, h2]
      try simp only [bindO_assoc]
      refine ite_ext (fun h3 => ?_) (fun h3 => ?_)
      · simp -implicitDefEqProofs only [push_cast, hty, heq, h0, Proofs.Try.f73, seval, h1, h2, h3]
      · simp -implicitDefEqProofs only [push_cast, hty, heq, h0, Proofs.Try.f73, seval, h1, h2, h3]
  · try simp -implicitDefEqProofs only [push_cast, hty, heq, h0, Proofs.Try.f73, seval, h1]
    try simp only [bindO_assoc]
    refine ite_ext (fun h4 => ?_) (fun h4 => ?_)
    · simp -implicitDefEqProofs only [push_cast, hty, heq, h0, Proofs.Try.f73, seval, h1, h4]
    · simp -implicitDefEqProofs only [push_cast, hty, heq, h0, Proofs.Try.f73, seval, h1, h4]
theorem ev74 {E : Env} {N : Nat} (hB : N ≤ 4611686018427387904) (hty : E.ty = tys) (heq : E.eqt = eqts) (h0 : E.n0 = 0)  (s : ByteArray) :
    bindO (aPure E Proofs.Try.f74 H74 N [.str s]) (cv sh74) = bindO (F74 s) fun r => some (v74 r) := by
  unfold F74
  rw [r_pure]
  unfold sh74
  try simp -implicitDefEqProofs only [push_cast, hty, heq, h0, Proofs.Try.f74, seval]
  try simp only [bindO_assoc]
  refine ite_ext (fun h1 => ?_) (fun h1 => ?_)
  · simp -implicitDefEqProofs only [push_cast, hty, heq, h0, Proofs.Try.f74, seval, h1]
  · try simp -implicitDefEqProofs only [push_cast, hty, heq, h0, Proofs.Try.f74, seval, h1]
    try simp only [bindO_assoc]
    refine ite_ext (fun h2 => ?_) (fun h2 => ?_)
    · simp -implicitDefEqProofs only [push_cast, hty, heq, h0, Proofs.Try.f74, seval, h1, h2]
    · try simp -implicitDefEqProofs only [push_cast, hty, heq, h0, Proofs.Try.f74, seval, h1, h2]
      try simp only [bindO_assoc]
      refine ite_ext (fun h3 => ?_) (fun h3 => ?_)
      · simp -implicitDefEqProofs only [push_cast, hty, heq, h0, Proofs.Try.f74, seval, h1, h2, h3]
      · try simp -implicitDefEqProofs only [push_cast, hty, heq, h0, Proofs.Try.f74, seval, h1, h2, h3]
        try simp only [bindO_assoc]
        refine ite_ext (fun h4 => ?_) (fun h4 => ?_)
        · simp -implicitDefEqProofs only [push_cast, hty, heq, h0, Proofs.Try.f74, seval, h1, h2, h3, h4]
        · try simp -implicitDefEqProofs only [push_cast, hty, heq, h0, Proofs.Try.f74, seval, h1, h2, h3, h4]
          try simp only [bindO_assoc]
          refine ite_ext (fun h5 => ?_) (fun h5 => ?_)
          · simp -implicitDefEqProofs only [push_cast, hty, heq, h0, Proofs.Try.f74, seval, h1, h2, h3, h4, h5]
          · try simp -implicitDefEqProofs only [push_cast, hty, heq, h0, Proofs.Try.f74, seval, h1, h2, h3, h4, h5]
            try simp only [bindO_assoc]
            refine ite_ext (fun h6 => ?_) (fun h6 => ?_)
            · simp -implicitDefEqProofs only [push_cast, hty, heq, h0, Proofs.Try.f74, seval, h1, h2, h3, h4, h5, h6]
            · try simp -implicitDefEqProofs only [push_cast, hty, heq, h0, Proofs.Try.f74, seval, h1, h2, h3, h4, h5, h6]
              try simp only [bindO_assoc]
              refine ite_ext (fun h7 => ?_) (fun h7 => ?_)
              · simp -implicitDefEqProofs only [push_cast, hty, heq, h0, Proofs.Try.f74, seval, h1, h2, h3, h4, h5, h6, h7]
              · try simp -implicitDefEqProofs only [push_cast, hty, heq, h0, Proofs.Try.f74, seval, h1, h2, h3, h4, h5, h6, h7]
                try simp only [bindO_assoc]
                refine ite_ext (fun h8 => ?_) (fun h8 => ?_)
                · simp -implicitDefEqProofs only [push_cast, hty, heq, h0, Proofs.Try.f74, seval, h1, h2, h3, h4, h5, h6, h7, h8]
                · try simp -implicitDefEqProofs only [push_cast, hty, heq, h0, Proofs.Try.f74, seval, h1, h2, h3, h4, h5, h6, h7, h8]
                  try simp only [bindO_assoc]
                  refine ite_ext (fun h9 => ?_) (fun h9 => ?_)
                  · simp -implicitDefEqProofs only [push_cast, hty, heq, h0, Proofs.Try.f74, seval, h1, h2, h3, h4, h5, h6, h7, h8, h9]
                  · try simp -implicitDefEqProofs only [push_cast, hty, heq, h0, Proofs.Try.f74, seval, h1, h2, h3, h4, h5, h6, h7, h8, h9]
                    try simp only [bindO_assoc]
                    refine ite_ext (fun h10 => ?_) (fun h10 => ?_)
                    · simp -implicitDefEqProofs only [push_cast, hty, heq, h0, Proofs.Try.f74, seval, h1, h2, h3, h4, h5, h6, h7, h8, h9, h10]
                    · try simp -implicitDefEqProofs only [push_cast, hty, heq, h0, Proofs.Try.f74, seval, h1, h2, h3, h4, h5, h6, h7, h8, h9, h10]
                      try simp only [bindO_assoc]
                      refine ite_ext (fun h11 => ?_) (fun h11 => ?_)
                      · simp -implicitDefEqProofs only [push_cast, hty, heq, h0, Proofs.Try.f74, seval, h1, h2, h3, h4, h5, h6, h7, h8, h9, h10, h11]
                      · try simp -implicitDefEqProofs only [push_cast, hty, heq, h0, Proofs.Try.f74, seval, h1, h2, h3, h4, h5, h6, h7, h8, h9, h10, h11]
                        try simp only [bindO_assoc]
                        refine ite_ext (fun h12 => ?_) (fun h12 => ?_)
                        · simp -implicitDefEqProofs only [push_cast, hty, heq, h0, Proofs.Try.f74, seval, h1, h2, h3, h4, h5, h6, h7, h8, h9, h10, h11, h12]
                        · try simp -implicitDefEqProofs only [push_cast, hty, heq, h0, Proofs.Try.f74, seval, h1, h2, h3, h4, h5, h6, h7, h8, h9, h10, h11, h12]
                          try simp only [bindO_assoc]
                          refine ite_ext (fun h13 => ?_) (fun h13 => ?_)
                          · simp -implicitDefEqProofs only [push_cast, hty, heq, h0, Proofs.Try.f74, seval, h1, h2, h3, h4, h5, h6, h7, h8, h9, h10, h11, h12, h13]
                          · simp -implicitDefEqProofs only [push_cast, hty, heq, h0, Proofs.Try.f74, seval, h1, h2, h3, h4, h5, h6, h7, h8, h9, h10, h11, h12, h13]
theorem ev16 {E : Env} {N : Nat} (hB : N ≤ 4611686018427387904) (hty : E.ty = tys) (heq : E.eqt = eqts) (h0 : E.n0 = 0) (g16_73 : ∀ vs σ, E.tab 73 vs σ = plain (t73) vs σ) (g16_74 : ∀ vs σ, E.tab 74 vs σ = plain (t74) vs σ) (s : ByteArray) :
    bindO (aPure E Proofs.Try.f16 H16 N [.str s]) (cv sh16) = bindO (F16 N s) fun r => some (v16 r) := by
  unfold F16
  rw [r_pure]
  unfold sh16
  try simp -implicitDefEqProofs only [push_cast, hty, heq, h0, Proofs.Try.f16, g16_73, g16_74, seval]
  try simp only [bindO_assoc]
  refine iten_ext (fun h1 => ?_) (fun h1 => ?_)
  · simp -implicitDefEqProofs only [push_cast, hty, heq, h0, Proofs.Try.f16, g16_73, g16_74, seval, h1]
  · try simp -implicitDefEqProofs only [push_cast, hty, heq, h0, Proofs.Try.f16, g16_73, g16_74, seval, h1]
    try simp only [bindO_assoc]
    refine iten_ext (fun h2 => ?_) (fun h2 => ?_)
    · simp -implicitDefEqProofs only [push_cast, hty, heq, h0, Proofs.Try.f16, g16_73, g16_74, seval, h1, h2]
    · try simp -implicitDefEqProofs only [push_cast, hty, heq, h0, Proofs.Try.f16, g16_73, g16_74, seval, h1, h2]
      try simp only [bindO_assoc]
      refine ite_ext (fun h3 => ?_) (fun h3 => ?_)
      · try simp -implicitDefEqProofs only [push_cast, hty, heq, h0, Proofs.Try.f16, g16_73, g16_74, seval, h1, h2, h3]
        try simp only [bindO_assoc]
        refine bindO_ext fun r1 => ?_
        try simp -implicitDefEqProofs only [push_cast, hty, heq, h0, Proofs.Try.f16, g16_73, g16_74, seval, h1, h2, h3]
        try simp only [bindO_assoc]
        refine ite_ext (fun h4 => ?_) (fun h4 => ?_)
        · try simp -implicitDefEqProofs only [push_cast, hty, heq, h0, Proofs.Try.f16, g16_73, g16_74, seval, h1, h2, h3, h4]
          try simp only [bindO_assoc]
          refine bindO_ext fun r2 => ?_
          try simp -implicitDefEqProofs only [push_cast, hty, heq, h0, Proofs.Try.f16, g16_73, g16_74, seval, h1, h2, h3, h4]
          try simp only [bindO_assoc]
          refine ite_ext (fun h5 => ?_) (fun h5 => ?_)
          · simp -implicitDefEqProofs only [push_cast, hty, heq, h0, Proofs.Try.f16, g16_73, g16_74, seval, h1, h2, h3, h4, h5]
          · try simp -implicitDefEqProofs only [push_cast, hty, heq, h0, Proofs.Try.f16, g16_73, g16_74, seval, h1, h2, h3, h4, h5]
            try simp only [bindO_assoc]
            refine fold_loop (S := Unit) (List.range s.size) (fun (i3 : Nat) (s5 : Unit) => [.str s, .top, .top, .top, .top, .top, .top, .top, .top, .top, .top, .top, .top, .top, .top, .top, .top, .top, .top, .top, .top, .top, .top, .top, .int .i64 (s.size : Int), .int .i64 (i3 : Int), .top, .top, .top, .top, .top, .top, .top, .top, .top, .top, .top, .top, .top, .top, .top, .top, .top, .top, .top, .top, .top]) (fun (_ : Nat) (s5 : Unit) => []) () ?_ ?_
            · intro s5 i3 x4 h6 h7 h8
              have h9 := rng_wrap h8 hB
              rw [List.length_range] at h7
              have h10 := lt_true h7
              have h11 := inB_lt h7
              try simp -implicitDefEqProofs only [push_cast, hty, heq, h0, Proofs.Try.f16, g16_73, g16_74, seval, h1, h2, h3, h4, h5, h9, h10, h11, F16_s1]
              try simp only [bindO_assoc]
              refine bindO_ext fun r6 => ?_
              try simp -implicitDefEqProofs only [push_cast, hty, heq, h0, Proofs.Try.f16, g16_73, g16_74, seval, h1, h2, h3, h4, h5, h9, h10, h11, F16_s1]
              try simp only [bindO_assoc]
              refine iten_ext (fun h13 => ?_) (fun h13 => ?_)
              · simp -implicitDefEqProofs only [push_cast, hty, heq, h0, Proofs.Try.f16, g16_73, g16_74, seval, h1, h2, h3, h4, h5, h9, h10, h11, F16_s1, h13]
              · try simp -implicitDefEqProofs only [push_cast, hty, heq, h0, Proofs.Try.f16, g16_73, g16_74, seval, h1, h2, h3, h4, h5, h9, h10, h11, F16_s1, h13]
                try simp only [bindO_assoc]
                refine iten_ext (fun h14 => ?_) (fun h14 => ?_)
                · try simp -implicitDefEqProofs only [push_cast, hty, heq, h0, Proofs.Try.f16, g16_73, g16_74, seval, h1, h2, h3, h4, h5, h9, h10, h11, F16_s1, h13, h14]
                  try simp only [bindO_assoc]
                  refine iten_ext (fun h15 => ?_) (fun h15 => ?_)
                  · simp -implicitDefEqProofs only [push_cast, hty, heq, h0, Proofs.Try.f16, g16_73, g16_74, seval, h1, h2, h3, h4, h5, h9, h10, h11, F16_s1, h13, h14, h15]
                  · simp -implicitDefEqProofs only [push_cast, hty, heq, h0, Proofs.Try.f16, g16_73, g16_74, seval, h1, h2, h3, h4, h5, h9, h10, h11, F16_s1, h13, h14, h15]
                · try simp -implicitDefEqProofs only [push_cast, hty, heq, h0, Proofs.Try.f16, g16_73, g16_74, seval, h1, h2, h3, h4, h5, h9, h10, h11, F16_s1, h13, h14]
                  try simp only [bindO_assoc]
                  refine ite_ext (fun h16 => ?_) (fun h16 => ?_)
                  · try simp -implicitDefEqProofs only [push_cast, hty, heq, h0, Proofs.Try.f16, g16_73, g16_74, seval, h1, h2, h3, h4, h5, h9, h10, h11, F16_s1, h13, h14, h16]
                    try simp only [bindO_assoc]
                    refine iten_ext (fun h17 => ?_) (fun h17 => ?_)
                    · simp -implicitDefEqProofs only [push_cast, hty, heq, h0, Proofs.Try.f16, g16_73, g16_74, seval, h1, h2, h3, h4, h5, h9, h10, h11, F16_s1, h13, h14, h16, h17]
                    · simp -implicitDefEqProofs only [push_cast, hty, heq, h0, Proofs.Try.f16, g16_73, g16_74, seval, h1, h2, h3, h4, h5, h9, h10, h11, F16_s1, h13, h14, h16, h17]
                  · simp -implicitDefEqProofs only [push_cast, hty, heq, h0, Proofs.Try.f16, g16_73, g16_74, seval, h1, h2, h3, h4, h5, h9, h10, h11, F16_s1, h13, h14, h16]
            · intro s5
              have h18 := lt_self (n := s.size)
              simp -implicitDefEqProofs only [push_cast, hty, heq, h0, Proofs.Try.f16, g16_73, g16_74, seval, h1, h2, h3, h4, h5, h18, F16_f1]
        · simp -implicitDefEqProofs only [push_cast, hty, heq, h0, Proofs.Try.f16, g16_73, g16_74, seval, h1, h2, h3, h4]
      · simp -implicitDefEqProofs only [push_cast, hty, heq, h0, Proofs.Try.f16, g16_73, g16_74, seval, h1, h2, h3]
theorem ev116 {E : Env} {N : Nat} (hB : N ≤ 4611686018427387904) (hty : E.ty = tys) (heq : E.eqt = eqts) (h0 : E.n0 = 0) (g116_16 : ∀ vs σ, E.tab 16 vs σ = plain (t16 N) vs σ) (n : Node) :
    bindO (aPure E Proofs.Try.f116 H116 N [.agg (Node.cells n)]) (cv sh116) = bindO (F116 N n) fun r => some (v116 r) := by
  unfold F116
  rw [r_pure]
  unfold sh116
  try simp -implicitDefEqProofs only [push_cast, hty, heq, h0, Proofs.Try.f116, g116_16, seval]
  try simp only [bindO_assoc]
  refine iten_ext (fun h1 => ?_) (fun h1 => ?_)
  · try simp -implicitDefEqProofs only [push_cast, hty, heq, h0, Proofs.Try.f116, g116_16, seval, h1]
    try simp only [bindO_assoc]
    refine bindO_ext fun r2 => ?_
    try simp -implicitDefEqProofs only [push_cast, hty, heq, h0, Proofs.Try.f116, g116_16, seval, h1]
    try simp only [bindO_assoc]
    refine ite_ext (fun h2 => ?_) (fun h2 => ?_)
    · try simp -implicitDefEqProofs only [push_cast, hty, heq, h0, Proofs.Try.f116, g116_16, seval, h1, h2]
      try simp only [bindO_assoc]
      refine iten_ext (fun h3 => ?_) (fun h3 => ?_)
      · simp -implicitDefEqProofs only [push_cast, hty, heq, h0, Proofs.Try.f116, g116_16, seval, h1, h2, h3]
      · try simp -implicitDefEqProofs only [push_cast, hty, heq, h0, Proofs.Try.f116, g116_16, seval, h1, h2, h3]
        try simp only [bindO_assoc]
        refine iten_ext (fun h4 => ?_) (fun h4 => ?_)
        · simp -implicitDefEqProofs only [push_cast, hty, heq, h0, Proofs.Try.f116, g116_16, seval, h1, h2, h3, h4]
        · try simp -implicitDefEqProofs only [push_cast, hty, heq, h0, Proofs.Try.f116, g116_16, seval, h1, h2, h3, h4]
          try simp only [bindO_assoc]
          refine ite_ext (fun h5 => ?_) (fun h5 => ?_)
          · try simp -implicitDefEqProofs only [push_cast, hty, heq, h0, Proofs.Try.f116, g116_16, seval, h1, h2, h3, h4, h5]
            try simp only [bindO_assoc]
            refine ite_ext (fun h6 => ?_) (fun h6 => ?_)
            · simp -implicitDefEqProofs only [push_cast, hty, heq, h0, Proofs.Try.f116, g116_16, seval, h1, h2, h3, h4, h5, h6]
            · simp -implicitDefEqProofs only [push_cast, hty, heq, h0, Proofs.Try.f116, g116_16, seval, h1, h2, h3, h4, h5, h6]
          · try simp -implicitDefEqProofs only [push_cast, hty, heq, h0, Proofs.Try.f116, g116_16, seval, h1, h2, h3, h4, h5]
            try simp only [bindO_assoc]
            refine ite_ext (fun h7 => ?_) (fun h7 => ?_)
            · try simp -implicitDefEqProofs only [push_cast, hty, heq, h0, Proofs.Try.f116, g116_16, seval, h1, h2, h3, h4, h5, h7]
              try simp only [bindO_assoc]
              refine ite_ext (fun h8 => ?_) (fun h8 => ?_)
              · simp -implicitDefEqProofs only [push_cast, hty, heq, h0, Proofs.Try.f116, g116_16, seval, h1, h2, h3, h4, h5, h7, h8]
              · simp -implicitDefEqProofs only [push_cast, hty, heq, h0, Proofs.Try.f116, g116_16, seval, h1, h2, h3, h4, h5, h7, h8]
            · try simp -implicitDefEqProofs only [push_cast, hty, heq, h0, Proofs.Try.f116, g116_16, seval, h1, h2, h3, h4, h5, h7]
              try simp only [bindO_assoc]
              refine ite_ext (fun h9 => ?_) (fun h9 => ?_)
              · try simp -implicitDefEqProofs only [push_cast, hty, heq, h0, Proofs.Try.f116, g116_16, seval, h1, h2, h3, h4, h5, h7, h9]
                try simp only [bindO_assoc]
                refine ite_ext (fun h10 => ?_) (fun h10 => ?_)
                · simp -implicitDefEqProofs only [push_cast, hty, heq, h0, Proofs.Try.f116, g116_16, seval, h1, h2, h3, h4, h5, h7, h9, h10]
                · simp -implicitDefEqProofs only [push_cast, hty, heq, h0, Proofs.Try.f116, g116_16, seval, h1, h2, h3, h4, h5, h7, h9, h10]
              · simp -implicitDefEqProofs only [push_cast, hty, heq, h0, Proofs.Try.f116, g116_16, seval, h1, h2, h3, h4, h5, h7, h9]
    · simp -implicitDefEqProofs only [push_cast, hty, heq, h0, Proofs.Try.f116, g116_16, seval, h1, h2]
  · try simp -implicitDefEqProofs only [push_cast, hty, heq, h0, Proofs.Try.f116, g116_16, seval, h1]
    try simp only [bindO_assoc]
    refine bindO_ext fun r1 => ?_
    try simp -implicitDefEqProofs only [push_cast, hty, heq, h0, Proofs.Try.f116, g116_16, seval, h1]
    try simp only [bindO_assoc]
    refine ite_ext (fun h11 => ?_) (fun h11 => ?_)
    · try simp -implicitDefEqProofs only [push_cast, hty, heq, h0, Proofs.Try.f116, g116_16, seval, h1, h11]
      try simp only [bindO_assoc]
      refine iten_ext (fun h12 => ?_) (fun h12 => ?_)
      · try simp -implicitDefEqProofs only [push_cast, hty, heq, h0, Proofs.Try.f116, g116_16, seval, h1, h11, h12]
        try simp only [bindO_assoc]
        refine iten_ext (fun h13 => ?_) (fun h13 => ?_)
        · simp -implicitDefEqProofs only [push_cast, hty, heq, h0, Proofs.Try.f116, g116_16, seval, h1, h11, h12, h13]
        · try simp -implicitDefEqProofs only [push_cast, hty, heq, h0, Proofs.Try.f116, g116_16, seval, h1, h11, h12, h13]
          try simp only [bindO_assoc]
          refine iten_ext (fun h14 => ?_) (fun h14 => ?_)
          · simp -implicitDefEqProofs only [push_cast, hty, heq, h0, Proofs.Try.f116, g116_16, seval, h1, h11, h12, h13, h14]
          · try simp -implicitDefEqProofs only [push_cast, hty, heq, h0, Proofs.Try.f116, g116_16, seval, h1, h11, h12, h13, h14]
            try simp only [bindO_assoc]
            refine ite_ext (fun h15 => ?_) (fun h15 => ?_)
            · try simp -implicitDefEqProofs only [push_cast, hty, heq, h0, Proofs.Try.f116, g116_16, seval, h1, h11, h12, h13, h14, h15]
              try simp only [bindO_assoc]
              refine ite_ext (fun h16 => ?_) (fun h16 => ?_)
              · simp -implicitDefEqProofs only [push_cast, hty, heq, h0, Proofs.Try.f116, g116_16, seval, h1, h11, h12, h13, h14, h15, h16]
              · simp -implicitDefEqProofs only [push_cast, hty, heq, h0, Proofs.Try.f116, g116_16, seval, h1, h11, h12, h13, h14, h15, h16]
            · try simp -implicitDefEqProofs only [push_cast, hty, heq, h0, Proofs.Try.f116, g116_16, seval, h1, h11, h12, h13, h14, h15]
              try simp only [bindO_assoc]
              refine ite_ext (fun h17 => ?_) (fun h17 => ?_)
              · try simp -implicitDefEqProofs only [push_cast, hty, heq, h0, Proofs.Try.f116, g116_16, seval, h1, h11, h12, h13, h14, h15, h17]
                try simp only [bindO_assoc]
                refine ite_ext (fun h18 => ?_) (fun h18 => ?_)
                · simp -implicitDefEqProofs only [push_cast, hty, heq, h0, Proofs.Try.f116, g116_16, seval, h1, h11, h12, h13, h14, h15, h17, h18]
                · simp -implicitDefEqProofs only [push_cast, hty, heq, h0, Proofs.Try.f116, g116_16, seval, h1, h11, h12, h13, h14, h15, h17, h18]
              · try simp -implicitDefEqProofs only [push_cast, hty, heq, h0, Proofs.Try.f116, g116_16, seval, h1, h11, h12, h13, h14, h15, h17]
                try simp only [bindO_assoc]
                refine ite_ext (fun h19 => ?_) (fun h19 => ?_)
                · try simp -implicitDefEqProofs only [push_cast, hty, heq, h0, Proofs.Try.f116, g116_16, seval, h1, h11, h12, h13, h14, h15, h17, h19]
                  try simp only [bindO_assoc]
                  refine ite_ext (fun h20 => ?_) (fun h20 => ?_)
                  · simp -implicitDefEqProofs only [push_cast, hty, heq, h0, Proofs.Try.f116, g116_16, seval, h1, h11, h12, h13, h14, h15, h17, h19, h20]
                  · simp -implicitDefEqProofs only [push_cast, hty, heq, h0, Proofs.Try.f116, g116_16, seval, h1, h11, h12, h13, h14, h15, h17, h19, h20]
                · simp -implicitDefEqProofs only [push_cast, hty, heq, h0, Proofs.Try.f116, g116_16, seval, h1, h11, h12, h13, h14, h15, h17, h19]
      · try simp -implicitDefEqProofs only [push_cast, hty, heq, h0, Proofs.Try.f116, g116_16, seval, h1, h11, h12]
        try simp only [bindO_assoc]
        refine iten_ext (fun h21 => ?_) (fun h21 => ?_)
        · try simp -implicitDefEqProofs only [push_cast, hty, heq, h0, Proofs.Try.f116, g116_16, seval, h1, h11, h12, h21]
          try simp only [bindO_assoc]
          refine iten_ext (fun h22 => ?_) (fun h22 => ?_)
          · try simp -implicitDefEqProofs only [push_cast, hty, heq, h0, Proofs.Try.f116, g116_16, seval, h1, h11, h12, h21, h22]
            try simp only [bindO_assoc]
            refine ite_ext (fun h23 => ?_) (fun h23 => ?_)
            · try simp -implicitDefEqProofs only [push_cast, hty, heq, h0, Proofs.Try.f116, g116_16, seval, h1, h11, h12, h21, h22, h23]
              try simp only [bindO_assoc]
              refine ite_ext (fun h24 => ?_) (fun h24 => ?_)
              · simp -implicitDefEqProofs only [push_cast, hty, heq, h0, Proofs.Try.f116, g116_16, seval, h1, h11, h12, h21, h22, h23, h24]
              · simp -implicitDefEqProofs only [push_cast, hty, heq, h0, Proofs.Try.f116, g116_16, seval, h1, h11, h12, h21, h22, h23, h24]
            · try simp -implicitDefEqProofs only [push_cast, hty, heq, h0, Proofs.Try.f116, g116_16, seval, h1, h11, h12, h21, h22, h23]
              try simp only [bindO_assoc]
              refine ite_ext (fun h25 => ?_) (fun h25 => ?_)
              · try simp -implicitDefEqProofs only [push_cast, hty, heq, h0, Proofs.Try.f116, g116_16, seval, h1, h11, h12, h21, h22, h23, h25]
                try simp only [bindO_assoc]
                refine ite_ext (fun h26 => ?_) (fun h26 => ?_)
                · simp -implicitDefEqProofs only [push_cast, hty, heq, h0, Proofs.Try.f116, g116_16, seval, h1, h11, h12, h21, h22, h23, h25, h26]
                · simp -implicitDefEqProofs only [push_cast, hty, heq, h0, Proofs.Try.f116, g116_16, seval, h1, h11, h12, h21, h22, h23, h25, h26]
              · try simp -implicitDefEqProofs only [push_cast, hty, heq, h0, Proofs.Try.f116, g116_16, seval, h1, h11, h12, h21, h22, h23, h25]
                try simp only [bindO_assoc]
                refine ite_ext (fun h27 => ?_) (fun h27 => ?_)
                · try simp -implicitDefEqProofs only [push_cast, hty, heq, h0, Proofs.Try.f116, g116_16, seval, h1, h11, h12, h21, h22, h23, h25, h27]
                  try simp only [bindO_assoc]
                  refine ite_ext (fun h28 => ?_) (fun h28 => ?_)
                  · simp -implicitDefEqProofs only [push_cast, hty, heq, h0, Proofs.Try.f116, g116_16, seval, h1, h11, h12, h21, h22, h23, h25, h27, h28]
                  · simp -implicitDefEqProofs only [push_cast, hty, heq, h0, Proofs.Try.f116, g116_16, seval, h1, h11, h12, h21, h22, h23, h25, h27, h28]
                · simp -implicitDefEqProofs only [push_cast, hty, heq, h0, Proofs.Try.f116, g116_16, seval, h1, h11, h12, h21, h22, h23, h25, h27]
          · simp -implicitDefEqProofs only [push_cast, hty, heq, h0, Proofs.Try.f116, g116_16, seval, h1, h11, h12, h21, h22]
        · simp -implicitDefEqProofs only [push_cast, hty, heq, h0, Proofs.Try.f116, g116_16, seval, h1, h11, h12, h21]
    · simp -implicitDefEqProofs only [push_cast, hty, heq, h0, Proofs.Try.f116, g116_16, seval, h1, h11]
end Go.Abs.Try
