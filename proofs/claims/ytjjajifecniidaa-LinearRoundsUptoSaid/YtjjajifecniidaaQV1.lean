import Derived.Test.YtjjajifecniidaaQD
namespace Go.Abs.Try
open Go.RowKit
set_option linter.unusedSimpArgs false
set_option linter.unusedVariables false
set_option maxRecDepth 100000
set_option maxHeartbeats 4000000
attribute [local push_cast] ty3 ty22 ty24 ty117
theorem ev36 {E : Env} {N : Nat} (hB : N ≤ 4611686018427387904) (hty : E.ty = tys) (heq : E.eqt = eqts) (h0 : E.n0 = 0)  (n : Node) :
    bindO (aPure E Proofs.Try.f36 H36 N [.agg (Node.cells n)]) (cv sh36) = bindO (F36 N n) fun r => some (v36 r) := by
  unfold F36
  rw [r_pure]
  unfold sh36
  try simp -implicitDefEqProofs only [push_cast, hty, heq, h0, Proofs.Try.f36, seval]
  try simp only [bindO_assoc]
  refine while_loop (S := Int × Int × ByteArray × Int × (List Node)) (fun (s1 : Int × Int × ByteArray × Int × (List Node)) => [.top, .ptr 0 0, .top, .top, .top, .top, .top, .top, .top, .top, .top, .top, .top, .top, .top, .top, .top, .top, .top, .top, .top, .top, .top, .top, .top, .top, .top, .top, .top, .top, .top, .top, .top, .top, .top, .top, .top, .top, .top, .top, .top, .top, .top, .top, .top]) (fun (s1 : Int × Int × ByteArray × Int × (List Node)) => [.var [.int .i64 s1.1, .int .i64 s1.2.1, .str s1.2.2.1, .int .i64 s1.2.2.2.1, .sl false 5 (List.map Node.cells s1.2.2.2.2)]]) ?_ N (n.op, n.sortf, n.name, n.num, n.kids)
  intro s1
  try simp -implicitDefEqProofs only [push_cast, hty, heq, h0, Proofs.Try.f36, seval, F36_s1]
  try simp only [bindO_assoc]
  refine ite_ext (fun h1 => ?_) (fun h1 => ?_)
  · try simp -implicitDefEqProofs only [push_cast, hty, heq, h0, Proofs.Try.f36, seval, F36_s1, h1]
    try simp only [bindO_assoc]
    refine ite_ext (fun h2 => ?_) (fun h2 => ?_)
    · simp -implicitDefEqProofs only [push_cast, hty, heq, h0, Proofs.Try.f36, seval, F36_s1, h1, h2]
    · try simp -implicitDefEqProofs only [push_cast, hty, heq, h0, Proofs.Try.f36, seval, F36_s1, h1, h2]
      try simp only [bindO_assoc]
      refine at_sl (c := Node.cells) fun x2 h3 h4 h5 h6 => ?_
      try simp only [Int.reduceToNat, Int.toNat_natCast] at h5 h6
      simp -implicitDefEqProofs only [push_cast, hty, heq, h0, Proofs.Try.f36, seval, F36_s1, h1, h2, h3, h5, h6]
  · try simp -implicitDefEqProofs only [push_cast, hty, heq, h0, Proofs.Try.f36, seval, F36_s1, h1]
    try simp only [bindO_assoc]
    refine ite_ext (fun h7 => ?_) (fun h7 => ?_)
    · simp -implicitDefEqProofs only [push_cast, hty, heq, h0, Proofs.Try.f36, seval, F36_s1, h1, h7]
    · try simp -implicitDefEqProofs only [push_cast, hty, heq, h0, Proofs.Try.f36, seval, F36_s1, h1, h7]
      try simp only [bindO_assoc]
      refine ite_ext (fun h8 => ?_) (fun h8 => ?_)
      · simp -implicitDefEqProofs only [push_cast, hty, heq, h0, Proofs.Try.f36, seval, F36_s1, h1, h7, h8]
      · try simp -implicitDefEqProofs only [push_cast, hty, heq, h0, Proofs.Try.f36, seval, F36_s1, h1, h7, h8]
        try simp only [bindO_assoc]
        refine ite_ext (fun h9 => ?_) (fun h9 => ?_)
        · simp -implicitDefEqProofs only [push_cast, hty, heq, h0, Proofs.Try.f36, seval, F36_s1, h1, h7, h8, h9]
        · try simp -implicitDefEqProofs only [push_cast, hty, heq, h0, Proofs.Try.f36, seval, F36_s1, h1, h7, h8, h9]
          try simp only [bindO_assoc]
          refine ite_ext (fun h10 => ?_) (fun h10 => ?_)
          · simp -implicitDefEqProofs only [push_cast, hty, heq, h0, Proofs.Try.f36, seval, F36_s1, h1, h7, h8, h9, h10]
          · try simp -implicitDefEqProofs only [push_cast, hty, heq, h0, Proofs.Try.f36, seval, F36_s1, h1, h7, h8, h9, h10]
            try simp only [bindO_assoc]
            refine ite_ext (fun h11 => ?_) (fun h11 => ?_)
            · simp -implicitDefEqProofs only [push_cast, hty, heq, h0, Proofs.Try.f36, seval, F36_s1, h1, h7, h8, h9, h10, h11]
            · try simp -implicitDefEqProofs only [push_cast, hty, heq, h0, Proofs.Try.f36, seval, F36_s1, h1, h7, h8, h9, h10, h11]
              try simp only [bindO_assoc]
              refine ite_ext (fun h12 => ?_) (fun h12 => ?_)
              · simp -implicitDefEqProofs only [push_cast, hty, heq, h0, Proofs.Try.f36, seval, F36_s1, h1, h7, h8, h9, h10, h11, h12]
              · try simp -implicitDefEqProofs only [push_cast, hty, heq, h0, Proofs.Try.f36, seval, F36_s1, h1, h7, h8, h9, h10, h11, h12]
                try simp only [bindO_assoc]
                refine ite_ext (fun h13 => ?_) (fun h13 => ?_)
                · simp -implicitDefEqProofs only [push_cast, hty, heq, h0, Proofs.Try.f36, seval, F36_s1, h1, h7, h8, h9, h10, h11, h12, h13]
                · try simp -implicitDefEqProofs only [push_cast, hty, heq, h0, Proofs.Try.f36, seval, F36_s1, h1, h7, h8, h9, h10, h11, h12, h13]
                  try simp only [bindO_assoc]
                  refine ite_ext (fun h14 => ?_) (fun h14 => ?_)
                  · simp -implicitDefEqProofs only [push_cast, hty, heq, h0, Proofs.Try.f36, seval, F36_s1, h1, h7, h8, h9, h10, h11, h12, h13, h14]
                  · try simp -implicitDefEqProofs only [push_cast, hty, heq, h0, Proofs.Try.f36, seval, F36_s1, h1, h7, h8, h9, h10, h11, h12, h13, h14]
                    try simp only [bindO_assoc]
                    refine ite_ext (fun h15 => ?_) (fun h15 => ?_)
                    · simp -implicitDefEqProofs only [push_cast, hty, heq, h0, Proofs.Try.f36, seval, F36_s1, h1, h7, h8, h9, h10, h11, h12, h13, h14, h15]
                    · try simp -implicitDefEqProofs only [push_cast, hty, heq, h0, Proofs.Try.f36, seval, F36_s1, h1, h7, h8, h9, h10, h11, h12, h13, h14, h15]
                      try simp only [bindO_assoc]
                      refine ite_ext (fun h16 => ?_) (fun h16 => ?_)
                      · simp -implicitDefEqProofs only [push_cast, hty, heq, h0, Proofs.Try.f36, seval, F36_s1, h1, h7, h8, h9, h10, h11, h12, h13, h14, h15, h16]
                      · try simp -implicitDefEqProofs only [push_cast, hty, heq, h0, Proofs.Try.f36, seval, F36_s1, h1, h7, h8, h9, h10, h11, h12, h13, h14, h15, h16]
                        try simp only [bindO_assoc]
                        refine ite_ext (fun h17 => ?_) (fun h17 => ?_)
                        · simp -implicitDefEqProofs only [push_cast, hty, heq, h0, Proofs.Try.f36, seval, F36_s1, h1, h7, h8, h9, h10, h11, h12, h13, h14, h15, h16, h17]
                        · try simp -implicitDefEqProofs only [push_cast, hty, heq, h0, Proofs.Try.f36, seval, F36_s1, h1, h7, h8, h9, h10, h11, h12, h13, h14, h15, h16, h17]
                          try simp only [bindO_assoc]
                          refine ite_ext (fun h18 => ?_) (fun h18 => ?_)
                          · simp -implicitDefEqProofs only [push_cast, hty, heq, h0, Proofs.Try.f36, seval, F36_s1, h1, h7, h8, h9, h10, h11, h12, h13, h14, h15, h16, h17, h18]
                          · try simp -implicitDefEqProofs only [push_cast, hty, heq, h0, Proofs.Try.f36, seval, F36_s1, h1, h7, h8, h9, h10, h11, h12, h13, h14, h15, h16, h17, h18]
                            try simp only [bindO_assoc]
                            refine ite_ext (fun h19 => ?_) (fun h19 => ?_)
                            · simp -implicitDefEqProofs only [push_cast, hty, heq, h0, Proofs.Try.f36, seval, F36_s1, h1, h7, h8, h9, h10, h11, h12, h13, h14, h15, h16, h17, h18, h19]
                            · try simp -implicitDefEqProofs only [push_cast, hty, heq, h0, Proofs.Try.f36, seval, F36_s1, h1, h7, h8, h9, h10, h11, h12, h13, h14, h15, h16, h17, h18, h19]
                              try simp only [bindO_assoc]
                              refine ite_ext (fun h20 => ?_) (fun h20 => ?_)
                              · simp -implicitDefEqProofs only [push_cast, hty, heq, h0, Proofs.Try.f36, seval, F36_s1, h1, h7, h8, h9, h10, h11, h12, h13, h14, h15, h16, h17, h18, h19, h20]
                              · try simp -implicitDefEqProofs only [push_cast, hty, heq, h0, Proofs.Try.f36, seval, F36_s1, h1, h7, h8, h9, h10, h11, h12, h13, h14, h15, h16, h17, h18, h19, h20]
                                try simp only [bindO_assoc]
                                refine ite_ext (fun h21 => ?_) (fun h21 => ?_)
                                · simp -implicitDefEqProofs only [push_cast, hty, heq, h0, Proofs.Try.f36, seval, F36_s1, h1, h7, h8, h9, h10, h11, h12, h13, h14, h15, h16, h17, h18, h19, h20, h21]
                                · try simp -implicitDefEqProofs only [push_cast, hty, heq, h0, Proofs.Try.f36, seval, F36_s1, h1, h7, h8, h9, h10, h11, h12, h13, h14, h15, h16, h17, h18, h19, h20, h21]
                                  try simp only [bindO_assoc]
                                  refine ite_ext (fun h22 => ?_) (fun h22 => ?_)
                                  · try simp -implicitDefEqProofs only [push_cast, hty, heq, h0, Proofs.Try.f36, seval, F36_s1, h1, h7, h8, h9, h10, h11, h12, h13, h14, h15, h16, h17, h18, h19, h20, h21, h22]
                                    try simp only [bindO_assoc]
                                    refine ite_ext (fun h23 => ?_) (fun h23 => ?_)
                                    · simp -implicitDefEqProofs only [push_cast, hty, heq, h0, Proofs.Try.f36, seval, F36_s1, h1, h7, h8, h9, h10, h11, h12, h13, h14, h15, h16, h17, h18, h19, h20, h21, h22, h23]
                                    · simp -implicitDefEqProofs only [push_cast, hty, heq, h0, Proofs.Try.f36, seval, F36_s1, h1, h7, h8, h9, h10, h11, h12, h13, h14, h15, h16, h17, h18, h19, h20, h21, h22, h23]
                                  · simp -implicitDefEqProofs only [push_cast, hty, heq, h0, Proofs.Try.f36, seval, F36_s1, h1, h7, h8, h9, h10, h11, h12, h13, h14, h15, h16, h17, h18, h19, h20, h21, h22]
theorem ev153 {E : Env} {N : Nat} (hB : N ≤ 4611686018427387904) (hty : E.ty = tys) (heq : E.eqt = eqts) (h0 : E.n0 = 0)  (op : Int) :
    bindO (aPure E Proofs.Try.f153 H153 N [.int .i64 op]) (cv sh153) = bindO (F153 op) fun r => some (v153 r) := by
  unfold F153
  rw [r_pure]
  unfold sh153
  try simp -implicitDefEqProofs only [push_cast, hty, heq, h0, Proofs.Try.f153, seval]
  try simp only [bindO_assoc]
  refine ite_ext (fun h1 => ?_) (fun h1 => ?_)
  · simp -implicitDefEqProofs only [push_cast, hty, heq, h0, Proofs.Try.f153, seval, h1]
  · try simp -implicitDefEqProofs only [push_cast, hty, heq, h0, Proofs.Try.f153, seval, h1]
    try simp only [bindO_assoc]
    refine ite_ext (fun h2 => ?_) (fun h2 => ?_)
    · simp -implicitDefEqProofs only [push_cast, hty, heq, h0, Proofs.Try.f153, seval, h1, h2]
    · try simp -implicitDefEqProofs only [push_cast, hty, heq, h0, Proofs.Try.f153, seval, h1, h2]
      try simp only [bindO_assoc]
      refine ite_ext (fun h3 => ?_) (fun h3 => ?_)
      · simp -implicitDefEqProofs only [push_cast, hty, heq, h0, Proofs.Try.f153, seval, h1, h2, h3]
      · try simp -implicitDefEqProofs only [push_cast, hty, heq, h0, Proofs.Try.f153, seval, h1, h2, h3]
        try simp only [bindO_assoc]
        refine ite_ext (fun h4 => ?_) (fun h4 => ?_)
        · simp -implicitDefEqProofs only [push_cast, hty, heq, h0, Proofs.Try.f153, seval, h1, h2, h3, h4]
        · try simp -implicitDefEqProofs only [push_cast, hty, heq, h0, Proofs.Try.f153, seval, h1, h2, h3, h4]
          try simp only [bindO_assoc]
          refine ite_ext (fun h5 => ?_) (fun h5 => ?_)
          · simp -implicitDefEqProofs only [push_cast, hty, heq, h0, Proofs.Try.f153, seval, h1, h2, h3, h4, h5]
          · try simp -implicitDefEqProofs only [push_cast, hty, heq, h0, Proofs.Try.f153, seval, h1, h2, h3, h4, h5]
            try simp only [bindO_assoc]
            refine ite_ext (fun h6 => ?_) (fun h6 => ?_)
            · simp -implicitDefEqProofs only [push_cast, hty, heq, h0, Proofs.Try.f153, seval, h1, h2, h3, h4, h5, h6]
            · try simp -implicitDefEqProofs only [push_cast, hty, heq, h0, Proofs.Try.f153, seval, h1, h2, h3, h4, h5, h6]
              try simp only [bindO_assoc]
              refine ite_ext (fun h7 => ?_) (fun h7 => ?_)
              · simp -implicitDefEqProofs only [push_cast, hty, heq, h0, Proofs.Try.f153, seval, h1, h2, h3, h4, h5, h6, h7]
              · try simp -implicitDefEqProofs only [push_cast, hty, heq, h0, Proofs.Try.f153, seval, h1, h2, h3, h4, h5, h6, h7]
                try simp only [bindO_assoc]
                refine ite_ext (fun h8 => ?_) (fun h8 => ?_)
                · simp -implicitDefEqProofs only [push_cast, hty, heq, h0, Proofs.Try.f153, seval, h1, h2, h3, h4, h5, h6, h7, h8]
                · try simp -implicitDefEqProofs only [push_cast, hty, heq, h0, Proofs.Try.f153, seval, h1, h2, h3, h4, h5, h6, h7, h8]
                  try simp only [bindO_assoc]
                  refine ite_ext (fun h9 => ?_) (fun h9 => ?_)
                  · simp -implicitDefEqProofs only [push_cast, hty, heq, h0, Proofs.Try.f153, seval, h1, h2, h3, h4, h5, h6, h7, h8, h9]
                  · try simp -implicitDefEqProofs only [push_cast, hty, heq, h0, Proofs.Try.f153, seval, h1, h2, h3, h4, h5, h6, h7, h8, h9]
                    try simp only [bindO_assoc]
                    refine ite_ext (fun h10 => ?_) (fun h10 => ?_)
                    · simp -implicitDefEqProofs only [push_cast, hty, heq, h0, Proofs.Try.f153, seval, h1, h2, h3, h4, h5, h6, h7, h8, h9, h10]
                    · try simp -implicitDefEqProofs only [push_cast, hty, heq, h0, Proofs.Try.f153, seval, h1, h2, h3, h4, h5, h6, h7, h8, h9, h10]
                      try simp only [bindO_assoc]
                      refine ite_ext (fun h11 => ?_) (fun h11 => ?_)
                      · simp -implicitDefEqProofs only [push_cast, hty, heq, h0, Proofs.Try.f153, seval, h1, h2, h3, h4, h5, h6, h7, h8, h9, h10, h11]
                      · try simp -implicitDefEqProofs only [push_cast, hty, heq, h0, Proofs.Try.f153, seval, h1, h2, h3, h4, h5, h6, h7, h8, h9, h10, h11]
                        try simp only [bindO_assoc]
                        refine ite_ext (fun h12 => ?_) (fun h12 => ?_)
                        · simp -implicitDefEqProofs only [push_cast, hty, heq, h0, Proofs.Try.f153, seval, h1, h2, h3, h4, h5, h6, h7, h8, h9, h10, h11, h12]
                        · try simp -implicitDefEqProofs only [push_cast, hty, heq, h0, Proofs.Try.f153, seval, h1, h2, h3, h4, h5, h6, h7, h8, h9, h10, h11, h12]
                          try simp only [bindO_assoc]
                          refine ite_ext (fun h13 => ?_) (fun h13 => ?_)
                          · simp -implicitDefEqProofs only [push_cast, hty, heq, h0, Proofs.Try.f153, seval, h1, h2, h3, h4, h5, h6, h7, h8, h9, h10, h11, h12, h13]
                          · try simp -implicitDefEqProofs only [push_cast, hty, heq, h0, Proofs.Try.f153, seval, h1, h2, h3, h4, h5, h6, h7, h8, h9, h10, h11, h12, h13]
                            try simp only [bindO_assoc]
                            refine ite_ext (fun h14 => ?_) (fun h14 => ?_)
                            · simp -implicitDefEqProofs only [push_cast, hty, heq, h0, Proofs.Try.f153, seval, h1, h2, h3, h4, h5, h6, h7, h8, h9, h10, h11, h12, h13, h14]
                            · try simp -implicitDefEqProofs only [push_cast, hty, heq, h0, Proofs.Try.f153, seval, h1, h2, h3, h4, h5, h6, h7, h8, h9, h10, h11, h12, h13, h14]
                              try simp only [bindO_assoc]
                              refine ite_ext (fun h15 => ?_) (fun h15 => ?_)
                              · simp -implicitDefEqProofs only [push_cast, hty, heq, h0, Proofs.Try.f153, seval, h1, h2, h3, h4, h5, h6, h7, h8, h9, h10, h11, h12, h13, h14, h15]
                              · try simp -implicitDefEqProofs only [push_cast, hty, heq, h0, Proofs.Try.f153, seval, h1, h2, h3, h4, h5, h6, h7, h8, h9, h10, h11, h12, h13, h14, h15]
                                try simp only [bindO_assoc]
                                refine ite_ext (fun h16 => ?_) (fun h16 => ?_)
                                · simp -implicitDefEqProofs only [push_cast, hty, heq, h0, Proofs.Try.f153, seval, h1, h2, h3, h4, h5, h6, h7, h8, h9, h10, h11, h12, h13, h14, h15, h16]
                                · try simp -implicitDefEqProofs only [push_cast, hty, heq, h0, Proofs.Try.f153, seval, h1, h2, h3, h4, h5, h6, h7, h8, h9, h10, h11, h12, h13, h14, h15, h16]
                                  try simp only [bindO_assoc]
                                  refine ite_ext (fun h17 => ?_) (fun h17 => ?_)
                                  · simp -implicitDefEqProofs only [push_cast, hty, heq, h0, Proofs.Try.f153, seval, h1, h2, h3, h4, h5, h6, h7, h8, h9, h10, h11, h12, h13, h14, h15, h16, h17]
                                  · try simp -implicitDefEqProofs only [push_cast, hty, heq, h0, Proofs.Try.f153, seval, h1, h2, h3, h4, h5, h6, h7, h8, h9, h10, h11, h12, h13, h14, h15, h16, h17]
                                    try simp only [bindO_assoc]
                                    refine ite_ext (fun h18 => ?_) (fun h18 => ?_)
                                    · simp -implicitDefEqProofs only [push_cast, hty, heq, h0, Proofs.Try.f153, seval, h1, h2, h3, h4, h5, h6, h7, h8, h9, h10, h11, h12, h13, h14, h15, h16, h17, h18]
                                    · try simp -implicitDefEqProofs only [push_cast, hty, heq, h0, Proofs.Try.f153, seval, h1, h2, h3, h4, h5, h6, h7, h8, h9, h10, h11, h12, h13, h14, h15, h16, h17, h18]
                                      try simp only [bindO_assoc]
                                      refine ite_ext (fun h19 => ?_) (fun h19 => ?_)
                                      · simp -implicitDefEqProofs only [push_cast, hty, heq, h0, Proofs.Try.f153, seval, h1, h2, h3, h4, h5, h6, h7, h8, h9, h10, h11, h12, h13, h14, h15, h16, h17, h18, h19]
                                      · try simp -implicitDefEqProofs only [push_cast, hty, heq, h0, Proofs.Try.f153, seval, h1, h2, h3, h4, h5, h6, h7, h8, h9, h10, h11, h12, h13, h14, h15, h16, h17, h18, h19]
                                        try simp only [bindO_assoc]
                                        refine ite_ext (fun h20 => ?_) (fun h20 => ?_)
                                        · simp -implicitDefEqProofs only [push_cast, hty, heq, h0, Proofs.Try.f153, seval, h1, h2, h3, h4, h5, h6, h7, h8, h9, h10, h11, h12, h13, h14, h15, h16, h17, h18, h19, h20]
                                        · try simp -implicitDefEqProofs only [push_cast, hty, heq, h0, Proofs.Try.f153, seval, h1, h2, h3, h4, h5, h6, h7, h8, h9, h10, h11, h12, h13, h14, h15, h16, h17, h18, h19, h20]
                                          try simp only [bindO_assoc]
                                          refine ite_ext (fun h21 => ?_) (fun h21 => ?_)
                                          · simp -implicitDefEqProofs only [push_cast, hty, heq, h0, Proofs.Try.f153, seval, h1, h2, h3, h4, h5, h6, h7, h8, h9, h10, h11, h12, h13, h14, h15, h16, h17, h18, h19, h20, h21]
                                          · try simp -implicitDefEqProofs only [push_cast, hty, heq, h0, Proofs.Try.f153, seval, h1, h2, h3, h4, h5, h6, h7, h8, h9, h10, h11, h12, h13, h14, h15, h16, h17, h18, h19, h20, h21]
                                            try simp only [bindO_assoc]
                                            refine ite_ext (fun h22 => ?_) (fun h22 => ?_)
                                            · simp -implicitDefEqProofs only [push_cast, hty, heq, h0, Proofs.Try.f153, seval, h1, h2, h3, h4, h5, h6, h7, h8, h9, h10, h11, h12, h13, h14, h15, h16, h17, h18, h19, h20, h21, h22]
                                            · try simp -implicitDefEqProofs only [push_cast, hty, heq, h0, Proofs.Try.f153, seval, h1, h2, h3, h4, h5, h6, h7, h8, h9, h10, h11, h12, h13, h14, h15, h16, h17, h18, h19, h20, h21, h22]
                                              try simp only [bindO_assoc]
                                              refine ite_ext (fun h23 => ?_) (fun h23 => ?_)
                                              · simp -implicitDefEqProofs only [push_cast, hty, heq, h0, Proofs.Try.f153, seval, h1, h2, h3, h4, h5, h6, h7, h8, h9, h10, h11, h12, h13, h14, h15, h16, h17, h18, h19, h20, h21, h22, h23]
                                              · try simp -implicitDefEqProofs only [push_cast, hty, heq, h0, Proofs.Try.f153, seval, h1, h2, h3, h4, h5, h6, h7, h8, h9, h10, h11, h12, h13, h14, h15, h16, h17, h18, h19, h20, h21, h22, h23]
                                                try simp only [bindO_assoc]
                                                refine ite_ext (fun h24 => ?_) (fun h24 => ?_)
                                                · simp -implicitDefEqProofs only [push_cast, hty, heq, h0, Proofs.Try.f153, seval, h1, h2, h3, h4, h5, h6, h7, h8, h9, h10, h11, h12, h13, h14, h15, h16, h17, h18, h19, h20, h21, h22, h23, h24]
                                                · try simp -implicitDefEqProofs only [push_cast, hty, heq, h0, Proofs.Try.f153, seval, h1, h2, h3, h4, h5, h6, h7, h8, h9, h10, h11, h12, h13, h14, h15, h16, h17, h18, h19, h20, h21, h22, h23, h24]
                                                  try simp only [bindO_assoc]
                                                  refine ite_ext (fun h25 => ?_) (fun h25 => ?_)
                                                  · simp -implicitDefEqProofs only [push_cast, hty, heq, h0, Proofs.Try.f153, seval, h1, h2, h3, h4, h5, h6, h7, h8, h9, h10, h11, h12, h13, h14, h15, h16, h17, h18, h19, h20, h21, h22, h23, h24, h25]
                                                  · simp -implicitDefEqProofs only [push_cast, hty, heq, h0, Proofs.Try.f153, seval, h1, h2, h3, h4, h5, h6, h7, h8, h9, h10, h11, h12, h13, h14, h15, h16, h17, h18, h19, h20, h21, h22, h23, h24, h25]
end Go.Abs.Try
