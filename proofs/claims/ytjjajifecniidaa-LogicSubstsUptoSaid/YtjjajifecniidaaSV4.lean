import Derived.Test.YtjjajifecniidaaSD
namespace Go.Abs.Try
open Go.RowKit
set_option linter.unusedSimpArgs false
set_option linter.unusedVariables false
set_option maxRecDepth 100000
set_option maxHeartbeats 4000000
attribute [local push_cast] ty2 ty3 ty9 ty22 ty24 ty34
theorem ev13 {E : Env} {N : Nat} (hB : N ≤ 4611686018427387904) (hty : E.ty = tys) (heq : E.eqt = eqts) (h0 : E.n0 = 0) (g13_27 : ∀ vs σ, E.tab 27 vs σ = plain (t27 N) vs σ) (most : Int) (l : List Node) :
    bindO (aPure E Proofs.Try.f13 H13 N [.int .i64 most, .sl false 5 (List.map Node.cells l)]) (cv sh13) = bindO (F13 N most l) fun r => some (v13 r) := by
  unfold F13
  rw [r_pure]
  unfold sh13
  try simp -implicitDefEqProofs only [push_cast, hty, heq, h0, Proofs.Try.f13, g13_27, reduceCtorEq, Nat.reduceEqDiff, Nat.reduceAdd, Nat.reduceLeDiff, Nat.reduceMul, Nat.reduceSub, Nat.reduceBEq, Nat.reduceLT, Int.reduceLT, Int.reduceLE, Int.reduceGT, Int.reduceGE, Int.reduceBEq, Int.reduceEq, Int.reduceToNat, Int.reduceAdd, Int.reduceSub]
  try simp only [bindO_assoc]
  refine fold_loop (S := Int) l (fun (i1 : Nat) (s3 : Int) => [.int .i64 s3, .top, .top, .top, .top, .top, .top, .sl false 5 (List.map Node.cells l), .int .i64 (l.length : Int), .int .i64 (i1 : Int), .top, .top, .top, .top, .top, .top, .top, .top, .top, .top]) (fun (_ : Nat) (s3 : Int) => []) most ?_ ?_
  · intro s3 i1 x2 h1 h2 h3
    have h4 := rng_wrap h3 hB
    have h5 := lt_true h2
    have h6 := inB_lt h2
    have h7 := rng_get (c := Node.cells) h1
    have h8 := rng_getq (c := Node.cells) h1
    try simp -implicitDefEqProofs only [push_cast, hty, heq, h0, Proofs.Try.f13, g13_27, reduceCtorEq, Nat.reduceEqDiff, Nat.reduceAdd, Nat.reduceLeDiff, Nat.reduceMul, Nat.reduceSub, Nat.reduceBEq, Nat.reduceLT, Int.reduceLT, Int.reduceLE, Int.reduceGT, Int.reduceGE, Int.reduceBEq, Int.reduceEq, Int.reduceToNat, Int.reduceAdd, Int.reduceSub, h4, h5, h6, h7, h8, F13_s1]
    try simp only [bindO_assoc]
    refine bindO_ext fun r4 => ?_
    simp -implicitDefEqProofs only [push_cast, hty, heq, h0, Proofs.Try.f13, g13_27, reduceCtorEq, Nat.reduceEqDiff, Nat.reduceAdd, Nat.reduceLeDiff, Nat.reduceMul, Nat.reduceSub, Nat.reduceBEq, Nat.reduceLT, Int.reduceLT, Int.reduceLE, Int.reduceGT, Int.reduceGE, Int.reduceBEq, Int.reduceEq, Int.reduceToNat, Int.reduceAdd, Int.reduceSub, h4, h5, h6, h7, h8, F13_s1]
  · intro s3
    have h9 := lt_self (n := l.length)
    simp -implicitDefEqProofs only [push_cast, hty, heq, h0, Proofs.Try.f13, g13_27, reduceCtorEq, Nat.reduceEqDiff, Nat.reduceAdd, Nat.reduceLeDiff, Nat.reduceMul, Nat.reduceSub, Nat.reduceBEq, Nat.reduceLT, Int.reduceLT, Int.reduceLE, Int.reduceGT, Int.reduceGE, Int.reduceBEq, Int.reduceEq, Int.reduceToNat, Int.reduceAdd, Int.reduceSub, h9, F13_f1]
theorem ev82 {E : Env} {N : Nat} (hB : N ≤ 4611686018427387904) (self82 : Node → Option (Node)) (hty : E.ty = tys) (heq : E.eqt = eqts) (h0 : E.n0 = 0) (g82_123 : ∀ vs σ, E.tab 123 vs σ = cloneT 5 64 vs σ) (g82_82 : ∀ vs σ, E.tab 82 vs σ = plain (ts82 self82) vs σ) (n : Node) :
    bindO (aPure E Proofs.Try.f82 H82 N [.agg (Node.cells n)]) (cv sh82) = bindO (F82b self82 N n) fun r => some (v82 r) := by
  unfold F82b
  rw [r_pure]
  unfold sh82
  try simp -implicitDefEqProofs only [push_cast, hty, heq, h0, Proofs.Try.f82, g82_123, g82_82, reduceCtorEq, Nat.reduceEqDiff, Nat.reduceAdd, Nat.reduceLeDiff, Nat.reduceMul, Nat.reduceSub, Nat.reduceBEq, Nat.reduceLT, Int.reduceLT, Int.reduceLE, Int.reduceGT, Int.reduceGE, Int.reduceBEq, Int.reduceEq, Int.reduceToNat, Int.reduceAdd, Int.reduceSub]
  try simp only [bindO_assoc]
  refine ite_ext (fun h1 => ?_) (fun h1 => ?_)
  · try simp -implicitDefEqProofs only [push_cast, hty, heq, h0, Proofs.Try.f82, g82_123, g82_82, reduceCtorEq, Nat.reduceEqDiff, Nat.reduceAdd, Nat.reduceLeDiff, Nat.reduceMul, Nat.reduceSub, Nat.reduceBEq, Nat.reduceLT, Int.reduceLT, Int.reduceLE, Int.reduceGT, Int.reduceGE, Int.reduceBEq, Int.reduceEq, Int.reduceToNat, Int.reduceAdd, Int.reduceSub, h1]
    try simp only [bindO_assoc]
    refine fold_loop (S := List Node) (List.range ((n.kids.length : Int)).toNat) (fun (i1 : Nat) (s3 : List Node) => [.top, .ptr 0 0, .ptr 1 0, .top, .top, .top, .top, .top, .top, .top, .rs 2 0, .int .i64 ((n.kids.length : Int)), .int .i64 (i1 : Int), .top, .top, .top, .top, .top, .top, .top, .top, .top, .top, .top, .top]) (fun (_ : Nat) (s3 : List Node) => [.var [.int .i64 n.op, .int .i64 n.sortf, .str n.name, .int .i64 n.num, .rs 2 0], .var [.int .i64 0, .int .i64 0, .str (⟨#[]⟩ : ByteArray), .int .i64 0, .sl true 5 []], .row 5 0 (List.map Node.cells s3)]) n.kids ?_ ?_
    · intro s3 i1 x2 h2 h3 h4
      have h5 := rng_wrap h4 hB
      rw [List.length_range] at h3
      have h6 := cnt_lt h3
      try simp -implicitDefEqProofs only [push_cast, hty, heq, h0, Proofs.Try.f82, g82_123, g82_82, reduceCtorEq, Nat.reduceEqDiff, Nat.reduceAdd, Nat.reduceLeDiff, Nat.reduceMul, Nat.reduceSub, Nat.reduceBEq, Nat.reduceLT, Int.reduceLT, Int.reduceLE, Int.reduceGT, Int.reduceGE, Int.reduceBEq, Int.reduceEq, Int.reduceToNat, Int.reduceAdd, Int.reduceSub, h1, h5, h6, F82_s1]
      try simp only [bindO_assoc]
      refine at_rs (c := Node.cells) fun x4 h9 h10 h11 h12 => ?_
      try simp only [Int.reduceToNat, Int.toNat_natCast] at h11 h12
      try simp -implicitDefEqProofs only [push_cast, hty, heq, h0, Proofs.Try.f82, g82_123, g82_82, reduceCtorEq, Nat.reduceEqDiff, Nat.reduceAdd, Nat.reduceLeDiff, Nat.reduceMul, Nat.reduceSub, Nat.reduceBEq, Nat.reduceLT, Int.reduceLT, Int.reduceLE, Int.reduceGT, Int.reduceGE, Int.reduceBEq, Int.reduceEq, Int.reduceToNat, Int.reduceAdd, Int.reduceSub, h1, h5, h6, F82_s1, h9, h11, h12]
      try simp only [bindO_assoc]
      refine bindO_ext fun r5 => ?_
      simp -implicitDefEqProofs only [push_cast, hty, heq, h0, Proofs.Try.f82, g82_123, g82_82, reduceCtorEq, Nat.reduceEqDiff, Nat.reduceAdd, Nat.reduceLeDiff, Nat.reduceMul, Nat.reduceSub, Nat.reduceBEq, Nat.reduceLT, Int.reduceLT, Int.reduceLE, Int.reduceGT, Int.reduceGE, Int.reduceBEq, Int.reduceEq, Int.reduceToNat, Int.reduceAdd, Int.reduceSub, h1, h5, h6, F82_s1, h9, h11, h12]
    · intro s3
      have h13 := cnt_end (m := ((n.kids.length : Int)))
      try simp only [Int.toNat_natCast] at h13
      simp -implicitDefEqProofs only [push_cast, hty, heq, h0, Proofs.Try.f82, g82_123, g82_82, reduceCtorEq, Nat.reduceEqDiff, Nat.reduceAdd, Nat.reduceLeDiff, Nat.reduceMul, Nat.reduceSub, Nat.reduceBEq, Nat.reduceLT, Int.reduceLT, Int.reduceLE, Int.reduceGT, Int.reduceGE, Int.reduceBEq, Int.reduceEq, Int.reduceToNat, Int.reduceAdd, Int.reduceSub, h1, h13, F82_f1]
  · simp -implicitDefEqProofs only [push_cast, hty, heq, h0, Proofs.Try.f82, g82_123, g82_82, reduceCtorEq, Nat.reduceEqDiff, Nat.reduceAdd, Nat.reduceLeDiff, Nat.reduceMul, Nat.reduceSub, Nat.reduceBEq, Nat.reduceLT, Int.reduceLT, Int.reduceLE, Int.reduceGT, Int.reduceGE, Int.reduceBEq, Int.reduceEq, Int.reduceToNat, Int.reduceAdd, Int.reduceSub, h1]
theorem ev22 {E : Env} {N : Nat} (hB : N ≤ 4611686018427387904) (self22 : Node → (List ByteArray) → (List Node) → Option (Node)) (hty : E.ty = tys) (heq : E.eqt = eqts) (h0 : E.n0 = 0) (g22_82 : ∀ vs σ, E.tab 82 vs σ = plain (t82 N) vs σ) (g22_22 : ∀ vs σ, E.tab 22 vs σ = plain (ts22 self22) vs σ) (n : Node) (names : List ByteArray) (withq : List Node) :
    bindO (aPure E Proofs.Try.f22 H22 N [.agg (Node.cells n), .sl false 1 (List.map cS names), .sl false 5 (List.map Node.cells withq)]) (cv sh22) = bindO (F22b self22 N n names withq) fun r => some (v22 r) := by
  unfold F22b
  rw [r_pure]
  unfold sh22
  try simp -implicitDefEqProofs only [push_cast, hty, heq, h0, Proofs.Try.f22, g22_82, g22_22, reduceCtorEq, Nat.reduceEqDiff, Nat.reduceAdd, Nat.reduceLeDiff, Nat.reduceMul, Nat.reduceSub, Nat.reduceBEq, Nat.reduceLT, Int.reduceLT, Int.reduceLE, Int.reduceGT, Int.reduceGE, Int.reduceBEq, Int.reduceEq, Int.reduceToNat, Int.reduceAdd, Int.reduceSub]
  try simp only [bindO_assoc]
  refine ite_ext (fun h1 => ?_) (fun h1 => ?_)
  · try simp -implicitDefEqProofs only [push_cast, hty, heq, h0, Proofs.Try.f22, g22_82, g22_22, reduceCtorEq, Nat.reduceEqDiff, Nat.reduceAdd, Nat.reduceLeDiff, Nat.reduceMul, Nat.reduceSub, Nat.reduceBEq, Nat.reduceLT, Int.reduceLT, Int.reduceLE, Int.reduceGT, Int.reduceGE, Int.reduceBEq, Int.reduceEq, Int.reduceToNat, Int.reduceAdd, Int.reduceSub, h1]
    try simp only [bindO_assoc]
    refine fold_loop (S := Unit) (List.range (min (names.length : Int) (withq.length : Int)).toNat) (fun (i1 : Nat) (s3 : Unit) => [.top, .sl false 1 (List.map cS names), .sl false 5 (List.map Node.cells withq), .ptr 0 0, .top, .top, .ptr 1 0, .top, .top, .top, .top, .top, .top, .top, .top, .top, .top, .top, .int .i64 (min (names.length : Int) (withq.length : Int)), .int .i64 (i1 : Int), .top, .top, .top, .top, .top, .top, .top, .top, .top, .top, .top, .top, .top, .top, .top, .top, .top, .top, .top, .top, .top, .top, .top, .top, .top, .top, .top, .top, .top, .top, .top, .top, .top, .top, .top, .top, .top]) (fun (_ : Nat) (s3 : Unit) => [.var [.int .i64 n.op, .int .i64 n.sortf, .str n.name, .int .i64 n.num, .sl false 5 (List.map Node.cells n.kids)], .var [.int .i64 0, .int .i64 0, .str (⟨#[]⟩ : ByteArray), .int .i64 0, .sl true 5 []]]) () ?_ ?_
    · intro s3 i1 x2 h2 h3 h4
      have h5 := rng_wrap h4 hB
      rw [List.length_range] at h3
      have h6 := cnt_lt h3
      try simp -implicitDefEqProofs only [push_cast, hty, heq, h0, Proofs.Try.f22, g22_82, g22_22, reduceCtorEq, Nat.reduceEqDiff, Nat.reduceAdd, Nat.reduceLeDiff, Nat.reduceMul, Nat.reduceSub, Nat.reduceBEq, Nat.reduceLT, Int.reduceLT, Int.reduceLE, Int.reduceGT, Int.reduceGE, Int.reduceBEq, Int.reduceEq, Int.reduceToNat, Int.reduceAdd, Int.reduceSub, h1, h5, h6, F22_s1]
      try simp only [bindO_assoc]
      refine at_sl (c := cS) fun x4 h9 h10 h11 h12 => ?_
      try simp only [Int.reduceToNat, Int.toNat_natCast] at h11 h12
      try simp -implicitDefEqProofs only [push_cast, hty, heq, h0, Proofs.Try.f22, g22_82, g22_22, reduceCtorEq, Nat.reduceEqDiff, Nat.reduceAdd, Nat.reduceLeDiff, Nat.reduceMul, Nat.reduceSub, Nat.reduceBEq, Nat.reduceLT, Int.reduceLT, Int.reduceLE, Int.reduceGT, Int.reduceGE, Int.reduceBEq, Int.reduceEq, Int.reduceToNat, Int.reduceAdd, Int.reduceSub, h1, h5, h6, F22_s1, h9, h11, h12]
      try simp only [bindO_assoc]
      refine ite_ext (fun h13 => ?_) (fun h13 => ?_)
      · try simp -implicitDefEqProofs only [push_cast, hty, heq, h0, Proofs.Try.f22, g22_82, g22_22, reduceCtorEq, Nat.reduceEqDiff, Nat.reduceAdd, Nat.reduceLeDiff, Nat.reduceMul, Nat.reduceSub, Nat.reduceBEq, Nat.reduceLT, Int.reduceLT, Int.reduceLE, Int.reduceGT, Int.reduceGE, Int.reduceBEq, Int.reduceEq, Int.reduceToNat, Int.reduceAdd, Int.reduceSub, h1, h5, h6, F22_s1, h9, h11, h12, h13]
        try simp only [bindO_assoc]
        refine at_sl (c := Node.cells) fun x5 h14 h15 h16 h17 => ?_
        try simp only [Int.reduceToNat, Int.toNat_natCast] at h16 h17
        try simp -implicitDefEqProofs only [push_cast, hty, heq, h0, Proofs.Try.f22, g22_82, g22_22, reduceCtorEq, Nat.reduceEqDiff, Nat.reduceAdd, Nat.reduceLeDiff, Nat.reduceMul, Nat.reduceSub, Nat.reduceBEq, Nat.reduceLT, Int.reduceLT, Int.reduceLE, Int.reduceGT, Int.reduceGE, Int.reduceBEq, Int.reduceEq, Int.reduceToNat, Int.reduceAdd, Int.reduceSub, h1, h5, h6, F22_s1, h9, h11, h12, h13, h14, h16, h17]
        try simp only [bindO_assoc]
        refine bindO_ext fun r6 => ?_
        simp -implicitDefEqProofs only [push_cast, hty, heq, h0, Proofs.Try.f22, g22_82, g22_22, reduceCtorEq, Nat.reduceEqDiff, Nat.reduceAdd, Nat.reduceLeDiff, Nat.reduceMul, Nat.reduceSub, Nat.reduceBEq, Nat.reduceLT, Int.reduceLT, Int.reduceLE, Int.reduceGT, Int.reduceGE, Int.reduceBEq, Int.reduceEq, Int.reduceToNat, Int.reduceAdd, Int.reduceSub, h1, h5, h6, F22_s1, h9, h11, h12, h13, h14, h16, h17]
      · simp -implicitDefEqProofs only [push_cast, hty, heq, h0, Proofs.Try.f22, g22_82, g22_22, reduceCtorEq, Nat.reduceEqDiff, Nat.reduceAdd, Nat.reduceLeDiff, Nat.reduceMul, Nat.reduceSub, Nat.reduceBEq, Nat.reduceLT, Int.reduceLT, Int.reduceLE, Int.reduceGT, Int.reduceGE, Int.reduceBEq, Int.reduceEq, Int.reduceToNat, Int.reduceAdd, Int.reduceSub, h1, h5, h6, F22_s1, h9, h11, h12, h13]
    · intro s3
      have h18 := cnt_end (m := min (names.length : Int) (withq.length : Int))
      try simp only [Int.toNat_natCast] at h18
      try simp -implicitDefEqProofs only [push_cast, hty, heq, h0, Proofs.Try.f22, g22_82, g22_22, reduceCtorEq, Nat.reduceEqDiff, Nat.reduceAdd, Nat.reduceLeDiff, Nat.reduceMul, Nat.reduceSub, Nat.reduceBEq, Nat.reduceLT, Int.reduceLT, Int.reduceLE, Int.reduceGT, Int.reduceGE, Int.reduceBEq, Int.reduceEq, Int.reduceToNat, Int.reduceAdd, Int.reduceSub, h1, h18, F22_f1]
      try simp only [bindO_assoc]
      refine ite_ext (fun h19 => ?_) (fun h19 => ?_)
      · try simp -implicitDefEqProofs only [push_cast, hty, heq, h0, Proofs.Try.f22, g22_82, g22_22, reduceCtorEq, Nat.reduceEqDiff, Nat.reduceAdd, Nat.reduceLeDiff, Nat.reduceMul, Nat.reduceSub, Nat.reduceBEq, Nat.reduceLT, Int.reduceLT, Int.reduceLE, Int.reduceGT, Int.reduceGE, Int.reduceBEq, Int.reduceEq, Int.reduceToNat, Int.reduceAdd, Int.reduceSub, h1, h18, F22_f1, h19]
        try simp only [bindO_assoc]
        refine fold_loop (S := List Node) n.kids (fun (i7 : Nat) (s9 : List Node) => [.top, .sl false 1 (List.map cS names), .sl false 5 (List.map Node.cells withq), .ptr 0 0, .top, .top, .ptr 1 0, .top, .rs 2 0, .top, .top, .top, .top, .top, .top, .top, .top, .top, .top, .top, .top, .top, .top, .top, .top, .top, .top, .top, .top, .top, .top, .top, .top, .top, .top, .top, .top, .top, .top, .top, .sl false 5 (List.map Node.cells n.kids), .int .i64 (n.kids.length : Int), .int .i64 (i7 : Int), .top, .top, .top, .top, .top, .top, .top, .top, .top, .top, .top, .top, .top, .top]) (fun (_ : Nat) (s9 : List Node) => [.var [.int .i64 n.op, .int .i64 n.sortf, .str n.name, .int .i64 n.num, .sl false 5 (List.map Node.cells n.kids)], .var [.int .i64 0, .int .i64 0, .str (⟨#[]⟩ : ByteArray), .int .i64 0, .sl true 5 []], .row 5 0 (List.map Node.cells s9)]) ([]) ?_ ?_
        · intro s9 i7 x8 h20 h21 h22
          have h23 := rng_wrap h22 hB
          have h24 := lt_true h21
          have h25 := inB_lt h21
          have h26 := rng_get (c := Node.cells) h20
          have h27 := rng_getq (c := Node.cells) h20
          try simp -implicitDefEqProofs only [push_cast, hty, heq, h0, Proofs.Try.f22, g22_82, g22_22, reduceCtorEq, Nat.reduceEqDiff, Nat.reduceAdd, Nat.reduceLeDiff, Nat.reduceMul, Nat.reduceSub, Nat.reduceBEq, Nat.reduceLT, Int.reduceLT, Int.reduceLE, Int.reduceGT, Int.reduceGE, Int.reduceBEq, Int.reduceEq, Int.reduceToNat, Int.reduceAdd, Int.reduceSub, h1, h18, F22_f1, h19, h23, h24, h25, h26, h27, F22_s2]
          try simp only [bindO_assoc]
          refine bindO_ext fun r10 => ?_
          try simp -implicitDefEqProofs only [push_cast, hty, heq, h0, Proofs.Try.f22, g22_82, g22_22, reduceCtorEq, Nat.reduceEqDiff, Nat.reduceAdd, Nat.reduceLeDiff, Nat.reduceMul, Nat.reduceSub, Nat.reduceBEq, Nat.reduceLT, Int.reduceLT, Int.reduceLE, Int.reduceGT, Int.reduceGE, Int.reduceBEq, Int.reduceEq, Int.reduceToNat, Int.reduceAdd, Int.reduceSub, h1, h18, F22_f1, h19, h23, h24, h25, h26, h27, F22_s2]
          try simp only [bindO_assoc]
          refine ite_ext (fun h28 => ?_) (fun h28 => ?_)
          · simp -implicitDefEqProofs only [push_cast, hty, heq, h0, Proofs.Try.f22, g22_82, g22_22, reduceCtorEq, Nat.reduceEqDiff, Nat.reduceAdd, Nat.reduceLeDiff, Nat.reduceMul, Nat.reduceSub, Nat.reduceBEq, Nat.reduceLT, Int.reduceLT, Int.reduceLE, Int.reduceGT, Int.reduceGE, Int.reduceBEq, Int.reduceEq, Int.reduceToNat, Int.reduceAdd, Int.reduceSub, h1, h18, F22_f1, h19, h23, h24, h25, h26, h27, F22_s2, h28]
          · simp -implicitDefEqProofs only [push_cast, hty, heq, h0, Proofs.Try.f22, g22_82, g22_22, reduceCtorEq, Nat.reduceEqDiff, Nat.reduceAdd, Nat.reduceLeDiff, Nat.reduceMul, Nat.reduceSub, Nat.reduceBEq, Nat.reduceLT, Int.reduceLT, Int.reduceLE, Int.reduceGT, Int.reduceGE, Int.reduceBEq, Int.reduceEq, Int.reduceToNat, Int.reduceAdd, Int.reduceSub, h1, h18, F22_f1, h19, h23, h24, h25, h26, h27, F22_s2, h28]
        · intro s9
          have h29 := lt_self (n := n.kids.length)
          simp -implicitDefEqProofs only [push_cast, hty, heq, h0, Proofs.Try.f22, g22_82, g22_22, reduceCtorEq, Nat.reduceEqDiff, Nat.reduceAdd, Nat.reduceLeDiff, Nat.reduceMul, Nat.reduceSub, Nat.reduceBEq, Nat.reduceLT, Int.reduceLT, Int.reduceLE, Int.reduceGT, Int.reduceGE, Int.reduceBEq, Int.reduceEq, Int.reduceToNat, Int.reduceAdd, Int.reduceSub, h1, h18, F22_f1, h19, h29, F22_f2]
      · simp -implicitDefEqProofs only [push_cast, hty, heq, h0, Proofs.Try.f22, g22_82, g22_22, reduceCtorEq, Nat.reduceEqDiff, Nat.reduceAdd, Nat.reduceLeDiff, Nat.reduceMul, Nat.reduceSub, Nat.reduceBEq, Nat.reduceLT, Int.reduceLT, Int.reduceLE, Int.reduceGT, Int.reduceGE, Int.reduceBEq, Int.reduceEq, Int.reduceToNat, Int.reduceAdd, Int.reduceSub, h1, h18, F22_f1, h19]
  · try simp -implicitDefEqProofs only [push_cast, hty, heq, h0, Proofs.Try.f22, g22_82, g22_22, reduceCtorEq, Nat.reduceEqDiff, Nat.reduceAdd, Nat.reduceLeDiff, Nat.reduceMul, Nat.reduceSub, Nat.reduceBEq, Nat.reduceLT, Int.reduceLT, Int.reduceLE, Int.reduceGT, Int.reduceGE, Int.reduceBEq, Int.reduceEq, Int.reduceToNat, Int.reduceAdd, Int.reduceSub, h1]
    try simp only [bindO_assoc]
    refine ite_ext (fun h30 => ?_) (fun h30 => ?_)
    · try simp -implicitDefEqProofs only [push_cast, hty, heq, h0, Proofs.Try.f22, g22_82, g22_22, reduceCtorEq, Nat.reduceEqDiff, Nat.reduceAdd, Nat.reduceLeDiff, Nat.reduceMul, Nat.reduceSub, Nat.reduceBEq, Nat.reduceLT, Int.reduceLT, Int.reduceLE, Int.reduceGT, Int.reduceGE, Int.reduceBEq, Int.reduceEq, Int.reduceToNat, Int.reduceAdd, Int.reduceSub, h1, h30]
      try simp only [bindO_assoc]
      refine fold_loop (S := List Node) n.kids (fun (i11 : Nat) (s13 : List Node) => [.top, .sl false 1 (List.map cS names), .sl false 5 (List.map Node.cells withq), .ptr 0 0, .top, .top, .ptr 1 0, .top, .rs 2 0, .top, .top, .top, .top, .top, .top, .top, .top, .top, .top, .top, .top, .top, .top, .top, .top, .top, .top, .top, .top, .top, .top, .top, .top, .top, .top, .top, .top, .top, .top, .top, .sl false 5 (List.map Node.cells n.kids), .int .i64 (n.kids.length : Int), .int .i64 (i11 : Int), .top, .top, .top, .top, .top, .top, .top, .top, .top, .top, .top, .top, .top, .top]) (fun (_ : Nat) (s13 : List Node) => [.var [.int .i64 n.op, .int .i64 n.sortf, .str n.name, .int .i64 n.num, .sl false 5 (List.map Node.cells n.kids)], .var [.int .i64 0, .int .i64 0, .str (⟨#[]⟩ : ByteArray), .int .i64 0, .sl true 5 []], .row 5 0 (List.map Node.cells s13)]) ([]) ?_ ?_
      · intro s13 i11 x12 h31 h32 h33
        have h34 := rng_wrap h33 hB
        have h35 := lt_true h32
        have h36 := inB_lt h32
        have h37 := rng_get (c := Node.cells) h31
        have h38 := rng_getq (c := Node.cells) h31
        try simp -implicitDefEqProofs only [push_cast, hty, heq, h0, Proofs.Try.f22, g22_82, g22_22, reduceCtorEq, Nat.reduceEqDiff, Nat.reduceAdd, Nat.reduceLeDiff, Nat.reduceMul, Nat.reduceSub, Nat.reduceBEq, Nat.reduceLT, Int.reduceLT, Int.reduceLE, Int.reduceGT, Int.reduceGE, Int.reduceBEq, Int.reduceEq, Int.reduceToNat, Int.reduceAdd, Int.reduceSub, h1, h30, h34, h35, h36, h37, h38, F22_s3]
        try simp only [bindO_assoc]
        refine bindO_ext fun r14 => ?_
        try simp -implicitDefEqProofs only [push_cast, hty, heq, h0, Proofs.Try.f22, g22_82, g22_22, reduceCtorEq, Nat.reduceEqDiff, Nat.reduceAdd, Nat.reduceLeDiff, Nat.reduceMul, Nat.reduceSub, Nat.reduceBEq, Nat.reduceLT, Int.reduceLT, Int.reduceLE, Int.reduceGT, Int.reduceGE, Int.reduceBEq, Int.reduceEq, Int.reduceToNat, Int.reduceAdd, Int.reduceSub, h1, h30, h34, h35, h36, h37, h38, F22_s3]
        try simp only [bindO_assoc]
        refine ite_ext (fun h39 => ?_) (fun h39 => ?_)
        · simp -implicitDefEqProofs only [push_cast, hty, heq, h0, Proofs.Try.f22, g22_82, g22_22, reduceCtorEq, Nat.reduceEqDiff, Nat.reduceAdd, Nat.reduceLeDiff, Nat.reduceMul, Nat.reduceSub, Nat.reduceBEq, Nat.reduceLT, Int.reduceLT, Int.reduceLE, Int.reduceGT, Int.reduceGE, Int.reduceBEq, Int.reduceEq, Int.reduceToNat, Int.reduceAdd, Int.reduceSub, h1, h30, h34, h35, h36, h37, h38, F22_s3, h39]
        · simp -implicitDefEqProofs only [push_cast, hty, heq, h0, Proofs.Try.f22, g22_82, g22_22, reduceCtorEq, Nat.reduceEqDiff, Nat.reduceAdd, Nat.reduceLeDiff, Nat.reduceMul, Nat.reduceSub, Nat.reduceBEq, Nat.reduceLT, Int.reduceLT, Int.reduceLE, Int.reduceGT, Int.reduceGE, Int.reduceBEq, Int.reduceEq, Int.reduceToNat, Int.reduceAdd, Int.reduceSub, h1, h30, h34, h35, h36, h37, h38, F22_s3, h39]
      · intro s13
        have h40 := lt_self (n := n.kids.length)
        simp -implicitDefEqProofs only [push_cast, hty, heq, h0, Proofs.Try.f22, g22_82, g22_22, reduceCtorEq, Nat.reduceEqDiff, Nat.reduceAdd, Nat.reduceLeDiff, Nat.reduceMul, Nat.reduceSub, Nat.reduceBEq, Nat.reduceLT, Int.reduceLT, Int.reduceLE, Int.reduceGT, Int.reduceGE, Int.reduceBEq, Int.reduceEq, Int.reduceToNat, Int.reduceAdd, Int.reduceSub, h1, h30, h40, F22_f3]
    · simp -implicitDefEqProofs only [push_cast, hty, heq, h0, Proofs.Try.f22, g22_82, g22_22, reduceCtorEq, Nat.reduceEqDiff, Nat.reduceAdd, Nat.reduceLeDiff, Nat.reduceMul, Nat.reduceSub, Nat.reduceBEq, Nat.reduceLT, Int.reduceLT, Int.reduceLE, Int.reduceGT, Int.reduceGE, Int.reduceBEq, Int.reduceEq, Int.reduceToNat, Int.reduceAdd, Int.reduceSub, h1, h30]
theorem ev83 {E : Env} {N : Nat} (hB : N ≤ 4611686018427387904) (self83 : Node → Option (Node)) (hty : E.ty = tys) (heq : E.eqt = eqts) (h0 : E.n0 = 0) (g83_83 : ∀ vs σ, E.tab 83 vs σ = plain (ts83 self83) vs σ) (n : Node) :
    bindO (aPure E Proofs.Try.f83 H83 N [.agg (Node.cells n)]) (cv sh83) = bindO (F83b self83 N n) fun r => some (v83 r) := by
  unfold F83b
  rw [r_pure]
  unfold sh83
  try simp -implicitDefEqProofs only [push_cast, hty, heq, h0, Proofs.Try.f83, g83_83, reduceCtorEq, Nat.reduceEqDiff, Nat.reduceAdd, Nat.reduceLeDiff, Nat.reduceMul, Nat.reduceSub, Nat.reduceBEq, Nat.reduceLT, Int.reduceLT, Int.reduceLE, Int.reduceGT, Int.reduceGE, Int.reduceBEq, Int.reduceEq, Int.reduceToNat, Int.reduceAdd, Int.reduceSub]
  try simp only [bindO_assoc]
  refine fold_loop (S := List Node) n.kids (fun (i4 : Nat) (s6 : List Node) => [.top, .top, .ptr 1 0, .ptr 2 0, .top, .top, .top, .top, .top, .top, .top, .top, .top, .top, .top, .top, .top, .sl false 5 (List.map Node.cells n.kids), .int .i64 (n.kids.length : Int), .int .i64 (i4 : Int), .top, .top, .top, .top, .top, .top, .top, .top, .top, .top, .top, .top, .top]) (fun (_ : Nat) (s6 : List Node) => [.var [.int .i64 n.op, .int .i64 n.sortf, .str n.name, .int .i64 n.num, .sl false 5 (List.map Node.cells n.kids)], .var [.int .i64 0, .int .i64 0, .str (⟨#[]⟩ : ByteArray), .int .i64 0, .sl true 5 []], .var [.int .i64 n.op, .int .i64 n.sortf, .str n.name, .int .i64 n.num, .rs 3 0], .row 5 0 (List.map Node.cells s6)]) ([]) ?_ ?_
  · intro s6 i4 x5 h1 h2 h3
    have h4 := rng_wrap h3 hB
    have h5 := lt_true h2
    have h6 := inB_lt h2
    have h7 := rng_get (c := Node.cells) h1
    have h8 := rng_getq (c := Node.cells) h1
    try simp -implicitDefEqProofs only [push_cast, hty, heq, h0, Proofs.Try.f83, g83_83, reduceCtorEq, Nat.reduceEqDiff, Nat.reduceAdd, Nat.reduceLeDiff, Nat.reduceMul, Nat.reduceSub, Nat.reduceBEq, Nat.reduceLT, Int.reduceLT, Int.reduceLE, Int.reduceGT, Int.reduceGE, Int.reduceBEq, Int.reduceEq, Int.reduceToNat, Int.reduceAdd, Int.reduceSub, h4, h5, h6, h7, h8, F83_s2]
    try simp only [bindO_assoc]
    refine bindO_ext fun r7 => ?_
    try simp -implicitDefEqProofs only [push_cast, hty, heq, h0, Proofs.Try.f83, g83_83, reduceCtorEq, Nat.reduceEqDiff, Nat.reduceAdd, Nat.reduceLeDiff, Nat.reduceMul, Nat.reduceSub, Nat.reduceBEq, Nat.reduceLT, Int.reduceLT, Int.reduceLE, Int.reduceGT, Int.reduceGE, Int.reduceBEq, Int.reduceEq, Int.reduceToNat, Int.reduceAdd, Int.reduceSub, h4, h5, h6, h7, h8, F83_s2]
    try simp only [bindO_assoc]
    refine ite_ext (fun h9 => ?_) (fun h9 => ?_)
    · simp -implicitDefEqProofs only [push_cast, hty, heq, h0, Proofs.Try.f83, g83_83, reduceCtorEq, Nat.reduceEqDiff, Nat.reduceAdd, Nat.reduceLeDiff, Nat.reduceMul, Nat.reduceSub, Nat.reduceBEq, Nat.reduceLT, Int.reduceLT, Int.reduceLE, Int.reduceGT, Int.reduceGE, Int.reduceBEq, Int.reduceEq, Int.reduceToNat, Int.reduceAdd, Int.reduceSub, h4, h5, h6, h7, h8, F83_s2, h9]
    · simp -implicitDefEqProofs only [push_cast, hty, heq, h0, Proofs.Try.f83, g83_83, reduceCtorEq, Nat.reduceEqDiff, Nat.reduceAdd, Nat.reduceLeDiff, Nat.reduceMul, Nat.reduceSub, Nat.reduceBEq, Nat.reduceLT, Int.reduceLT, Int.reduceLE, Int.reduceGT, Int.reduceGE, Int.reduceBEq, Int.reduceEq, Int.reduceToNat, Int.reduceAdd, Int.reduceSub, h4, h5, h6, h7, h8, F83_s2, h9]
  · intro s6
    have h10 := lt_self (n := n.kids.length)
    simp -implicitDefEqProofs only [push_cast, hty, heq, h0, Proofs.Try.f83, g83_83, reduceCtorEq, Nat.reduceEqDiff, Nat.reduceAdd, Nat.reduceLeDiff, Nat.reduceMul, Nat.reduceSub, Nat.reduceBEq, Nat.reduceLT, Int.reduceLT, Int.reduceLE, Int.reduceGT, Int.reduceGE, Int.reduceBEq, Int.reduceEq, Int.reduceToNat, Int.reduceAdd, Int.reduceSub, h10, F83_f2]
theorem ev23 {E : Env} {N : Nat} (hB : N ≤ 4611686018427387904) (self23 : Node → (List ByteArray) → (List Node) → Option (Node)) (hty : E.ty = tys) (heq : E.eqt = eqts) (h0 : E.n0 = 0) (g23_83 : ∀ vs σ, E.tab 83 vs σ = plain (t83 N) vs σ) (g23_23 : ∀ vs σ, E.tab 23 vs σ = plain (ts23 self23) vs σ) (n : Node) (names : List ByteArray) (withq : List Node) :
    bindO (aPure E Proofs.Try.f23 H23 N [.agg (Node.cells n), .sl false 1 (List.map cS names), .sl false 5 (List.map Node.cells withq)]) (cv sh23) = bindO (F23b self23 N n names withq) fun r => some (v23 r) := by
  unfold F23b
  rw [r_pure]
  unfold sh23
  try simp -implicitDefEqProofs only [push_cast, hty, heq, h0, Proofs.Try.f23, g23_83, g23_23, reduceCtorEq, Nat.reduceEqDiff, Nat.reduceAdd, Nat.reduceLeDiff, Nat.reduceMul, Nat.reduceSub, Nat.reduceBEq, Nat.reduceLT, Int.reduceLT, Int.reduceLE, Int.reduceGT, Int.reduceGE, Int.reduceBEq, Int.reduceEq, Int.reduceToNat, Int.reduceAdd, Int.reduceSub]
  try simp only [bindO_assoc]
  refine ite_ext (fun h1 => ?_) (fun h1 => ?_)
  · try simp -implicitDefEqProofs only [push_cast, hty, heq, h0, Proofs.Try.f23, g23_83, g23_23, reduceCtorEq, Nat.reduceEqDiff, Nat.reduceAdd, Nat.reduceLeDiff, Nat.reduceMul, Nat.reduceSub, Nat.reduceBEq, Nat.reduceLT, Int.reduceLT, Int.reduceLE, Int.reduceGT, Int.reduceGE, Int.reduceBEq, Int.reduceEq, Int.reduceToNat, Int.reduceAdd, Int.reduceSub, h1]
    try simp only [bindO_assoc]
    refine while_loop (S := Int) (fun (s1 : Int) => [.top, .sl false 1 (List.map cS names), .sl false 5 (List.map Node.cells withq), .ptr 0 0, .top, .top, .ptr 1 0, .int .i64 s1, .top, .top, .top, .top, .top, .top, .top, .top, .top, .top, .top, .top, .top, .top, .top, .top, .top, .top, .top, .top, .top, .top, .top, .top, .top, .top, .top, .top, .top, .top, .top, .top, .top, .top, .top, .top, .top, .top, .top, .top, .top, .top, .top, .top, .top, .top, .top, .top, .top, .top, .top, .top, .top, .top, .top, .top, .top, .top, .top]) (fun (s1 : Int) => [.var [.int .i64 n.op, .int .i64 n.sortf, .str n.name, .int .i64 n.num, .sl false 5 (List.map Node.cells n.kids)], .var [.int .i64 0, .int .i64 0, .str (⟨#[]⟩ : ByteArray), .int .i64 0, .sl true 5 []]]) ?_ N 0
    intro s1
    try simp -implicitDefEqProofs only [push_cast, hty, heq, h0, Proofs.Try.f23, g23_83, g23_23, reduceCtorEq, Nat.reduceEqDiff, Nat.reduceAdd, Nat.reduceLeDiff, Nat.reduceMul, Nat.reduceSub, Nat.reduceBEq, Nat.reduceLT, Int.reduceLT, Int.reduceLE, Int.reduceGT, Int.reduceGE, Int.reduceBEq, Int.reduceEq, Int.reduceToNat, Int.reduceAdd, Int.reduceSub, h1, F23_s1]
    try simp only [bindO_assoc]
    refine ite_ext (fun h2 => ?_) (fun h2 => ?_)
    · try simp -implicitDefEqProofs only [push_cast, hty, heq, h0, Proofs.Try.f23, g23_83, g23_23, reduceCtorEq, Nat.reduceEqDiff, Nat.reduceAdd, Nat.reduceLeDiff, Nat.reduceMul, Nat.reduceSub, Nat.reduceBEq, Nat.reduceLT, Int.reduceLT, Int.reduceLE, Int.reduceGT, Int.reduceGE, Int.reduceBEq, Int.reduceEq, Int.reduceToNat, Int.reduceAdd, Int.reduceSub, h1, F23_s1, h2]
      try simp only [bindO_assoc]
      refine ite_ext (fun h3 => ?_) (fun h3 => ?_)
      · try simp -implicitDefEqProofs only [push_cast, hty, heq, h0, Proofs.Try.f23, g23_83, g23_23, reduceCtorEq, Nat.reduceEqDiff, Nat.reduceAdd, Nat.reduceLeDiff, Nat.reduceMul, Nat.reduceSub, Nat.reduceBEq, Nat.reduceLT, Int.reduceLT, Int.reduceLE, Int.reduceGT, Int.reduceGE, Int.reduceBEq, Int.reduceEq, Int.reduceToNat, Int.reduceAdd, Int.reduceSub, h1, F23_s1, h2, h3]
        try simp only [bindO_assoc]
        refine at_sl (c := cS) fun x2 h4 h5 h6 h7 => ?_
        try simp only [Int.reduceToNat, Int.toNat_natCast] at h6 h7
        try simp -implicitDefEqProofs only [push_cast, hty, heq, h0, Proofs.Try.f23, g23_83, g23_23, reduceCtorEq, Nat.reduceEqDiff, Nat.reduceAdd, Nat.reduceLeDiff, Nat.reduceMul, Nat.reduceSub, Nat.reduceBEq, Nat.reduceLT, Int.reduceLT, Int.reduceLE, Int.reduceGT, Int.reduceGE, Int.reduceBEq, Int.reduceEq, Int.reduceToNat, Int.reduceAdd, Int.reduceSub, h1, F23_s1, h2, h3, h4, h6, h7]
        try simp only [bindO_assoc]
        refine ite_ext (fun h8 => ?_) (fun h8 => ?_)
        · try simp -implicitDefEqProofs only [push_cast, hty, heq, h0, Proofs.Try.f23, g23_83, g23_23, reduceCtorEq, Nat.reduceEqDiff, Nat.reduceAdd, Nat.reduceLeDiff, Nat.reduceMul, Nat.reduceSub, Nat.reduceBEq, Nat.reduceLT, Int.reduceLT, Int.reduceLE, Int.reduceGT, Int.reduceGE, Int.reduceBEq, Int.reduceEq, Int.reduceToNat, Int.reduceAdd, Int.reduceSub, h1, F23_s1, h2, h3, h4, h6, h7, h8]
          try simp only [bindO_assoc]
          refine at_sl (c := Node.cells) fun x3 h9 h10 h11 h12 => ?_
          try simp only [Int.reduceToNat, Int.toNat_natCast] at h11 h12
          try simp -implicitDefEqProofs only [push_cast, hty, heq, h0, Proofs.Try.f23, g23_83, g23_23, reduceCtorEq, Nat.reduceEqDiff, Nat.reduceAdd, Nat.reduceLeDiff, Nat.reduceMul, Nat.reduceSub, Nat.reduceBEq, Nat.reduceLT, Int.reduceLT, Int.reduceLE, Int.reduceGT, Int.reduceGE, Int.reduceBEq, Int.reduceEq, Int.reduceToNat, Int.reduceAdd, Int.reduceSub, h1, F23_s1, h2, h3, h4, h6, h7, h8, h9, h11, h12]
          try simp only [bindO_assoc]
          refine bindO_ext fun r4 => ?_
          simp -implicitDefEqProofs only [push_cast, hty, heq, h0, Proofs.Try.f23, g23_83, g23_23, reduceCtorEq, Nat.reduceEqDiff, Nat.reduceAdd, Nat.reduceLeDiff, Nat.reduceMul, Nat.reduceSub, Nat.reduceBEq, Nat.reduceLT, Int.reduceLT, Int.reduceLE, Int.reduceGT, Int.reduceGE, Int.reduceBEq, Int.reduceEq, Int.reduceToNat, Int.reduceAdd, Int.reduceSub, h1, F23_s1, h2, h3, h4, h6, h7, h8, h9, h11, h12]
        · simp -implicitDefEqProofs only [push_cast, hty, heq, h0, Proofs.Try.f23, g23_83, g23_23, reduceCtorEq, Nat.reduceEqDiff, Nat.reduceAdd, Nat.reduceLeDiff, Nat.reduceMul, Nat.reduceSub, Nat.reduceBEq, Nat.reduceLT, Int.reduceLT, Int.reduceLE, Int.reduceGT, Int.reduceGE, Int.reduceBEq, Int.reduceEq, Int.reduceToNat, Int.reduceAdd, Int.reduceSub, h1, F23_s1, h2, h3, h4, h6, h7, h8]
      · try simp -implicitDefEqProofs only [push_cast, hty, heq, h0, Proofs.Try.f23, g23_83, g23_23, reduceCtorEq, Nat.reduceEqDiff, Nat.reduceAdd, Nat.reduceLeDiff, Nat.reduceMul, Nat.reduceSub, Nat.reduceBEq, Nat.reduceLT, Int.reduceLT, Int.reduceLE, Int.reduceGT, Int.reduceGE, Int.reduceBEq, Int.reduceEq, Int.reduceToNat, Int.reduceAdd, Int.reduceSub, h1, F23_s1, h2, h3]
        try simp only [bindO_assoc]
        refine fold_loop (S := List Node) n.kids (fun (i8 : Nat) (s10 : List Node) => [.top, .sl false 1 (List.map cS names), .sl false 5 (List.map Node.cells withq), .top, .top, .top, .ptr 1 0, .top, .ptr 2 0, .top, .top, .top, .top, .top, .top, .top, .top, .top, .top, .top, .top, .top, .top, .top, .top, .top, .top, .top, .top, .top, .top, .top, .top, .top, .top, .top, .top, .top, .top, .top, .top, .top, .top, .top, .top, .top, .top, .top, .top, .sl false 5 (List.map Node.cells n.kids), .int .i64 (n.kids.length : Int), .int .i64 (i8 : Int), .top, .top, .top, .top, .top, .top, .top, .top, .top, .top, .top, .top, .top, .top, .top]) (fun (_ : Nat) (s10 : List Node) => [.var [.int .i64 n.op, .int .i64 n.sortf, .str n.name, .int .i64 n.num, .sl false 5 (List.map Node.cells n.kids)], .var [.int .i64 0, .int .i64 0, .str (⟨#[]⟩ : ByteArray), .int .i64 0, .sl true 5 []], .var [.int .i64 n.op, .int .i64 n.sortf, .str n.name, .int .i64 n.num, .rs 3 0], .row 5 0 (List.map Node.cells s10)]) ([]) ?_ ?_
        · intro s10 i8 x9 h13 h14 h15
          have h16 := rng_wrap h15 hB
          have h17 := lt_true h14
          have h18 := inB_lt h14
          have h19 := rng_get (c := Node.cells) h13
          have h20 := rng_getq (c := Node.cells) h13
          try simp -implicitDefEqProofs only [push_cast, hty, heq, h0, Proofs.Try.f23, g23_83, g23_23, reduceCtorEq, Nat.reduceEqDiff, Nat.reduceAdd, Nat.reduceLeDiff, Nat.reduceMul, Nat.reduceSub, Nat.reduceBEq, Nat.reduceLT, Int.reduceLT, Int.reduceLE, Int.reduceGT, Int.reduceGE, Int.reduceBEq, Int.reduceEq, Int.reduceToNat, Int.reduceAdd, Int.reduceSub, h1, F23_s1, h2, h3, h16, h17, h18, h19, h20, F23_s3]
          try simp only [bindO_assoc]
          refine bindO_ext fun r11 => ?_
          try simp -implicitDefEqProofs only [push_cast, hty, heq, h0, Proofs.Try.f23, g23_83, g23_23, reduceCtorEq, Nat.reduceEqDiff, Nat.reduceAdd, Nat.reduceLeDiff, Nat.reduceMul, Nat.reduceSub, Nat.reduceBEq, Nat.reduceLT, Int.reduceLT, Int.reduceLE, Int.reduceGT, Int.reduceGE, Int.reduceBEq, Int.reduceEq, Int.reduceToNat, Int.reduceAdd, Int.reduceSub, h1, F23_s1, h2, h3, h16, h17, h18, h19, h20, F23_s3]
          try simp only [bindO_assoc]
          refine ite_ext (fun h21 => ?_) (fun h21 => ?_)
          · simp -implicitDefEqProofs only [push_cast, hty, heq, h0, Proofs.Try.f23, g23_83, g23_23, reduceCtorEq, Nat.reduceEqDiff, Nat.reduceAdd, Nat.reduceLeDiff, Nat.reduceMul, Nat.reduceSub, Nat.reduceBEq, Nat.reduceLT, Int.reduceLT, Int.reduceLE, Int.reduceGT, Int.reduceGE, Int.reduceBEq, Int.reduceEq, Int.reduceToNat, Int.reduceAdd, Int.reduceSub, h1, F23_s1, h2, h3, h16, h17, h18, h19, h20, F23_s3, h21]
          · simp -implicitDefEqProofs only [push_cast, hty, heq, h0, Proofs.Try.f23, g23_83, g23_23, reduceCtorEq, Nat.reduceEqDiff, Nat.reduceAdd, Nat.reduceLeDiff, Nat.reduceMul, Nat.reduceSub, Nat.reduceBEq, Nat.reduceLT, Int.reduceLT, Int.reduceLE, Int.reduceGT, Int.reduceGE, Int.reduceBEq, Int.reduceEq, Int.reduceToNat, Int.reduceAdd, Int.reduceSub, h1, F23_s1, h2, h3, h16, h17, h18, h19, h20, F23_s3, h21]
        · intro s10
          have h22 := lt_self (n := n.kids.length)
          simp -implicitDefEqProofs only [push_cast, hty, heq, h0, Proofs.Try.f23, g23_83, g23_23, reduceCtorEq, Nat.reduceEqDiff, Nat.reduceAdd, Nat.reduceLeDiff, Nat.reduceMul, Nat.reduceSub, Nat.reduceBEq, Nat.reduceLT, Int.reduceLT, Int.reduceLE, Int.reduceGT, Int.reduceGE, Int.reduceBEq, Int.reduceEq, Int.reduceToNat, Int.reduceAdd, Int.reduceSub, h1, F23_s1, h2, h3, h22, F23_f3]
    · try simp -implicitDefEqProofs only [push_cast, hty, heq, h0, Proofs.Try.f23, g23_83, g23_23, reduceCtorEq, Nat.reduceEqDiff, Nat.reduceAdd, Nat.reduceLeDiff, Nat.reduceMul, Nat.reduceSub, Nat.reduceBEq, Nat.reduceLT, Int.reduceLT, Int.reduceLE, Int.reduceGT, Int.reduceGE, Int.reduceBEq, Int.reduceEq, Int.reduceToNat, Int.reduceAdd, Int.reduceSub, h1, F23_s1, h2]
      try simp only [bindO_assoc]
      refine fold_loop (S := List Node) n.kids (fun (i12 : Nat) (s14 : List Node) => [.top, .sl false 1 (List.map cS names), .sl false 5 (List.map Node.cells withq), .top, .top, .top, .ptr 1 0, .top, .ptr 2 0, .top, .top, .top, .top, .top, .top, .top, .top, .top, .top, .top, .top, .top, .top, .top, .top, .top, .top, .top, .top, .top, .top, .top, .top, .top, .top, .top, .top, .top, .top, .top, .top, .top, .top, .top, .top, .top, .top, .top, .top, .sl false 5 (List.map Node.cells n.kids), .int .i64 (n.kids.length : Int), .int .i64 (i12 : Int), .top, .top, .top, .top, .top, .top, .top, .top, .top, .top, .top, .top, .top, .top, .top]) (fun (_ : Nat) (s14 : List Node) => [.var [.int .i64 n.op, .int .i64 n.sortf, .str n.name, .int .i64 n.num, .sl false 5 (List.map Node.cells n.kids)], .var [.int .i64 0, .int .i64 0, .str (⟨#[]⟩ : ByteArray), .int .i64 0, .sl true 5 []], .var [.int .i64 n.op, .int .i64 n.sortf, .str n.name, .int .i64 n.num, .rs 3 0], .row 5 0 (List.map Node.cells s14)]) ([]) ?_ ?_
      · intro s14 i12 x13 h23 h24 h25
        have h26 := rng_wrap h25 hB
        have h27 := lt_true h24
        have h28 := inB_lt h24
        have h29 := rng_get (c := Node.cells) h23
        have h30 := rng_getq (c := Node.cells) h23
        try simp -implicitDefEqProofs only [push_cast, hty, heq, h0, Proofs.Try.f23, g23_83, g23_23, reduceCtorEq, Nat.reduceEqDiff, Nat.reduceAdd, Nat.reduceLeDiff, Nat.reduceMul, Nat.reduceSub, Nat.reduceBEq, Nat.reduceLT, Int.reduceLT, Int.reduceLE, Int.reduceGT, Int.reduceGE, Int.reduceBEq, Int.reduceEq, Int.reduceToNat, Int.reduceAdd, Int.reduceSub, h1, F23_s1, h2, h26, h27, h28, h29, h30, F23_s4]
        try simp only [bindO_assoc]
        refine bindO_ext fun r15 => ?_
        try simp -implicitDefEqProofs only [push_cast, hty, heq, h0, Proofs.Try.f23, g23_83, g23_23, reduceCtorEq, Nat.reduceEqDiff, Nat.reduceAdd, Nat.reduceLeDiff, Nat.reduceMul, Nat.reduceSub, Nat.reduceBEq, Nat.reduceLT, Int.reduceLT, Int.reduceLE, Int.reduceGT, Int.reduceGE, Int.reduceBEq, Int.reduceEq, Int.reduceToNat, Int.reduceAdd, Int.reduceSub, h1, F23_s1, h2, h26, h27, h28, h29, h30, F23_s4]
        try simp only [bindO_assoc]
        refine ite_ext (fun h31 => ?_) (fun h31 => ?_)
        · simp -implicitDefEqProofs only [push_cast, hty, heq, h0, Proofs.Try.f23, g23_83, g23_23, reduceCtorEq, Nat.reduceEqDiff, Nat.reduceAdd, Nat.reduceLeDiff, Nat.reduceMul, Nat.reduceSub, Nat.reduceBEq, Nat.reduceLT, Int.reduceLT, Int.reduceLE, Int.reduceGT, Int.reduceGE, Int.reduceBEq, Int.reduceEq, Int.reduceToNat, Int.reduceAdd, Int.reduceSub, h1, F23_s1, h2, h26, h27, h28, h29, h30, F23_s4, h31]
        · simp -implicitDefEqProofs only [push_cast, hty, heq, h0, Proofs.Try.f23, g23_83, g23_23, reduceCtorEq, Nat.reduceEqDiff, Nat.reduceAdd, Nat.reduceLeDiff, Nat.reduceMul, Nat.reduceSub, Nat.reduceBEq, Nat.reduceLT, Int.reduceLT, Int.reduceLE, Int.reduceGT, Int.reduceGE, Int.reduceBEq, Int.reduceEq, Int.reduceToNat, Int.reduceAdd, Int.reduceSub, h1, F23_s1, h2, h26, h27, h28, h29, h30, F23_s4, h31]
      · intro s14
        have h32 := lt_self (n := n.kids.length)
        simp -implicitDefEqProofs only [push_cast, hty, heq, h0, Proofs.Try.f23, g23_83, g23_23, reduceCtorEq, Nat.reduceEqDiff, Nat.reduceAdd, Nat.reduceLeDiff, Nat.reduceMul, Nat.reduceSub, Nat.reduceBEq, Nat.reduceLT, Int.reduceLT, Int.reduceLE, Int.reduceGT, Int.reduceGE, Int.reduceBEq, Int.reduceEq, Int.reduceToNat, Int.reduceAdd, Int.reduceSub, h1, F23_s1, h2, h32, F23_f4]
  · try simp -implicitDefEqProofs only [push_cast, hty, heq, h0, Proofs.Try.f23, g23_83, g23_23, reduceCtorEq, Nat.reduceEqDiff, Nat.reduceAdd, Nat.reduceLeDiff, Nat.reduceMul, Nat.reduceSub, Nat.reduceBEq, Nat.reduceLT, Int.reduceLT, Int.reduceLE, Int.reduceGT, Int.reduceGE, Int.reduceBEq, Int.reduceEq, Int.reduceToNat, Int.reduceAdd, Int.reduceSub, h1]
    try simp only [bindO_assoc]
    refine fold_loop (S := List Node) n.kids (fun (i16 : Nat) (s18 : List Node) => [.top, .sl false 1 (List.map cS names), .sl false 5 (List.map Node.cells withq), .top, .top, .top, .ptr 1 0, .top, .ptr 2 0, .top, .top, .top, .top, .top, .top, .top, .top, .top, .top, .top, .top, .top, .top, .top, .top, .top, .top, .top, .top, .top, .top, .top, .top, .top, .top, .top, .top, .top, .top, .top, .top, .top, .top, .top, .top, .top, .top, .top, .top, .sl false 5 (List.map Node.cells n.kids), .int .i64 (n.kids.length : Int), .int .i64 (i16 : Int), .top, .top, .top, .top, .top, .top, .top, .top, .top, .top, .top, .top, .top, .top, .top]) (fun (_ : Nat) (s18 : List Node) => [.var [.int .i64 n.op, .int .i64 n.sortf, .str n.name, .int .i64 n.num, .sl false 5 (List.map Node.cells n.kids)], .var [.int .i64 0, .int .i64 0, .str (⟨#[]⟩ : ByteArray), .int .i64 0, .sl true 5 []], .var [.int .i64 n.op, .int .i64 n.sortf, .str n.name, .int .i64 n.num, .rs 3 0], .row 5 0 (List.map Node.cells s18)]) ([]) ?_ ?_
    · intro s18 i16 x17 h33 h34 h35
      have h36 := rng_wrap h35 hB
      have h37 := lt_true h34
      have h38 := inB_lt h34
      have h39 := rng_get (c := Node.cells) h33
      have h40 := rng_getq (c := Node.cells) h33
      try simp -implicitDefEqProofs only [push_cast, hty, heq, h0, Proofs.Try.f23, g23_83, g23_23, reduceCtorEq, Nat.reduceEqDiff, Nat.reduceAdd, Nat.reduceLeDiff, Nat.reduceMul, Nat.reduceSub, Nat.reduceBEq, Nat.reduceLT, Int.reduceLT, Int.reduceLE, Int.reduceGT, Int.reduceGE, Int.reduceBEq, Int.reduceEq, Int.reduceToNat, Int.reduceAdd, Int.reduceSub, h1, h36, h37, h38, h39, h40, F23_s5]
      try simp only [bindO_assoc]
      refine bindO_ext fun r19 => ?_
      try simp -implicitDefEqProofs only [push_cast, hty, heq, h0, Proofs.Try.f23, g23_83, g23_23, reduceCtorEq, Nat.reduceEqDiff, Nat.reduceAdd, Nat.reduceLeDiff, Nat.reduceMul, Nat.reduceSub, Nat.reduceBEq, Nat.reduceLT, Int.reduceLT, Int.reduceLE, Int.reduceGT, Int.reduceGE, Int.reduceBEq, Int.reduceEq, Int.reduceToNat, Int.reduceAdd, Int.reduceSub, h1, h36, h37, h38, h39, h40, F23_s5]
      try simp only [bindO_assoc]
      refine ite_ext (fun h41 => ?_) (fun h41 => ?_)
      · simp -implicitDefEqProofs only [push_cast, hty, heq, h0, Proofs.Try.f23, g23_83, g23_23, reduceCtorEq, Nat.reduceEqDiff, Nat.reduceAdd, Nat.reduceLeDiff, Nat.reduceMul, Nat.reduceSub, Nat.reduceBEq, Nat.reduceLT, Int.reduceLT, Int.reduceLE, Int.reduceGT, Int.reduceGE, Int.reduceBEq, Int.reduceEq, Int.reduceToNat, Int.reduceAdd, Int.reduceSub, h1, h36, h37, h38, h39, h40, F23_s5, h41]
      · simp -implicitDefEqProofs only [push_cast, hty, heq, h0, Proofs.Try.f23, g23_83, g23_23, reduceCtorEq, Nat.reduceEqDiff, Nat.reduceAdd, Nat.reduceLeDiff, Nat.reduceMul, Nat.reduceSub, Nat.reduceBEq, Nat.reduceLT, Int.reduceLT, Int.reduceLE, Int.reduceGT, Int.reduceGE, Int.reduceBEq, Int.reduceEq, Int.reduceToNat, Int.reduceAdd, Int.reduceSub, h1, h36, h37, h38, h39, h40, F23_s5, h41]
    · intro s18
      have h42 := lt_self (n := n.kids.length)
      simp -implicitDefEqProofs only [push_cast, hty, heq, h0, Proofs.Try.f23, g23_83, g23_23, reduceCtorEq, Nat.reduceEqDiff, Nat.reduceAdd, Nat.reduceLeDiff, Nat.reduceMul, Nat.reduceSub, Nat.reduceBEq, Nat.reduceLT, Int.reduceLT, Int.reduceLE, Int.reduceGT, Int.reduceGE, Int.reduceBEq, Int.reduceEq, Int.reduceToNat, Int.reduceAdd, Int.reduceSub, h1, h42, F23_f5]
end Go.Abs.Try
