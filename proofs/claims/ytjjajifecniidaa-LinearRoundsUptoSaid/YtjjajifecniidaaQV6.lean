import Derived.Test.YtjjajifecniidaaQD
namespace Go.Abs.Try
open Go.RowKit
set_option linter.unusedSimpArgs false
set_option linter.unusedVariables false
set_option maxRecDepth 100000
set_option maxHeartbeats 4000000
attribute [local push_cast] ty2 ty3 ty9 ty22 ty24 ty34 ty41 ty43 ty52 ty92
theorem ev24 {E : Env} {N : Nat} (hB : N ≤ 4611686018427387904) (hty : E.ty = tys) (heq : E.eqt = eqts) (h0 : E.n0 = 0) (g24_22 : ∀ vs σ, E.tab 22 vs σ = plain (t22 N) vs σ) (n : Node) (name : ByteArray) (withq : Node) :
    bindO (aPure E Proofs.Try.f24 H24 N [.agg (Node.cells n), .str name, .agg (Node.cells withq)]) (cv sh24) = bindO (F24 N n name withq) fun r => some (v24 r) := by
  unfold F24
  rw [r_pure]
  unfold sh24
  try simp -implicitDefEqProofs only [push_cast, hty, heq, h0, Proofs.Try.f24, g24_22, seval]
  try simp only [bindO_assoc]
  refine bindO_ext fun r1 => ?_
  simp -implicitDefEqProofs only [push_cast, hty, heq, h0, Proofs.Try.f24, g24_22, seval]
theorem ev86 {E : Env} {N : Nat} (hB : N ≤ 4611686018427387904) (hty : E.ty = tys) (heq : E.eqt = eqts) (h0 : E.n0 = 0) (g86_125 : ∀ vs σ, E.tab 125 vs σ = cloneT 6 72 vs σ) (g86_24 : ∀ vs σ, E.tab 24 vs σ = plain (t24 N) vs σ) (f : Lin) :
    bindO (aPure E Proofs.Try.f86 H86 N [.agg (Lin.cells f)]) (cv sh86) = bindO (F86 N f) fun r => some (v86 r) := by
  unfold F86
  rw [r_pure]
  unfold sh86
  try simp -implicitDefEqProofs only [push_cast, hty, heq, h0, Proofs.Try.f86, g86_125, g86_24, seval]
  try simp only [bindO_assoc]
  refine ite_ext (fun h1 => ?_) (fun h1 => ?_)
  · try simp -implicitDefEqProofs only [push_cast, hty, heq, h0, Proofs.Try.f86, g86_125, g86_24, seval, h1]
    try simp only [bindO_assoc]
    refine fold_loop (S := List Mono) (List.range ((f.linMonos.length : Int)).toNat) (fun (i1 : Nat) (s3 : List Mono) => [.top, .ptr 0 0, .ptr 1 0, .top, .top, .top, .top, .top, .top, .top, .rs 2 0, .int .i64 ((f.linMonos.length : Int)), .int .i64 (i1 : Int), .top, .top, .top, .top, .top, .top, .top, .top, .top, .top, .top, .top, .top, .top, .top]) (fun (_ : Nat) (s3 : List Mono) => [.var [.rs 2 0, .int .i64 f.linConst], .var [.sl true 6 [], .int .i64 0], .row 6 0 (List.map Mono.cells s3)]) f.linMonos ?_ ?_
    · intro s3 i1 x2 h2 h3 h4
      have h5 := rng_wrap h4 hB
      rw [List.length_range] at h3
      have h6 := cnt_lt h3
      try simp -implicitDefEqProofs only [push_cast, hty, heq, h0, Proofs.Try.f86, g86_125, g86_24, seval, h1, h5, h6, F86_s1]
      try simp only [bindO_assoc]
      refine at_rs (c := Mono.cells) fun x4 h9 h10 h11 h12 => ?_
      try simp only [Int.reduceToNat, Int.toNat_natCast] at h11 h12
      try simp -implicitDefEqProofs only [push_cast, hty, heq, h0, Proofs.Try.f86, g86_125, g86_24, seval, h1, h5, h6, F86_s1, h9, h11, h12]
      try simp only [bindO_assoc]
      refine bindO_ext fun r5 => ?_
      simp -implicitDefEqProofs only [push_cast, hty, heq, h0, Proofs.Try.f86, g86_125, g86_24, seval, h1, h5, h6, F86_s1, h9, h11, h12]
    · intro s3
      have h13 := cnt_end (m := ((f.linMonos.length : Int)))
      try simp only [Int.toNat_natCast] at h13
      simp -implicitDefEqProofs only [push_cast, hty, heq, h0, Proofs.Try.f86, g86_125, g86_24, seval, h1, h13, F86_f1]
  · simp -implicitDefEqProofs only [push_cast, hty, heq, h0, Proofs.Try.f86, g86_125, g86_24, seval, h1]
theorem ev29 {E : Env} {N : Nat} (hB : N ≤ 4611686018427387904) (hty : E.ty = tys) (heq : E.eqt = eqts) (h0 : E.n0 = 0) (g29_14 : ∀ vs σ, E.tab 14 vs σ = plain (t14 N) vs σ) (g29_36 : ∀ vs σ, E.tab 36 vs σ = plain (t36 N) vs σ) (g29_85 : ∀ vs σ, E.tab 85 vs σ = plain (t85 N) vs σ) (g29_86 : ∀ vs σ, E.tab 86 vs σ = plain (t86 N) vs σ) (n : Node) :
    bindO (aPure E Proofs.Try.f29 H29 N [.agg (Node.cells n)]) (cv sh29) = bindO (F29 N n) fun r => some (v29 r) := by
  unfold F29
  rw [r_pure]
  unfold sh29
  try simp -implicitDefEqProofs only [push_cast, hty, heq, h0, Proofs.Try.f29, g29_14, g29_36, g29_85, g29_86, seval]
  try simp only [bindO_assoc]
  refine bindO_ext fun r1 => ?_
  try simp -implicitDefEqProofs only [push_cast, hty, heq, h0, Proofs.Try.f29, g29_14, g29_36, g29_85, g29_86, seval]
  try simp only [bindO_assoc]
  refine iten_ext (fun h1 => ?_) (fun h1 => ?_)
  · try simp -implicitDefEqProofs only [push_cast, hty, heq, h0, Proofs.Try.f29, g29_14, g29_36, g29_85, g29_86, seval, h1]
    try simp only [bindO_assoc]
    refine bindO_ext fun r2 => ?_
    try simp -implicitDefEqProofs only [push_cast, hty, heq, h0, Proofs.Try.f29, g29_14, g29_36, g29_85, g29_86, seval, h1]
    try simp only [bindO_assoc]
    refine iten_ext (fun h2 => ?_) (fun h2 => ?_)
    · try simp -implicitDefEqProofs only [push_cast, hty, heq, h0, Proofs.Try.f29, g29_14, g29_36, g29_85, g29_86, seval, h1, h2]
      try simp only [bindO_assoc]
      refine bindO_ext fun r5 => ?_
      try simp -implicitDefEqProofs only [push_cast, hty, heq, h0, Proofs.Try.f29, g29_14, g29_36, g29_85, g29_86, seval, h1, h2]
      try simp only [bindO_assoc]
      refine iten_ext (fun h3 => ?_) (fun h3 => ?_)
      · try simp -implicitDefEqProofs only [push_cast, hty, heq, h0, Proofs.Try.f29, g29_14, g29_36, g29_85, g29_86, seval, h1, h2, h3]
        try simp only [bindO_assoc]
        refine bindO_ext fun r6 => ?_
        simp -implicitDefEqProofs only [push_cast, hty, heq, h0, Proofs.Try.f29, g29_14, g29_36, g29_85, g29_86, seval, h1, h2, h3]
      · simp -implicitDefEqProofs only [push_cast, hty, heq, h0, Proofs.Try.f29, g29_14, g29_36, g29_85, g29_86, seval, h1, h2, h3]
    · try simp -implicitDefEqProofs only [push_cast, hty, heq, h0, Proofs.Try.f29, g29_14, g29_36, g29_85, g29_86, seval, h1, h2]
      try simp only [bindO_assoc]
      refine iten_ext (fun h4 => ?_) (fun h4 => ?_)
      · try simp -implicitDefEqProofs only [push_cast, hty, heq, h0, Proofs.Try.f29, g29_14, g29_36, g29_85, g29_86, seval, h1, h2, h4]
        try simp only [bindO_assoc]
        refine bindO_ext fun r3 => ?_
        try simp -implicitDefEqProofs only [push_cast, hty, heq, h0, Proofs.Try.f29, g29_14, g29_36, g29_85, g29_86, seval, h1, h2, h4]
        try simp only [bindO_assoc]
        refine iten_ext (fun h5 => ?_) (fun h5 => ?_)
        · try simp -implicitDefEqProofs only [push_cast, hty, heq, h0, Proofs.Try.f29, g29_14, g29_36, g29_85, g29_86, seval, h1, h2, h4, h5]
          try simp only [bindO_assoc]
          refine bindO_ext fun r4 => ?_
          simp -implicitDefEqProofs only [push_cast, hty, heq, h0, Proofs.Try.f29, g29_14, g29_36, g29_85, g29_86, seval, h1, h2, h4, h5]
        · simp -implicitDefEqProofs only [push_cast, hty, heq, h0, Proofs.Try.f29, g29_14, g29_36, g29_85, g29_86, seval, h1, h2, h4, h5]
      · simp -implicitDefEqProofs only [push_cast, hty, heq, h0, Proofs.Try.f29, g29_14, g29_36, g29_85, g29_86, seval, h1, h2, h4]
  · simp -implicitDefEqProofs only [push_cast, hty, heq, h0, Proofs.Try.f29, g29_14, g29_36, g29_85, g29_86, seval, h1]
theorem ev26 {E : Env} {N : Nat} (hB : N ≤ 4611686018427387904) (hty : E.ty = tys) (heq : E.eqt = eqts) (h0 : E.n0 = 0) (g26_84 : ∀ vs σ, E.tab 84 vs σ = plain (t84) vs σ) (g26_29 : ∀ vs σ, E.tab 29 vs σ = plain (t29 N) vs σ)  :
    bindO (aPure E Proofs.Try.f26 H26 N []) (cv sh26) = bindO (F26 N) fun r => some (v26 r) := by
  unfold F26
  rw [r_pure]
  unfold sh26
  try simp -implicitDefEqProofs only [push_cast, hty, heq, h0, Proofs.Try.f26, g26_84, g26_29, seval]
  try simp only [bindO_assoc]
  refine bindO_ext fun r1 => ?_
  try simp -implicitDefEqProofs only [push_cast, hty, heq, h0, Proofs.Try.f26, g26_84, g26_29, seval]
  try simp only [bindO_assoc]
  refine bindO_ext fun r2 => ?_
  try simp -implicitDefEqProofs only [push_cast, hty, heq, h0, Proofs.Try.f26, g26_84, g26_29, seval]
  try simp only [bindO_assoc]
  refine bindO_ext fun r3 => ?_
  try simp -implicitDefEqProofs only [push_cast, hty, heq, h0, Proofs.Try.f26, g26_84, g26_29, seval]
  try simp only [bindO_assoc]
  refine ite_ext (fun h1 => ?_) (fun h1 => ?_)
  · try simp -implicitDefEqProofs only [push_cast, hty, heq, h0, Proofs.Try.f26, g26_84, g26_29, seval, h1]
    try simp only [bindO_assoc]
    refine ite_ext (fun h2 => ?_) (fun h2 => ?_)
    · try simp -implicitDefEqProofs only [push_cast, hty, heq, h0, Proofs.Try.f26, g26_84, g26_29, seval, h1, h2]
      try simp only [bindO_assoc]
      refine at_sl (c := Mono.cells) fun x4 h3 h4 h5 h6 => ?_
      try simp only [Int.reduceToNat, Int.toNat_natCast] at h5 h6
      try simp -implicitDefEqProofs only [push_cast, hty, heq, h0, Proofs.Try.f26, g26_84, g26_29, seval, h1, h2, h3, h5, h6]
      try simp only [bindO_assoc]
      refine ite_ext (fun h7 => ?_) (fun h7 => ?_)
      · simp -implicitDefEqProofs only [push_cast, hty, heq, h0, Proofs.Try.f26, g26_84, g26_29, seval, h1, h2, h3, h5, h6, h7]
      · simp -implicitDefEqProofs only [push_cast, hty, heq, h0, Proofs.Try.f26, g26_84, g26_29, seval, h1, h2, h3, h5, h6, h7]
    · simp -implicitDefEqProofs only [push_cast, hty, heq, h0, Proofs.Try.f26, g26_84, g26_29, seval, h1, h2]
  · simp -implicitDefEqProofs only [push_cast, hty, heq, h0, Proofs.Try.f26, g26_84, g26_29, seval, h1]
theorem ev27 {E : Env} {N : Nat} (hB : N ≤ 4611686018427387904) (self27 : Node → Option (Int)) (hty : E.ty = tys) (heq : E.eqt = eqts) (h0 : E.n0 = 0) (g27_27 : ∀ vs σ, E.tab 27 vs σ = plain (ts27 self27) vs σ) (n : Node) :
    bindO (aPure E Proofs.Try.f27 H27 N [.agg (Node.cells n)]) (cv sh27) = bindO (F27b self27 N n) fun r => some (v27 r) := by
  unfold F27b
  rw [r_pure]
  unfold sh27
  try simp -implicitDefEqProofs only [push_cast, hty, heq, h0, Proofs.Try.f27, g27_27, seval]
  try simp only [bindO_assoc]
  refine fold_loop (S := Int) n.kids (fun (i1 : Nat) (s3 : Int) => [.top, .top, .top, .int .i64 s3, .top, .top, .top, .sl false 5 (List.map Node.cells n.kids), .int .i64 (n.kids.length : Int), .int .i64 (i1 : Int), .top, .top, .top, .top, .top, .top, .top, .top, .top]) (fun (_ : Nat) (s3 : Int) => [.var [.int .i64 n.op, .int .i64 n.sortf, .str n.name, .int .i64 n.num, .sl false 5 (List.map Node.cells n.kids)]]) 1 ?_ ?_
  · intro s3 i1 x2 h1 h2 h3
    have h4 := rng_wrap h3 hB
    have h5 := lt_true h2
    have h6 := inB_lt h2
    have h7 := rng_get (c := Node.cells) h1
    have h8 := rng_getq (c := Node.cells) h1
    try simp -implicitDefEqProofs only [push_cast, hty, heq, h0, Proofs.Try.f27, g27_27, seval, h4, h5, h6, h7, h8, F27_s1]
    try simp only [bindO_assoc]
    refine bindO_ext fun r4 => ?_
    simp -implicitDefEqProofs only [push_cast, hty, heq, h0, Proofs.Try.f27, g27_27, seval, h4, h5, h6, h7, h8, F27_s1]
  · intro s3
    have h9 := lt_self (n := n.kids.length)
    simp -implicitDefEqProofs only [push_cast, hty, heq, h0, Proofs.Try.f27, g27_27, seval, h9, F27_f1]
theorem ev32 {E : Env} {N : Nat} (hB : N ≤ 4611686018427387904) (hty : E.ty = tys) (heq : E.eqt = eqts) (h0 : E.n0 = 0) (g32_27 : ∀ vs σ, E.tab 27 vs σ = plain (t27 N) vs σ) (l : List Lin) :
    bindO (aPure E Proofs.Try.f32 H32 N [.sl false 2 (List.map Lin.cells l)]) (cv sh32) = bindO (F32 N l) fun r => some (v32 r) := by
  unfold F32
  rw [r_pure]
  unfold sh32
  try simp -implicitDefEqProofs only [push_cast, hty, heq, h0, Proofs.Try.f32, g32_27, seval]
  try simp only [bindO_assoc]
  refine fold_loop (S := Int) l (fun (i1 : Nat) (s3 : Int) => [.top, .top, .top, .int .i64 s3, .top, .top, .top, .top, .sl false 2 (List.map Lin.cells l), .int .i64 (l.length : Int), .int .i64 (i1 : Int), .top, .top, .top, .top, .top, .top, .top, .top, .top, .top, .top, .top, .top, .top, .top, .top, .top, .top, .top, .top, .top, .top, .top]) (fun (_ : Nat) (s3 : Int) => []) 0 ?_ ?_
  · intro s3 i1 x2 h1 h2 h3
    have h4 := rng_wrap h3 hB
    have h5 := lt_true h2
    have h6 := inB_lt h2
    have h7 := rng_get (c := Lin.cells) h1
    have h8 := rng_getq (c := Lin.cells) h1
    try simp -implicitDefEqProofs only [push_cast, hty, heq, h0, Proofs.Try.f32, g32_27, seval, h4, h5, h6, h7, h8, F32_s1]
    try simp only [bindO_assoc]
    refine fold_loop (S := Unit) x2.linMonos (fun (i4 : Nat) (s6 : Unit) => [.top, .top, .top, .int .i64 (IntKind.i64.wrap (s3 + (x2.linMonos.length : Int))), .top, .top, .top, .top, .sl false 2 (List.map Lin.cells l), .int .i64 (l.length : Int), .int .i64 (i1 : Int), .top, .top, .top, .top, .top, .top, .top, .top, .top, .sl false 6 (List.map Mono.cells x2.linMonos), .int .i64 (x2.linMonos.length : Int), .int .i64 (i4 : Int), .top, .top, .top, .top, .top, .top, .top, .top, .top, .top, .top]) (fun (_ : Nat) (s6 : Unit) => [.var [.sl false 6 (List.map Mono.cells x2.linMonos), .int .i64 x2.linConst]]) () ?_ ?_
    · intro s6 i4 x5 h9 h10 h11
      have h12 := rng_wrap h11 hB
      have h13 := lt_true h10
      have h14 := inB_lt h10
      have h15 := rng_get (c := Mono.cells) h9
      have h16 := rng_getq (c := Mono.cells) h9
      try simp -implicitDefEqProofs only [push_cast, hty, heq, h0, Proofs.Try.f32, g32_27, seval, h4, h5, h6, h7, h8, F32_s1, h12, h13, h14, h15, h16, F32_s2]
      try simp only [bindO_assoc]
      refine bindO_ext fun r7 => ?_
      try simp -implicitDefEqProofs only [push_cast, hty, heq, h0, Proofs.Try.f32, g32_27, seval, h4, h5, h6, h7, h8, F32_s1, h12, h13, h14, h15, h16, F32_s2]
      try simp only [bindO_assoc]
      refine ite_ext (fun h17 => ?_) (fun h17 => ?_)
      · simp -implicitDefEqProofs only [push_cast, hty, heq, h0, Proofs.Try.f32, g32_27, seval, h4, h5, h6, h7, h8, F32_s1, h12, h13, h14, h15, h16, F32_s2, h17]
      · simp -implicitDefEqProofs only [push_cast, hty, heq, h0, Proofs.Try.f32, g32_27, seval, h4, h5, h6, h7, h8, F32_s1, h12, h13, h14, h15, h16, F32_s2, h17]
    · intro s6
      have h18 := lt_self (n := x2.linMonos.length)
      simp -implicitDefEqProofs only [push_cast, hty, heq, h0, Proofs.Try.f32, g32_27, seval, h4, h5, h6, h7, h8, F32_s1, h18, F32_f2]
  · intro s3
    have h19 := lt_self (n := l.length)
    simp -implicitDefEqProofs only [push_cast, hty, heq, h0, Proofs.Try.f32, g32_27, seval, h19, F32_f1]
theorem ev62 {E : Env} {N : Nat} (hB : N ≤ 4611686018427387904) (hty : E.ty = tys) (heq : E.eqt = eqts) (h0 : E.n0 = 0) (g62_14 : ∀ vs σ, E.tab 14 vs σ = plain (t14 N) vs σ) (g62_36 : ∀ vs σ, E.tab 36 vs σ = plain (t36 N) vs σ) (n : Node) :
    bindO (aPure E Proofs.Try.f62 H62 N [.agg (Node.cells n)]) (cv sh62) = bindO (F62 N n) fun r => some (v62 r) := by
  unfold F62
  rw [r_pure]
  unfold sh62
  try simp -implicitDefEqProofs only [push_cast, hty, heq, h0, Proofs.Try.f62, g62_14, g62_36, seval]
  try simp only [bindO_assoc]
  refine ite_ext (fun h1 => ?_) (fun h1 => ?_)
  · simp -implicitDefEqProofs only [push_cast, hty, heq, h0, Proofs.Try.f62, g62_14, g62_36, seval, h1]
  · try simp -implicitDefEqProofs only [push_cast, hty, heq, h0, Proofs.Try.f62, g62_14, g62_36, seval, h1]
    try simp only [bindO_assoc]
    refine ite_ext (fun h2 => ?_) (fun h2 => ?_)
    · simp -implicitDefEqProofs only [push_cast, hty, heq, h0, Proofs.Try.f62, g62_14, g62_36, seval, h1, h2]
    · try simp -implicitDefEqProofs only [push_cast, hty, heq, h0, Proofs.Try.f62, g62_14, g62_36, seval, h1, h2]
      try simp only [bindO_assoc]
      refine ite_ext (fun h3 => ?_) (fun h3 => ?_)
      · simp -implicitDefEqProofs only [push_cast, hty, heq, h0, Proofs.Try.f62, g62_14, g62_36, seval, h1, h2, h3]
      · try simp -implicitDefEqProofs only [push_cast, hty, heq, h0, Proofs.Try.f62, g62_14, g62_36, seval, h1, h2, h3]
        try simp only [bindO_assoc]
        refine ite_ext (fun h4 => ?_) (fun h4 => ?_)
        · simp -implicitDefEqProofs only [push_cast, hty, heq, h0, Proofs.Try.f62, g62_14, g62_36, seval, h1, h2, h3, h4]
        · try simp -implicitDefEqProofs only [push_cast, hty, heq, h0, Proofs.Try.f62, g62_14, g62_36, seval, h1, h2, h3, h4]
          try simp only [bindO_assoc]
          refine ite_ext (fun h5 => ?_) (fun h5 => ?_)
          · simp -implicitDefEqProofs only [push_cast, hty, heq, h0, Proofs.Try.f62, g62_14, g62_36, seval, h1, h2, h3, h4, h5]
          · try simp -implicitDefEqProofs only [push_cast, hty, heq, h0, Proofs.Try.f62, g62_14, g62_36, seval, h1, h2, h3, h4, h5]
            try simp only [bindO_assoc]
            refine bindO_ext fun r1 => ?_
            try simp -implicitDefEqProofs only [push_cast, hty, heq, h0, Proofs.Try.f62, g62_14, g62_36, seval, h1, h2, h3, h4, h5]
            try simp only [bindO_assoc]
            refine ite_ext (fun h6 => ?_) (fun h6 => ?_)
            · try simp -implicitDefEqProofs only [push_cast, hty, heq, h0, Proofs.Try.f62, g62_14, g62_36, seval, h1, h2, h3, h4, h5, h6]
              try simp only [bindO_assoc]
              refine bindO_ext fun r2 => ?_
              try simp -implicitDefEqProofs only [push_cast, hty, heq, h0, Proofs.Try.f62, g62_14, g62_36, seval, h1, h2, h3, h4, h5, h6]
              try simp only [bindO_assoc]
              refine iten_ext (fun h7 => ?_) (fun h7 => ?_)
              · simp -implicitDefEqProofs only [push_cast, hty, heq, h0, Proofs.Try.f62, g62_14, g62_36, seval, h1, h2, h3, h4, h5, h6, h7]
              · try simp -implicitDefEqProofs only [push_cast, hty, heq, h0, Proofs.Try.f62, g62_14, g62_36, seval, h1, h2, h3, h4, h5, h6, h7]
                try simp only [bindO_assoc]
                refine bindO_ext fun r3 => ?_
                simp -implicitDefEqProofs only [push_cast, hty, heq, h0, Proofs.Try.f62, g62_14, g62_36, seval, h1, h2, h3, h4, h5, h6, h7]
            · simp -implicitDefEqProofs only [push_cast, hty, heq, h0, Proofs.Try.f62, g62_14, g62_36, seval, h1, h2, h3, h4, h5, h6]
theorem ev64 {E : Env} {N : Nat} (hB : N ≤ 4611686018427387904) (hty : E.ty = tys) (heq : E.eqt = eqts) (h0 : E.n0 = 0) (g64_112 : ∀ vs σ, E.tab 112 vs σ = plain (t112) vs σ) (g64_62 : ∀ vs σ, E.tab 62 vs σ = plain (t62 N) vs σ) (g64_18 : ∀ vs σ, E.tab 18 vs σ = plain (t18 N) vs σ) (f : Lin) :
    bindO (aPure E Proofs.Try.f64 H64 N [.agg (Lin.cells f)]) (cv sh64) = bindO (F64 N f) fun r => some (v64 r) := by
  unfold F64
  rw [r_pure]
  unfold sh64
  try simp -implicitDefEqProofs only [push_cast, hty, heq, h0, Proofs.Try.f64, g64_112, g64_62, g64_18, seval]
  try simp only [bindO_assoc]
  refine fold_loop (S := Unit) f.linMonos (fun (i1 : Nat) (s3 : Unit) => [.top, .ptr 0 0, .top, .top, .top, .top, .sl false 6 (List.map Mono.cells f.linMonos), .int .i64 (f.linMonos.length : Int), .int .i64 (i1 : Int), .top, .top, .top, .top, .top, .top, .top, .top, .top, .top, .top, .top, .top, .top, .top, .top, .top, .top, .top, .top, .top, .top, .top, .top, .top, .top, .top, .top, .top, .top, .top, .top, .top, .top, .top, .top, .top, .top, .top, .top]) (fun (_ : Nat) (s3 : Unit) => [.var [.sl false 6 (List.map Mono.cells f.linMonos), .int .i64 f.linConst]]) () ?_ ?_
  · intro s3 i1 x2 h1 h2 h3
    have h4 := rng_wrap h3 hB
    have h5 := lt_true h2
    have h6 := inB_lt h2
    have h7 := rng_get (c := Mono.cells) h1
    have h8 := rng_getq (c := Mono.cells) h1
    try simp -implicitDefEqProofs only [push_cast, hty, heq, h0, Proofs.Try.f64, g64_112, g64_62, g64_18, seval, h4, h5, h6, h7, h8, F64_s1]
    try simp only [bindO_assoc]
    refine iten_ext (fun h9 => ?_) (fun h9 => ?_)
    · simp -implicitDefEqProofs only [push_cast, hty, heq, h0, Proofs.Try.f64, g64_112, g64_62, g64_18, seval, h4, h5, h6, h7, h8, F64_s1, h9]
    · try simp -implicitDefEqProofs only [push_cast, hty, heq, h0, Proofs.Try.f64, g64_112, g64_62, g64_18, seval, h4, h5, h6, h7, h8, F64_s1, h9]
      try simp only [bindO_assoc]
      refine bindO_ext fun r4 => ?_
      try simp -implicitDefEqProofs only [push_cast, hty, heq, h0, Proofs.Try.f64, g64_112, g64_62, g64_18, seval, h4, h5, h6, h7, h8, F64_s1, h9]
      try simp only [bindO_assoc]
      refine ite_ext (fun h10 => ?_) (fun h10 => ?_)
      · try simp -implicitDefEqProofs only [push_cast, hty, heq, h0, Proofs.Try.f64, g64_112, g64_62, g64_18, seval, h4, h5, h6, h7, h8, F64_s1, h9, h10]
        try simp only [bindO_assoc]
        refine bindO_ext fun r5 => ?_
        try simp -implicitDefEqProofs only [push_cast, hty, heq, h0, Proofs.Try.f64, g64_112, g64_62, g64_18, seval, h4, h5, h6, h7, h8, F64_s1, h9, h10]
        try simp only [bindO_assoc]
        refine ite_ext (fun h11 => ?_) (fun h11 => ?_)
        · try simp -implicitDefEqProofs only [push_cast, hty, heq, h0, Proofs.Try.f64, g64_112, g64_62, g64_18, seval, h4, h5, h6, h7, h8, F64_s1, h9, h10, h11]
          try simp only [bindO_assoc]
          refine ite_ext (fun h12 => ?_) (fun h12 => ?_)
          · try simp -implicitDefEqProofs only [push_cast, hty, heq, h0, Proofs.Try.f64, g64_112, g64_62, g64_18, seval, h4, h5, h6, h7, h8, F64_s1, h9, h10, h11, h12]
            try simp only [bindO_assoc]
            refine at_sl (c := Mono.cells) fun x6 h13 h14 h15 h16 => ?_
            try simp only [Int.reduceToNat, Int.toNat_natCast] at h15 h16
            try simp -implicitDefEqProofs only [push_cast, hty, heq, h0, Proofs.Try.f64, g64_112, g64_62, g64_18, seval, h4, h5, h6, h7, h8, F64_s1, h9, h10, h11, h12, h13, h15, h16]
            try simp only [bindO_assoc]
            refine bindO_ext fun r7 => ?_
            try simp -implicitDefEqProofs only [push_cast, hty, heq, h0, Proofs.Try.f64, g64_112, g64_62, g64_18, seval, h4, h5, h6, h7, h8, F64_s1, h9, h10, h11, h12, h13, h15, h16]
            try simp only [bindO_assoc]
            refine ite_ext (fun h17 => ?_) (fun h17 => ?_)
            · simp -implicitDefEqProofs only [push_cast, hty, heq, h0, Proofs.Try.f64, g64_112, g64_62, g64_18, seval, h4, h5, h6, h7, h8, F64_s1, h9, h10, h11, h12, h13, h15, h16, h17]
            · simp -implicitDefEqProofs only [push_cast, hty, heq, h0, Proofs.Try.f64, g64_112, g64_62, g64_18, seval, h4, h5, h6, h7, h8, F64_s1, h9, h10, h11, h12, h13, h15, h16, h17]
          · simp -implicitDefEqProofs only [push_cast, hty, heq, h0, Proofs.Try.f64, g64_112, g64_62, g64_18, seval, h4, h5, h6, h7, h8, F64_s1, h9, h10, h11, h12]
        · simp -implicitDefEqProofs only [push_cast, hty, heq, h0, Proofs.Try.f64, g64_112, g64_62, g64_18, seval, h4, h5, h6, h7, h8, F64_s1, h9, h10, h11]
      · simp -implicitDefEqProofs only [push_cast, hty, heq, h0, Proofs.Try.f64, g64_112, g64_62, g64_18, seval, h4, h5, h6, h7, h8, F64_s1, h9, h10]
  · intro s3
    have h18 := lt_self (n := f.linMonos.length)
    try simp -implicitDefEqProofs only [push_cast, hty, heq, h0, Proofs.Try.f64, g64_112, g64_62, g64_18, seval, h18, F64_f1]
    try simp only [bindO_assoc]
    refine bindO_ext fun r8 => ?_
    simp -implicitDefEqProofs only [push_cast, hty, heq, h0, Proofs.Try.f64, g64_112, g64_62, g64_18, seval, h18, F64_f1]
end Go.Abs.Try
