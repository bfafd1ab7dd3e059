import Derived.Test.YtjjajifecniidaaQD
namespace Go.Abs.Try
open Go.RowKit
set_option linter.unusedSimpArgs false
set_option linter.unusedVariables false
set_option maxRecDepth 100000
set_option maxHeartbeats 4000000
attribute [local push_cast] ty2 ty3 ty22 ty24 ty41 ty43 ty52 ty71
theorem ev107 {E : Env} {N : Nat} (hB : N ≤ 4611686018427387904) (hty : E.ty = tys) (heq : E.eqt = eqts) (h0 : E.n0 = 0) (g107_64 : ∀ vs σ, E.tab 64 vs σ = plain (t64 N) vs σ) (c : Con) :
    bindO (aPure E Proofs.Try.f107 H107 N [.agg (Con.cells c)]) (cv sh107) = bindO (F107 N c) fun r => some (v107 r) := by
  unfold F107
  rw [r_pure]
  unfold sh107
  try simp -implicitDefEqProofs only [push_cast, hty, heq, h0, Proofs.Try.f107, g107_64, seval]
  try simp only [bindO_assoc]
  refine iten_ext (fun h1 => ?_) (fun h1 => ?_)
  · try simp -implicitDefEqProofs only [push_cast, hty, heq, h0, Proofs.Try.f107, g107_64, seval, h1]
    try simp only [bindO_assoc]
    refine bindO_ext fun r2 => ?_
    simp -implicitDefEqProofs only [push_cast, hty, heq, h0, Proofs.Try.f107, g107_64, seval, h1]
  · try simp -implicitDefEqProofs only [push_cast, hty, heq, h0, Proofs.Try.f107, g107_64, seval, h1]
    try simp only [bindO_assoc]
    refine ite_ext (fun h2 => ?_) (fun h2 => ?_)
    · try simp -implicitDefEqProofs only [push_cast, hty, heq, h0, Proofs.Try.f107, g107_64, seval, h1, h2]
      try simp only [bindO_assoc]
      refine bindO_ext fun r1 => ?_
      simp -implicitDefEqProofs only [push_cast, hty, heq, h0, Proofs.Try.f107, g107_64, seval, h1, h2]
    · simp -implicitDefEqProofs only [push_cast, hty, heq, h0, Proofs.Try.f107, g107_64, seval, h1, h2]
theorem ev148 {E : Env} {N : Nat} (hB : N ≤ 4611686018427387904) (hty : E.ty = tys) (heq : E.eqt = eqts) (h0 : E.n0 = 0)  (f : Lin) :
    bindO (aPure E Proofs.Try.f148 H148 N [.agg (Lin.cells f)]) (cv sh148) = bindO (F148 N f) fun r => some (v148 r) := by
  unfold F148
  rw [r_pure]
  unfold sh148
  try simp -implicitDefEqProofs only [push_cast, hty, heq, h0, Proofs.Try.f148, seval]
  try simp only [bindO_assoc]
  refine fold_loop (S := Int) f.linMonos (fun (i1 : Nat) (s3 : Int) => [.top, .top, .top, .int .i64 s3, .top, .top, .top, .top, .sl false 6 (List.map Mono.cells f.linMonos), .int .i64 (f.linMonos.length : Int), .int .i64 (i1 : Int), .top, .top, .top, .top, .top, .top, .top, .top, .top, .top, .top, .top, .top, .top, .top, .top, .top]) (fun (_ : Nat) (s3 : Int) => [.var [.sl false 6 (List.map Mono.cells f.linMonos), .int .i64 f.linConst]]) 0 ?_ ?_
  · intro s3 i1 x2 h1 h2 h3
    have h4 := rng_wrap h3 hB
    have h5 := lt_true h2
    have h6 := inB_lt h2
    have h7 := rng_get (c := Mono.cells) h1
    have h8 := rng_getq (c := Mono.cells) h1
    try simp -implicitDefEqProofs only [push_cast, hty, heq, h0, Proofs.Try.f148, seval, h4, h5, h6, h7, h8, F148_s1]
    try simp only [bindO_assoc]
    refine ite_ext (fun h9 => ?_) (fun h9 => ?_)
    · try simp -implicitDefEqProofs only [push_cast, hty, heq, h0, Proofs.Try.f148, seval, h4, h5, h6, h7, h8, F148_s1, h9]
      try simp only [bindO_assoc]
      refine while_loop (S := Int × Int) (fun (s4 : Int × Int) => [.top, .top, .top, .int .i64 s4.1, .top, .top, .int .i64 s4.2, .top, .sl false 6 (List.map Mono.cells f.linMonos), .int .i64 (f.linMonos.length : Int), .int .i64 (i1 : Int), .top, .top, .top, .top, .top, .top, .top, .top, .top, .top, .top, .top, .top, .top, .top, .top, .top]) (fun (s4 : Int × Int) => [.var [.sl false 6 (List.map Mono.cells f.linMonos), .int .i64 f.linConst], .var [.int .i64 x2.monoCoef, .int .i64 x2.monoAtom.op, .int .i64 x2.monoAtom.sortf, .str x2.monoAtom.name, .int .i64 x2.monoAtom.num, .sl false 5 (List.map Node.cells x2.monoAtom.kids)]]) ?_ N (s3, IntKind.i64.wrap (0 - x2.monoCoef))
      intro s4
      try simp -implicitDefEqProofs only [push_cast, hty, heq, h0, Proofs.Try.f148, seval, h4, h5, h6, h7, h8, F148_s1, h9, F148_s2]
      try simp only [bindO_assoc]
      refine iten_ext (fun h10 => ?_) (fun h10 => ?_)
      · simp -implicitDefEqProofs only [push_cast, hty, heq, h0, Proofs.Try.f148, seval, h4, h5, h6, h7, h8, F148_s1, h9, F148_s2, h10]
      · try simp -implicitDefEqProofs only [push_cast, hty, heq, h0, Proofs.Try.f148, seval, h4, h5, h6, h7, h8, F148_s1, h9, F148_s2, h10]
        try simp only [bindO_assoc]
        refine ite_ext (fun h11 => ?_) (fun h11 => ?_)
        · simp -implicitDefEqProofs only [push_cast, hty, heq, h0, Proofs.Try.f148, seval, h4, h5, h6, h7, h8, F148_s1, h9, F148_s2, h10, h11]
        · simp -implicitDefEqProofs only [push_cast, hty, heq, h0, Proofs.Try.f148, seval, h4, h5, h6, h7, h8, F148_s1, h9, F148_s2, h10, h11]
    · try simp -implicitDefEqProofs only [push_cast, hty, heq, h0, Proofs.Try.f148, seval, h4, h5, h6, h7, h8, F148_s1, h9]
      try simp only [bindO_assoc]
      refine while_loop (S := Int × Int) (fun (s5 : Int × Int) => [.top, .top, .top, .int .i64 s5.1, .top, .top, .int .i64 s5.2, .top, .sl false 6 (List.map Mono.cells f.linMonos), .int .i64 (f.linMonos.length : Int), .int .i64 (i1 : Int), .top, .top, .top, .top, .top, .top, .top, .top, .top, .top, .top, .top, .top, .top, .top, .top, .top]) (fun (s5 : Int × Int) => [.var [.sl false 6 (List.map Mono.cells f.linMonos), .int .i64 f.linConst], .var [.int .i64 x2.monoCoef, .int .i64 x2.monoAtom.op, .int .i64 x2.monoAtom.sortf, .str x2.monoAtom.name, .int .i64 x2.monoAtom.num, .sl false 5 (List.map Node.cells x2.monoAtom.kids)]]) ?_ N (s3, x2.monoCoef)
      intro s5
      try simp -implicitDefEqProofs only [push_cast, hty, heq, h0, Proofs.Try.f148, seval, h4, h5, h6, h7, h8, F148_s1, h9, F148_s3]
      try simp only [bindO_assoc]
      refine iten_ext (fun h12 => ?_) (fun h12 => ?_)
      · simp -implicitDefEqProofs only [push_cast, hty, heq, h0, Proofs.Try.f148, seval, h4, h5, h6, h7, h8, F148_s1, h9, F148_s3, h12]
      · try simp -implicitDefEqProofs only [push_cast, hty, heq, h0, Proofs.Try.f148, seval, h4, h5, h6, h7, h8, F148_s1, h9, F148_s3, h12]
        try simp only [bindO_assoc]
        refine ite_ext (fun h13 => ?_) (fun h13 => ?_)
        · simp -implicitDefEqProofs only [push_cast, hty, heq, h0, Proofs.Try.f148, seval, h4, h5, h6, h7, h8, F148_s1, h9, F148_s3, h12, h13]
        · simp -implicitDefEqProofs only [push_cast, hty, heq, h0, Proofs.Try.f148, seval, h4, h5, h6, h7, h8, F148_s1, h9, F148_s3, h12, h13]
  · intro s3
    have h14 := lt_self (n := f.linMonos.length)
    simp -implicitDefEqProofs only [push_cast, hty, heq, h0, Proofs.Try.f148, seval, h14, F148_f1]
theorem ev149 {E : Env} {N : Nat} (hB : N ≤ 4611686018427387904) (hty : E.ty = tys) (heq : E.eqt = eqts) (h0 : E.n0 = 0)  (a : Int) (b : Int) :
    bindO (aPure E Proofs.Try.f149 H149 N [.int .i64 a, .int .i64 b]) (cv sh149) = bindO (F149 a b) fun r => some (v149 r) := by
  unfold F149
  rw [r_pure]
  unfold sh149
  try simp -implicitDefEqProofs only [push_cast, hty, heq, h0, Proofs.Try.f149, seval]
  try simp only [bindO_assoc]
  refine ite_ext (fun h1 => ?_) (fun h1 => ?_)
  · simp -implicitDefEqProofs only [push_cast, hty, heq, h0, Proofs.Try.f149, seval, h1]
  · try simp -implicitDefEqProofs only [push_cast, hty, heq, h0, Proofs.Try.f149, seval, h1]
    try simp only [bindO_assoc]
    refine ite_ext (fun h2 => ?_) (fun h2 => ?_)
    · simp -implicitDefEqProofs only [push_cast, hty, heq, h0, Proofs.Try.f149, seval, h1, h2]
    · simp -implicitDefEqProofs only [push_cast, hty, heq, h0, Proofs.Try.f149, seval, h1, h2]
theorem ev108 {E : Env} {N : Nat} (hB : N ≤ 4611686018427387904) (hty : E.ty = tys) (heq : E.eqt = eqts) (h0 : E.n0 = 0) (g108_148 : ∀ vs σ, E.tab 148 vs σ = plain (t148 N) vs σ) (g108_149 : ∀ vs σ, E.tab 149 vs σ = plain (t149) vs σ) (c : Con) :
    bindO (aPure E Proofs.Try.f108 H108 N [.agg (Con.cells c)]) (cv sh108) = bindO (F108 N c) fun r => some (v108 r) := by
  unfold F108
  rw [r_pure]
  unfold sh108
  try simp -implicitDefEqProofs only [push_cast, hty, heq, h0, Proofs.Try.f108, g108_148, g108_149, seval]
  try simp only [bindO_assoc]
  refine bindO_ext fun r1 => ?_
  try simp -implicitDefEqProofs only [push_cast, hty, heq, h0, Proofs.Try.f108, g108_148, g108_149, seval]
  try simp only [bindO_assoc]
  refine ite_ext (fun h1 => ?_) (fun h1 => ?_)
  · simp -implicitDefEqProofs only [push_cast, hty, heq, h0, Proofs.Try.f108, g108_148, g108_149, seval, h1]
  · try simp -implicitDefEqProofs only [push_cast, hty, heq, h0, Proofs.Try.f108, g108_148, g108_149, seval, h1]
    try simp only [bindO_assoc]
    refine ite_ext (fun h2 => ?_) (fun h2 => ?_)
    · try simp -implicitDefEqProofs only [push_cast, hty, heq, h0, Proofs.Try.f108, g108_148, g108_149, seval, h1, h2]
      try simp only [bindO_assoc]
      refine ite_ext (fun h3 => ?_) (fun h3 => ?_)
      · simp -implicitDefEqProofs only [push_cast, hty, heq, h0, Proofs.Try.f108, g108_148, g108_149, seval, h1, h2, h3]
      · try simp -implicitDefEqProofs only [push_cast, hty, heq, h0, Proofs.Try.f108, g108_148, g108_149, seval, h1, h2, h3]
        try simp only [bindO_assoc]
        refine iten_ext (fun h4 => ?_) (fun h4 => ?_)
        · try simp -implicitDefEqProofs only [push_cast, hty, heq, h0, Proofs.Try.f108, g108_148, g108_149, seval, h1, h2, h3, h4]
          try simp only [bindO_assoc]
          refine at_sl (c := Mono.cells) fun x2 h5 h6 h7 h8 => ?_
          try simp only [Int.reduceToNat, Int.toNat_natCast] at h7 h8
          try simp -implicitDefEqProofs only [push_cast, hty, heq, h0, Proofs.Try.f108, g108_148, g108_149, seval, h1, h2, h3, h4, h5, h7, h8]
          try simp only [bindO_assoc]
          refine ite_ext (fun h9 => ?_) (fun h9 => ?_)
          · try simp -implicitDefEqProofs only [push_cast, hty, heq, h0, Proofs.Try.f108, g108_148, g108_149, seval, h1, h2, h3, h4, h5, h7, h8, h9]
            try simp only [bindO_assoc]
            refine fold_loop (S := List Mono) c.conForm.linMonos (fun (i6 : Nat) (s8 : List Mono) => [.top, .ptr 0 0, .ptr 1 0, .int .i64 (IntKind.i64.wrap (0 - r1)), .ptr 2 0, .top, .top, .top, .top, .top, .top, .top, .top, .top, .top, .top, .top, .top, .top, .top, .top, .top, .top, .top, .top, .top, .top, .top, .top, .top, .top, .top, .top, .top, .top, .top, .top, .top, .top, .top, .top, .top, .top, .top, .top, .sl false 6 (List.map Mono.cells c.conForm.linMonos), .int .i64 (c.conForm.linMonos.length : Int), .int .i64 (i6 : Int), .top, .top, .top, .top, .top, .top, .top, .top, .top, .top, .top, .top, .top, .top, .top, .top, .top, .top, .top, .top, .top, .top, .top, .top, .top, .top, .top, .top, .top, .top, .top, .top, .top, .top, .top, .top, .top, .top]) (fun (_ : Nat) (s8 : List Mono) => [.var [.sl false 6 (List.map Mono.cells c.conForm.linMonos), .int .i64 c.conForm.linConst, .int .i64 c.conRel], .var [.sl true 6 [], .int .i64 0, .int .i64 0], .var [.rs 3 0, .int .i64 0, .int .i64 c.conRel], .row 6 0 (List.map Mono.cells s8)]) ([]) ?_ ?_
            · intro s8 i6 x7 h10 h11 h12
              have h13 := rng_wrap h12 hB
              have h14 := lt_true h11
              have h15 := inB_lt h11
              have h16 := rng_get (c := Mono.cells) h10
              have h17 := rng_getq (c := Mono.cells) h10
              try simp -implicitDefEqProofs only [push_cast, hty, heq, h0, Proofs.Try.f108, g108_148, g108_149, seval, h1, h2, h3, h4, h5, h7, h8, h9, h13, h14, h15, h16, h17, F108_s2]
              try simp only [bindO_assoc]
              refine ite_ext (fun h18 => ?_) (fun h18 => ?_)
              · simp -implicitDefEqProofs only [push_cast, hty, heq, h0, Proofs.Try.f108, g108_148, g108_149, seval, h1, h2, h3, h4, h5, h7, h8, h9, h13, h14, h15, h16, h17, F108_s2, h18]
              · try simp -implicitDefEqProofs only [push_cast, hty, heq, h0, Proofs.Try.f108, g108_148, g108_149, seval, h1, h2, h3, h4, h5, h7, h8, h9, h13, h14, h15, h16, h17, F108_s2, h18]
                try simp only [bindO_assoc]
                refine ite_ext (fun h19 => ?_) (fun h19 => ?_)
                · simp -implicitDefEqProofs only [push_cast, hty, heq, h0, Proofs.Try.f108, g108_148, g108_149, seval, h1, h2, h3, h4, h5, h7, h8, h9, h13, h14, h15, h16, h17, F108_s2, h18, h19]
                · simp -implicitDefEqProofs only [push_cast, hty, heq, h0, Proofs.Try.f108, g108_148, g108_149, seval, h1, h2, h3, h4, h5, h7, h8, h9, h13, h14, h15, h16, h17, F108_s2, h18, h19]
            · intro s8
              have h20 := lt_self (n := c.conForm.linMonos.length)
              try simp -implicitDefEqProofs only [push_cast, hty, heq, h0, Proofs.Try.f108, g108_148, g108_149, seval, h1, h2, h3, h4, h5, h7, h8, h9, h20, F108_f2]
              try simp only [bindO_assoc]
              refine ite_ext (fun h21 => ?_) (fun h21 => ?_)
              · simp -implicitDefEqProofs only [push_cast, hty, heq, h0, Proofs.Try.f108, g108_148, g108_149, seval, h1, h2, h3, h4, h5, h7, h8, h9, h20, F108_f2, h21]
              · simp -implicitDefEqProofs only [push_cast, hty, heq, h0, Proofs.Try.f108, g108_148, g108_149, seval, h1, h2, h3, h4, h5, h7, h8, h9, h20, F108_f2, h21]
          · try simp -implicitDefEqProofs only [push_cast, hty, heq, h0, Proofs.Try.f108, g108_148, g108_149, seval, h1, h2, h3, h4, h5, h7, h8, h9]
            try simp only [bindO_assoc]
            refine fold_loop (S := List Mono) c.conForm.linMonos (fun (i9 : Nat) (s11 : List Mono) => [.top, .ptr 0 0, .ptr 1 0, .int .i64 r1, .ptr 2 0, .top, .top, .top, .top, .top, .top, .top, .top, .top, .top, .top, .top, .top, .top, .top, .top, .top, .top, .top, .top, .top, .top, .top, .top, .top, .top, .top, .top, .top, .top, .top, .top, .top, .top, .top, .top, .top, .top, .top, .top, .sl false 6 (List.map Mono.cells c.conForm.linMonos), .int .i64 (c.conForm.linMonos.length : Int), .int .i64 (i9 : Int), .top, .top, .top, .top, .top, .top, .top, .top, .top, .top, .top, .top, .top, .top, .top, .top, .top, .top, .top, .top, .top, .top, .top, .top, .top, .top, .top, .top, .top, .top, .top, .top, .top, .top, .top, .top, .top, .top]) (fun (_ : Nat) (s11 : List Mono) => [.var [.sl false 6 (List.map Mono.cells c.conForm.linMonos), .int .i64 c.conForm.linConst, .int .i64 c.conRel], .var [.sl true 6 [], .int .i64 0, .int .i64 0], .var [.rs 3 0, .int .i64 0, .int .i64 c.conRel], .row 6 0 (List.map Mono.cells s11)]) ([]) ?_ ?_
            · intro s11 i9 x10 h22 h23 h24
              have h25 := rng_wrap h24 hB
              have h26 := lt_true h23
              have h27 := inB_lt h23
              have h28 := rng_get (c := Mono.cells) h22
              have h29 := rng_getq (c := Mono.cells) h22
              try simp -implicitDefEqProofs only [push_cast, hty, heq, h0, Proofs.Try.f108, g108_148, g108_149, seval, h1, h2, h3, h4, h5, h7, h8, h9, h25, h26, h27, h28, h29, F108_s3]
              try simp only [bindO_assoc]
              refine ite_ext (fun h30 => ?_) (fun h30 => ?_)
              · simp -implicitDefEqProofs only [push_cast, hty, heq, h0, Proofs.Try.f108, g108_148, g108_149, seval, h1, h2, h3, h4, h5, h7, h8, h9, h25, h26, h27, h28, h29, F108_s3, h30]
              · simp -implicitDefEqProofs only [push_cast, hty, heq, h0, Proofs.Try.f108, g108_148, g108_149, seval, h1, h2, h3, h4, h5, h7, h8, h9, h25, h26, h27, h28, h29, F108_s3, h30]
            · intro s11
              have h31 := lt_self (n := c.conForm.linMonos.length)
              simp -implicitDefEqProofs only [push_cast, hty, heq, h0, Proofs.Try.f108, g108_148, g108_149, seval, h1, h2, h3, h4, h5, h7, h8, h9, h31, F108_f3]
        · simp -implicitDefEqProofs only [push_cast, hty, heq, h0, Proofs.Try.f108, g108_148, g108_149, seval, h1, h2, h3, h4]
    · try simp -implicitDefEqProofs only [push_cast, hty, heq, h0, Proofs.Try.f108, g108_148, g108_149, seval, h1, h2]
      try simp only [bindO_assoc]
      refine fold_loop (S := List Mono) c.conForm.linMonos (fun (i12 : Nat) (s14 : List Mono) => [.top, .ptr 0 0, .ptr 1 0, .int .i64 r1, .ptr 2 0, .top, .top, .top, .top, .top, .top, .top, .top, .top, .top, .top, .top, .top, .top, .top, .top, .top, .top, .top, .top, .top, .top, .top, .top, .top, .top, .top, .top, .top, .top, .top, .top, .top, .top, .top, .top, .top, .top, .top, .top, .sl false 6 (List.map Mono.cells c.conForm.linMonos), .int .i64 (c.conForm.linMonos.length : Int), .int .i64 (i12 : Int), .top, .top, .top, .top, .top, .top, .top, .top, .top, .top, .top, .top, .top, .top, .top, .top, .top, .top, .top, .top, .top, .top, .top, .top, .top, .top, .top, .top, .top, .top, .top, .top, .top, .top, .top, .top, .top, .top]) (fun (_ : Nat) (s14 : List Mono) => [.var [.sl false 6 (List.map Mono.cells c.conForm.linMonos), .int .i64 c.conForm.linConst, .int .i64 c.conRel], .var [.sl true 6 [], .int .i64 0, .int .i64 0], .var [.rs 3 0, .int .i64 0, .int .i64 c.conRel], .row 6 0 (List.map Mono.cells s14)]) ([]) ?_ ?_
      · intro s14 i12 x13 h32 h33 h34
        have h35 := rng_wrap h34 hB
        have h36 := lt_true h33
        have h37 := inB_lt h33
        have h38 := rng_get (c := Mono.cells) h32
        have h39 := rng_getq (c := Mono.cells) h32
        try simp -implicitDefEqProofs only [push_cast, hty, heq, h0, Proofs.Try.f108, g108_148, g108_149, seval, h1, h2, h35, h36, h37, h38, h39, F108_s4]
        try simp only [bindO_assoc]
        refine ite_ext (fun h40 => ?_) (fun h40 => ?_)
        · simp -implicitDefEqProofs only [push_cast, hty, heq, h0, Proofs.Try.f108, g108_148, g108_149, seval, h1, h2, h35, h36, h37, h38, h39, F108_s4, h40]
        · try simp -implicitDefEqProofs only [push_cast, hty, heq, h0, Proofs.Try.f108, g108_148, g108_149, seval, h1, h2, h35, h36, h37, h38, h39, F108_s4, h40]
          try simp only [bindO_assoc]
          refine ite_ext (fun h41 => ?_) (fun h41 => ?_)
          · simp -implicitDefEqProofs only [push_cast, hty, heq, h0, Proofs.Try.f108, g108_148, g108_149, seval, h1, h2, h35, h36, h37, h38, h39, F108_s4, h40, h41]
          · simp -implicitDefEqProofs only [push_cast, hty, heq, h0, Proofs.Try.f108, g108_148, g108_149, seval, h1, h2, h35, h36, h37, h38, h39, F108_s4, h40, h41]
      · intro s14
        have h42 := lt_self (n := c.conForm.linMonos.length)
        try simp -implicitDefEqProofs only [push_cast, hty, heq, h0, Proofs.Try.f108, g108_148, g108_149, seval, h1, h2, h42, F108_f4]
        try simp only [bindO_assoc]
        refine bindO_ext fun r15 => ?_
        simp -implicitDefEqProofs only [push_cast, hty, heq, h0, Proofs.Try.f108, g108_148, g108_149, seval, h1, h2, h42, F108_f4]
theorem ev56 {E : Env} {N : Nat} (hB : N ≤ 4611686018427387904) (hty : E.ty = tys) (heq : E.eqt = eqts) (h0 : E.n0 = 0) (g56_107 : ∀ vs σ, E.tab 107 vs σ = plain (t107 N) vs σ) (g56_108 : ∀ vs σ, E.tab 108 vs σ = plain (t108 N) vs σ) (g56_86 : ∀ vs σ, E.tab 86 vs σ = plain (t86 N) vs σ) (c : Con) :
    bindO (aPure E Proofs.Try.f56 H56 N [.agg (Con.cells c)]) (cv sh56) = bindO (F56 N c) fun r => some (v56 r) := by
  unfold F56
  rw [r_pure]
  unfold sh56
  try simp -implicitDefEqProofs only [push_cast, hty, heq, h0, Proofs.Try.f56, g56_107, g56_108, g56_86, seval]
  try simp only [bindO_assoc]
  refine bindO_ext fun r1 => ?_
  try simp -implicitDefEqProofs only [push_cast, hty, heq, h0, Proofs.Try.f56, g56_107, g56_108, g56_86, seval]
  try simp only [bindO_assoc]
  refine iten_ext (fun h1 => ?_) (fun h1 => ?_)
  · try simp -implicitDefEqProofs only [push_cast, hty, heq, h0, Proofs.Try.f56, g56_107, g56_108, g56_86, seval, h1]
    try simp only [bindO_assoc]
    refine bindO_ext fun r2 => ?_
    try simp -implicitDefEqProofs only [push_cast, hty, heq, h0, Proofs.Try.f56, g56_107, g56_108, g56_86, seval, h1]
    try simp only [bindO_assoc]
    refine bindO_ext fun r3 => ?_
    simp -implicitDefEqProofs only [push_cast, hty, heq, h0, Proofs.Try.f56, g56_107, g56_108, g56_86, seval, h1]
  · simp -implicitDefEqProofs only [push_cast, hty, heq, h0, Proofs.Try.f56, g56_107, g56_108, g56_86, seval, h1]
theorem ev130 {E : Env} {N : Nat} (hB : N ≤ 4611686018427387904) (hty : E.ty = tys) (heq : E.eqt = eqts) (h0 : E.n0 = 0)  (n : Int) :
    bindO (aPure E Proofs.Try.f130 H130 N [.int .i64 n]) (cv sh130) = bindO (F130 n) fun r => some (v130 r) := by
  unfold F130
  rw [r_pure]
  unfold sh130
  try simp -implicitDefEqProofs only [push_cast, hty, heq, h0, Proofs.Try.f130, seval]
  try simp only [bindO_assoc]
  refine ite_ext (fun h1 => ?_) (fun h1 => ?_)
  · simp -implicitDefEqProofs only [push_cast, hty, heq, h0, Proofs.Try.f130, seval, h1]
  · simp -implicitDefEqProofs only [push_cast, hty, heq, h0, Proofs.Try.f130, seval, h1]
theorem ev28 {E : Env} {N : Nat} (hB : N ≤ 4611686018427387904) (self28 : Node → Option (Int)) (hty : E.ty = tys) (heq : E.eqt = eqts) (h0 : E.n0 = 0) (g28_28 : ∀ vs σ, E.tab 28 vs σ = plain (ts28 self28) vs σ) (n : Node) :
    bindO (aPure E Proofs.Try.f28 H28 N [.agg (Node.cells n)]) (cv sh28) = bindO (F28b self28 N n) fun r => some (v28 r) := by
  unfold F28b
  rw [r_pure]
  unfold sh28
  try simp -implicitDefEqProofs only [push_cast, hty, heq, h0, Proofs.Try.f28, g28_28, seval]
  try simp only [bindO_assoc]
  refine ite_ext (fun h1 => ?_) (fun h1 => ?_)
  · simp -implicitDefEqProofs only [push_cast, hty, heq, h0, Proofs.Try.f28, g28_28, seval, h1]
  · try simp -implicitDefEqProofs only [push_cast, hty, heq, h0, Proofs.Try.f28, g28_28, seval, h1]
    try simp only [bindO_assoc]
    refine ite_ext (fun h2 => ?_) (fun h2 => ?_)
    · simp -implicitDefEqProofs only [push_cast, hty, heq, h0, Proofs.Try.f28, g28_28, seval, h1, h2]
    · try simp -implicitDefEqProofs only [push_cast, hty, heq, h0, Proofs.Try.f28, g28_28, seval, h1, h2]
      try simp only [bindO_assoc]
      refine ite_ext (fun h3 => ?_) (fun h3 => ?_)
      · simp -implicitDefEqProofs only [push_cast, hty, heq, h0, Proofs.Try.f28, g28_28, seval, h1, h2, h3]
      · try simp -implicitDefEqProofs only [push_cast, hty, heq, h0, Proofs.Try.f28, g28_28, seval, h1, h2, h3]
        try simp only [bindO_assoc]
        refine ite_ext (fun h4 => ?_) (fun h4 => ?_)
        · simp -implicitDefEqProofs only [push_cast, hty, heq, h0, Proofs.Try.f28, g28_28, seval, h1, h2, h3, h4]
        · try simp -implicitDefEqProofs only [push_cast, hty, heq, h0, Proofs.Try.f28, g28_28, seval, h1, h2, h3, h4]
          try simp only [bindO_assoc]
          refine ite_ext (fun h5 => ?_) (fun h5 => ?_)
          · simp -implicitDefEqProofs only [push_cast, hty, heq, h0, Proofs.Try.f28, g28_28, seval, h1, h2, h3, h4, h5]
          · try simp -implicitDefEqProofs only [push_cast, hty, heq, h0, Proofs.Try.f28, g28_28, seval, h1, h2, h3, h4, h5]
            try simp only [bindO_assoc]
            refine ite_ext (fun h6 => ?_) (fun h6 => ?_)
            · simp -implicitDefEqProofs only [push_cast, hty, heq, h0, Proofs.Try.f28, g28_28, seval, h1, h2, h3, h4, h5, h6]
            · try simp -implicitDefEqProofs only [push_cast, hty, heq, h0, Proofs.Try.f28, g28_28, seval, h1, h2, h3, h4, h5, h6]
              try simp only [bindO_assoc]
              refine ite_ext (fun h7 => ?_) (fun h7 => ?_)
              · simp -implicitDefEqProofs only [push_cast, hty, heq, h0, Proofs.Try.f28, g28_28, seval, h1, h2, h3, h4, h5, h6, h7]
              · try simp -implicitDefEqProofs only [push_cast, hty, heq, h0, Proofs.Try.f28, g28_28, seval, h1, h2, h3, h4, h5, h6, h7]
                try simp only [bindO_assoc]
                refine ite_ext (fun h8 => ?_) (fun h8 => ?_)
                · simp -implicitDefEqProofs only [push_cast, hty, heq, h0, Proofs.Try.f28, g28_28, seval, h1, h2, h3, h4, h5, h6, h7, h8]
                · try simp -implicitDefEqProofs only [push_cast, hty, heq, h0, Proofs.Try.f28, g28_28, seval, h1, h2, h3, h4, h5, h6, h7, h8]
                  try simp only [bindO_assoc]
                  refine ite_ext (fun h9 => ?_) (fun h9 => ?_)
                  · simp -implicitDefEqProofs only [push_cast, hty, heq, h0, Proofs.Try.f28, g28_28, seval, h1, h2, h3, h4, h5, h6, h7, h8, h9]
                  · try simp -implicitDefEqProofs only [push_cast, hty, heq, h0, Proofs.Try.f28, g28_28, seval, h1, h2, h3, h4, h5, h6, h7, h8, h9]
                    try simp only [bindO_assoc]
                    refine ite_ext (fun h10 => ?_) (fun h10 => ?_)
                    · try simp -implicitDefEqProofs only [push_cast, hty, heq, h0, Proofs.Try.f28, g28_28, seval, h1, h2, h3, h4, h5, h6, h7, h8, h9, h10]
                      try simp only [bindO_assoc]
                      refine ite_ext (fun h11 => ?_) (fun h11 => ?_)
                      · simp -implicitDefEqProofs only [push_cast, hty, heq, h0, Proofs.Try.f28, g28_28, seval, h1, h2, h3, h4, h5, h6, h7, h8, h9, h10, h11]
                      · try simp -implicitDefEqProofs only [push_cast, hty, heq, h0, Proofs.Try.f28, g28_28, seval, h1, h2, h3, h4, h5, h6, h7, h8, h9, h10, h11]
                        try simp only [bindO_assoc]
                        refine at_sl (c := Node.cells) fun x1 h12 h13 h14 h15 => ?_
                        try simp only [Int.reduceToNat, Int.toNat_natCast] at h14 h15
                        try simp -implicitDefEqProofs only [push_cast, hty, heq, h0, Proofs.Try.f28, g28_28, seval, h1, h2, h3, h4, h5, h6, h7, h8, h9, h10, h11, h12, h14, h15]
                        try simp only [bindO_assoc]
                        refine bindO_ext fun r2 => ?_
                        simp -implicitDefEqProofs only [push_cast, hty, heq, h0, Proofs.Try.f28, g28_28, seval, h1, h2, h3, h4, h5, h6, h7, h8, h9, h10, h11, h12, h14, h15]
                    · try simp -implicitDefEqProofs only [push_cast, hty, heq, h0, Proofs.Try.f28, g28_28, seval, h1, h2, h3, h4, h5, h6, h7, h8, h9, h10]
                      try simp only [bindO_assoc]
                      refine ite_ext (fun h16 => ?_) (fun h16 => ?_)
                      · simp -implicitDefEqProofs only [push_cast, hty, heq, h0, Proofs.Try.f28, g28_28, seval, h1, h2, h3, h4, h5, h6, h7, h8, h9, h10, h16]
                      · try simp -implicitDefEqProofs only [push_cast, hty, heq, h0, Proofs.Try.f28, g28_28, seval, h1, h2, h3, h4, h5, h6, h7, h8, h9, h10, h16]
                        try simp only [bindO_assoc]
                        refine ite_ext (fun h17 => ?_) (fun h17 => ?_)
                        · simp -implicitDefEqProofs only [push_cast, hty, heq, h0, Proofs.Try.f28, g28_28, seval, h1, h2, h3, h4, h5, h6, h7, h8, h9, h10, h16, h17]
                        · try simp -implicitDefEqProofs only [push_cast, hty, heq, h0, Proofs.Try.f28, g28_28, seval, h1, h2, h3, h4, h5, h6, h7, h8, h9, h10, h16, h17]
                          try simp only [bindO_assoc]
                          refine ite_ext (fun h18 => ?_) (fun h18 => ?_)
                          · simp -implicitDefEqProofs only [push_cast, hty, heq, h0, Proofs.Try.f28, g28_28, seval, h1, h2, h3, h4, h5, h6, h7, h8, h9, h10, h16, h17, h18]
                          · try simp -implicitDefEqProofs only [push_cast, hty, heq, h0, Proofs.Try.f28, g28_28, seval, h1, h2, h3, h4, h5, h6, h7, h8, h9, h10, h16, h17, h18]
                            try simp only [bindO_assoc]
                            refine ite_ext (fun h19 => ?_) (fun h19 => ?_)
                            · simp -implicitDefEqProofs only [push_cast, hty, heq, h0, Proofs.Try.f28, g28_28, seval, h1, h2, h3, h4, h5, h6, h7, h8, h9, h10, h16, h17, h18, h19]
                            · try simp -implicitDefEqProofs only [push_cast, hty, heq, h0, Proofs.Try.f28, g28_28, seval, h1, h2, h3, h4, h5, h6, h7, h8, h9, h10, h16, h17, h18, h19]
                              try simp only [bindO_assoc]
                              refine ite_ext (fun h20 => ?_) (fun h20 => ?_)
                              · simp -implicitDefEqProofs only [push_cast, hty, heq, h0, Proofs.Try.f28, g28_28, seval, h1, h2, h3, h4, h5, h6, h7, h8, h9, h10, h16, h17, h18, h19, h20]
                              · try simp -implicitDefEqProofs only [push_cast, hty, heq, h0, Proofs.Try.f28, g28_28, seval, h1, h2, h3, h4, h5, h6, h7, h8, h9, h10, h16, h17, h18, h19, h20]
                                try simp only [bindO_assoc]
                                refine ite_ext (fun h21 => ?_) (fun h21 => ?_)
                                · simp -implicitDefEqProofs only [push_cast, hty, heq, h0, Proofs.Try.f28, g28_28, seval, h1, h2, h3, h4, h5, h6, h7, h8, h9, h10, h16, h17, h18, h19, h20, h21]
                                · try simp -implicitDefEqProofs only [push_cast, hty, heq, h0, Proofs.Try.f28, g28_28, seval, h1, h2, h3, h4, h5, h6, h7, h8, h9, h10, h16, h17, h18, h19, h20, h21]
                                  try simp only [bindO_assoc]
                                  refine ite_ext (fun h22 => ?_) (fun h22 => ?_)
                                  · try simp -implicitDefEqProofs only [push_cast, hty, heq, h0, Proofs.Try.f28, g28_28, seval, h1, h2, h3, h4, h5, h6, h7, h8, h9, h10, h16, h17, h18, h19, h20, h21, h22]
                                    try simp only [bindO_assoc]
                                    refine ite_ext (fun h23 => ?_) (fun h23 => ?_)
                                    · simp -implicitDefEqProofs only [push_cast, hty, heq, h0, Proofs.Try.f28, g28_28, seval, h1, h2, h3, h4, h5, h6, h7, h8, h9, h10, h16, h17, h18, h19, h20, h21, h22, h23]
                                    · simp -implicitDefEqProofs only [push_cast, hty, heq, h0, Proofs.Try.f28, g28_28, seval, h1, h2, h3, h4, h5, h6, h7, h8, h9, h10, h16, h17, h18, h19, h20, h21, h22, h23]
                                  · simp -implicitDefEqProofs only [push_cast, hty, heq, h0, Proofs.Try.f28, g28_28, seval, h1, h2, h3, h4, h5, h6, h7, h8, h9, h10, h16, h17, h18, h19, h20, h21, h22]
end Go.Abs.Try
