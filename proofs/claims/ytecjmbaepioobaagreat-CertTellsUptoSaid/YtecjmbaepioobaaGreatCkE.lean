import Derived.Test.YtecjmbaepioobaaGreatCkD
set_option linter.unusedSimpArgs false
set_option linter.unusedVariables false
namespace Go.Proofs
open Go.RowKit Go.ChangeShapes
set_option maxRecDepth 100000
theorem S48.below {pp kb fb fc b5 b6 b7 : Nat} {w w' : World} {B : Nat} (h : S48 pp kb fb fc b5 b6 b7 w) (hB : Below B w w') (h1 : pp < B) (h2 : kb < B) (h3 : b5 < B) (h4 : b6 < B) (h5 : b7 < B) : S48 pp kb fb fc b5 b6 b7 w' := by
 obtain ⟨q0, q1, q2, q3, q4, q5, q6, q7, q8⟩ := h
 exact ⟨(hB.cell (p := ⟨pp, 0, none⟩) h1).trans q0, (hB.cell (p := ⟨kb, 0, none⟩) h2).trans q1, (hB.cell (p := ⟨kb, 1, none⟩) h2).trans q2, (hB.cell (p := ⟨kb, 2, none⟩) h2).trans q3, (hB.cell (p := ⟨kb, 3, none⟩) h2).trans q4, (hB.cell (p := ⟨b5, 0, none⟩) h3).trans q5, (hB.cell (p := ⟨b6, 0, none⟩) h4).trans q6, (hB.cell (p := ⟨b7, 0, none⟩) h5).trans q7, fun o => (hB.frozen (p := ⟨kb, o, none⟩) h2).trans (q8 o)⟩
set_option maxHeartbeats 4000000 in
theorem Tryz.proves_three (w : World) (B kb fb fc : Nat) (y1 y2 y3 y4 y5 y6 y7 y8 y9 y10 y11 : Value) (b : Bool)
    (k0 : w.cell? ⟨kb, 0, none⟩ = some (.slice (some ⟨fb, 0, none⟩) 1 fc)) (k1 : w.cell? ⟨kb, 1, none⟩ = some (.slice none 0 0)) (k2 : w.cell? ⟨kb, 2, none⟩ = some (.slice none 0 0)) (k3 : w.cell? ⟨kb, 3, none⟩ = some (.slice none 0 0)) (hfz : ∀ o, w.frozen? ⟨kb, o, none⟩ = false) (hc : 1 ≤ fc) (hB : B ≤ kb)
    (hE : ∀ wr, Below w.heap.size w wr → Calls Tryz.prog 49 #[.agg #[.int .i64 3, y1, y2, y3, y4, y5, y6, y7, y8, y9, y10, y11], .int .i64 0, .bool false, .bool false] wr fun e w' => e = .returned (.bool true) ∧ Below wr.heap.size wr w')
    (hF : ∀ wr pp, Below w.heap.size w wr → wr.cell? ⟨pp, 0, none⟩ = some (.pointer (some ⟨kb, 0, none⟩)) → Calls Tryz.prog 54 #[.slice (some ⟨fb, 0, none⟩) 1 fc, .func (.func 55) #[] #[.pointer (some ⟨pp, 0, none⟩)]] wr fun e w' => e = .returned (.bool b) ∧ Below wr.heap.size wr w') :
    Calls Tryz.prog 25 #[.pointer (some ⟨kb, 0, none⟩), .agg #[.int .i64 3, y1, y2, y3, y4, y5, y6, y7, y8, y9, y10, y11]] w fun e w' => e = .returned (.bool b) ∧ Below B w w' := by
  have lt : ∀ {b o v}, w.cell? ⟨b, o, none⟩ = some v → b < w.heap.size := fun {b o v} h => by
    unfold World.cell? at h
    rcases Nat.lt_or_ge b w.heap.size with hb | hb
    · exact hb
    · rw [Array.getElem?_eq_none hb] at h; cases h
  have hk := lt k0
  have hmf : ∀ (fn : Fn) (first cap : Array Value) (w : World), (Instr.makeFunc fn first cap).run Tryz.prog w = .ok (.func fn first cap) w := fun _ _ _ _ => rfl
  go_enter_defers Tryz.func25, Tryz.ntmps25
  go_wp2
  obtain ⟨W, hW⟩ : ∃ W, W = (w.alloc (.cells #[.pointer (some ⟨kb, 0, none⟩)] 54)).alloc (.cells #[.int .i64 3, y1, y2, y3, y4, y5, y6, y7, y8, y9, y10, y11] 45) := ⟨_, rfl⟩
  have hWs : W.heap.size = w.heap.size + 2 := by rw [hW]; simp
  have hB0 : Below w.heap.size w W := by rw [hW]; exact ((Below.refl _ w).alloc (Nat.le_refl _) _).alloc (by simp) _
  have p0 : W.cell? ⟨w.heap.size, 0, none⟩ = some (.pointer (some ⟨kb, 0, none⟩)) := by rw [hW]; exact Lib.cell?_alloc_some _ (World.cell?_alloc_at (w := w) #[.pointer (some ⟨kb, 0, none⟩)] 54 w.heap.size 0 rfl)
  have z0 : W.cell? ⟨w.heap.size + 1, 0, none⟩ = some (.int .i64 3) := by rw [hW]; exact World.cell?_alloc_at (w := w.alloc (.cells #[.pointer (some ⟨kb, 0, none⟩)] 54)) _ _ _ 0 (by simp)
  have z1 : W.cell? ⟨w.heap.size + 1, 1, none⟩ = some (y1) := by rw [hW]; exact World.cell?_alloc_at (w := w.alloc (.cells #[.pointer (some ⟨kb, 0, none⟩)] 54)) _ _ _ 1 (by simp)
  have z2 : W.cell? ⟨w.heap.size + 1, 2, none⟩ = some (y2) := by rw [hW]; exact World.cell?_alloc_at (w := w.alloc (.cells #[.pointer (some ⟨kb, 0, none⟩)] 54)) _ _ _ 2 (by simp)
  have z3 : W.cell? ⟨w.heap.size + 1, 3, none⟩ = some (y3) := by rw [hW]; exact World.cell?_alloc_at (w := w.alloc (.cells #[.pointer (some ⟨kb, 0, none⟩)] 54)) _ _ _ 3 (by simp)
  have z4 : W.cell? ⟨w.heap.size + 1, 4, none⟩ = some (y4) := by rw [hW]; exact World.cell?_alloc_at (w := w.alloc (.cells #[.pointer (some ⟨kb, 0, none⟩)] 54)) _ _ _ 4 (by simp)
  have z5 : W.cell? ⟨w.heap.size + 1, 5, none⟩ = some (y5) := by rw [hW]; exact World.cell?_alloc_at (w := w.alloc (.cells #[.pointer (some ⟨kb, 0, none⟩)] 54)) _ _ _ 5 (by simp)
  have z6 : W.cell? ⟨w.heap.size + 1, 6, none⟩ = some (y6) := by rw [hW]; exact World.cell?_alloc_at (w := w.alloc (.cells #[.pointer (some ⟨kb, 0, none⟩)] 54)) _ _ _ 6 (by simp)
  have z7 : W.cell? ⟨w.heap.size + 1, 7, none⟩ = some (y7) := by rw [hW]; exact World.cell?_alloc_at (w := w.alloc (.cells #[.pointer (some ⟨kb, 0, none⟩)] 54)) _ _ _ 7 (by simp)
  have z8 : W.cell? ⟨w.heap.size + 1, 8, none⟩ = some (y8) := by rw [hW]; exact World.cell?_alloc_at (w := w.alloc (.cells #[.pointer (some ⟨kb, 0, none⟩)] 54)) _ _ _ 8 (by simp)
  have z9 : W.cell? ⟨w.heap.size + 1, 9, none⟩ = some (y9) := by rw [hW]; exact World.cell?_alloc_at (w := w.alloc (.cells #[.pointer (some ⟨kb, 0, none⟩)] 54)) _ _ _ 9 (by simp)
  have z10 : W.cell? ⟨w.heap.size + 1, 10, none⟩ = some (y10) := by rw [hW]; exact World.cell?_alloc_at (w := w.alloc (.cells #[.pointer (some ⟨kb, 0, none⟩)] 54)) _ _ _ 10 (by simp)
  have z11 : W.cell? ⟨w.heap.size + 1, 11, none⟩ = some (y11) := by rw [hW]; exact World.cell?_alloc_at (w := w.alloc (.cells #[.pointer (some ⟨kb, 0, none⟩)] 54)) _ _ _ 11 (by simp)
  have q0 : W.cell? ⟨kb, 0, none⟩ = some (.slice (some ⟨fb, 0, none⟩) 1 fc) := (hB0.cell (p := ⟨kb, 0, none⟩) hk).trans k0
  have q1 : W.cell? ⟨kb, 1, none⟩ = some (.slice none 0 0) := (hB0.cell (p := ⟨kb, 1, none⟩) hk).trans k1
  have q2 : W.cell? ⟨kb, 2, none⟩ = some (.slice none 0 0) := (hB0.cell (p := ⟨kb, 2, none⟩) hk).trans k2
  have q3 : W.cell? ⟨kb, 3, none⟩ = some (.slice none 0 0) := (hB0.cell (p := ⟨kb, 3, none⟩) hk).trans k3
  have qf : ∀ o, W.frozen? ⟨kb, o, none⟩ = false := fun o => (hB0.frozen (p := ⟨kb, o, none⟩) hk).trans (hfz o)
  rw [← hW]
  refine Tryz.region1 _ W w.heap.size kb fb fc rfl rfl p0 q0 q1 q3 ?_
  intro b5 b6 b7 h5 h6 h7 n56 n57 n67
  rw [hWs] at h5 h6 h7
  obtain ⟨V, hV⟩ : ∃ V, V = (((((W.drew.alloc (.cells #[.int .i64 0] 3)).alloc (.cells #[.int .i64 0] 3)).alloc (.cells #[.int .i64 0] 3)).setCell ⟨b5, 0, none⟩ (.int .i64 1)).setCell ⟨b6, 0, none⟩ (.int .i64 0)).setCell ⟨b7, 0, none⟩ (.int .i64 0) := ⟨_, rfl⟩
  have hdr : W.drew.heap.size = W.heap.size := rfl
  have hVs : V.heap.size = w.heap.size + 5 := by rw [hV]; simp [hWs]
  have hBV : Below W.heap.size W V := by
    rw [hV]
    exact (((((((Below.refl _ W).drew.alloc (Nat.le_refl _) _).alloc (by simp) _).alloc (by simp; omega) _).setCell (by show W.heap.size ≤ b5; omega) _).setCell (by show W.heap.size ≤ b6; omega) _).setCell (by show W.heap.size ≤ b7; omega) _)
  have kt : ∀ {b o v}, W.cell? ⟨b, o, none⟩ = some v → b < W.heap.size → V.cell? ⟨b, o, none⟩ = some v := fun {b o v} h hb => (hBV.cell (p := ⟨b, o, none⟩) hb).trans h
  have c3 : ∀ b, (b = w.heap.size + 2 ∨ b = w.heap.size + 2 + 1 ∨ b = w.heap.size + 2 + 2) → (((W.drew.alloc (.cells #[.int .i64 0] 3)).alloc (.cells #[.int .i64 0] 3)).alloc (.cells #[.int .i64 0] 3)).cell? ⟨b, 0, none⟩ = some (.int .i64 0) := fun b hb => by
    rcases hb with rfl | rfl | rfl
    · exact Lib.cell?_alloc_some _ (Lib.cell?_alloc_some _ (World.cell?_alloc_at (w := W.drew) #[.int .i64 0] 3 _ 0 (by rw [hdr, hWs])))
    · exact Lib.cell?_alloc_some _ (World.cell?_alloc_at (w := W.drew.alloc (.cells #[.int .i64 0] 3)) #[.int .i64 0] 3 _ 0 (by simp [hWs]))
    · exact World.cell?_alloc_at (w := (W.drew.alloc (.cells #[.int .i64 0] 3)).alloc (.cells #[.int .i64 0] 3)) #[.int .i64 0] 3 _ 0 (by simp [hWs])
  have hS : S48 w.heap.size kb fb fc b5 b6 b7 V := by
    refine ⟨kt p0 (by omega), kt q0 (by omega), kt q1 (by omega), kt q2 (by omega), kt q3 (by omega), ?_, ?_, ?_, fun o => (hBV.frozen (p := ⟨kb, o, none⟩) (by show kb < W.heap.size; omega)).trans (qf o)⟩
    · rw [hV]; exact (setc_ne (by omega)).trans ((setc_ne (by omega)).trans (setc_at (c3 b5 h5)))
    · rw [hV]; exact (setc_ne (by omega)).trans (setc_at ((setc_ne (by omega)).trans (c3 b6 h6)))
    · rw [hV]; exact setc_at ((setc_ne (by omega)).trans ((setc_ne (by omega)).trans (c3 b7 h7)))
  have z0 := kt z0 (by omega)
  have z1 := kt z1 (by omega)
  have z2 := kt z2 (by omega)
  have z3 := kt z3 (by omega)
  have z4 := kt z4 (by omega)
  have z5 := kt z5 (by omega)
  have z6 := kt z6 (by omega)
  have z7 := kt z7 (by omega)
  have z8 := kt z8 (by omega)
  have z9 := kt z9 (by omega)
  have z10 := kt z10 (by omega)
  have z11 := kt z11 (by omega)
  have hB1 : Below w.heap.size w V := hB0.trans (hBV.mono (by omega))
  rw [← hV]
  clear hV c3 kt
  obtain ⟨s0, s1, s2, s3, s4, s5, s6, s7, s8⟩ := id hS
  have hvp : w.heap.size < V.heap.size := by have := hBV.size; omega
  have hvk : kb < V.heap.size := by omega
  go_wp2_with (first | (go_at_call 49; refine (hE _ hB1).mono ?_; rintro e w3 ⟨rfl, hB3⟩; have hB13 := hB1.trans (hB3.mono hB1.size); have hsv := hB1.size; have r0 := (hB3.cell (p := ⟨w.heap.size, 0, none⟩) hvp).trans s0; have r1 := (hB3.cell (p := ⟨kb, 0, none⟩) hvk).trans s1) | (go_at_call 54; refine (hF _ _ hB13 r0).mono ?_; rintro e w4 ⟨rfl, hB4⟩))
  have hS3 := hS.below hB3 (by omega) (by omega) (by omega) (by omega) (by omega)
  have h3s := hB3.size
  have hS4 := hS3.below hB4 (by omega) (by omega) (by omega) (by omega) (by omega)
  have hB14 := hB13.trans (hB4.mono hB13.size)
  refine leaves_cons (f := 48) (args := #[.pointer (some ⟨w.heap.size, 0, none⟩), .pointer (some ⟨b5, 0, none⟩), .pointer (some ⟨b6, 0, none⟩), .pointer (some ⟨b7, 0, none⟩)]) (by simp) (by simp [go_sem]) ?_
  refine (Tryz.back_deferred .returning w4 B w.heap.size kb fb fc b5 b6 b7 hS4 hc (by omega) (by omega) (by omega) (by omega) hB).mono ?_
  rintro e u' w5 ⟨rfl, rfl, hB5⟩
  exact ⟨_, results_tmp rfl _ _ _, rfl, (hB14.mono (by omega)).trans hB5⟩
end Go.Proofs
