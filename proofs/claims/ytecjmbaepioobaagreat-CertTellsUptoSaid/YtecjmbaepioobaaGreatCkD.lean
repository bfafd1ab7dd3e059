import Derived.Test.YtecjmbaepioobaaGreatCkC
set_option linter.unusedSimpArgs false
set_option linter.unusedVariables false
namespace Go.Proofs
open Go.RowKit Go.ChangeShapes
set_option maxRecDepth 100000
theorem Tryz.back_deferred (u : FrameMode) (w : World) (B pp kb fb fc b5 b6 b7 : Nat) (hS : S48 pp kb fb fc b5 b6 b7 w) (hc : 1 ≤ fc) (np : pp ≠ kb) (n5 : b5 ≠ kb) (n6 : b6 ≠ kb) (n7 : b7 ≠ kb) (hB : B ≤ kb) :
   CallsD Tryz.prog 48 #[.pointer (some ⟨pp, 0, none⟩), .pointer (some ⟨b5, 0, none⟩), .pointer (some ⟨b6, 0, none⟩), .pointer (some ⟨b7, 0, none⟩)] u w fun e u' w' => u' = u ∧ e = .returned (.tuple #[]) ∧ Below B w w' := by
 go_enter_d Tryz.func48, Tryz.ntmps48
 refine Tryz.region48 _ w pp kb fb fc b5 b6 b7 rfl rfl rfl rfl rfl hS hc np n5 n6 n7 (fun c a d v w h => h) ?_
 intro a' hd
 exact ⟨hd, _, results_none rfl _ _ _, rfl, ((((Below.refl B w).drew.setCell hB _).setCell hB _).setCell hB _).setCell hB _⟩
set_option maxHeartbeats 1000000 in
theorem Tryz.truth_is (w : World) (pp kb : Nat) (x0 x1 x2 x3 x4 : Value) (z : Int) (c0 : w.cell? ⟨pp, 0, none⟩ = some (.pointer (some ⟨kb, 0, none⟩))) (c2 : w.cell? ⟨kb, 1, none⟩ = some (.slice none 0 0)) (c3 : w.cell? ⟨kb, 2, none⟩ = some (.slice none 0 0))
    (hT : ∀ wr, Below w.heap.size w wr → Calls Tryz.prog 14 #[.agg #[x0, x1, x2, x3, x4], .slice none 0 0, .slice none 0 0] wr fun e w' => e = .returned (.int .i64 z) ∧ Below wr.heap.size wr w') :
    Calls Tryz.prog 55 #[.agg #[x0, x1, x2, x3, x4], .pointer (some ⟨pp, 0, none⟩)] w fun e w' => e = .returned (.bool (z == 0)) ∧ Below w.heap.size w w' := by
  have lt : ∀ {b o v}, w.cell? ⟨b, o, none⟩ = some v → b < w.heap.size := fun {b o v} h => by
    unfold World.cell? at h
    rcases Nat.lt_or_ge b w.heap.size with hb | hb
    · exact hb
    · rw [Array.getElem?_eq_none hb] at h; cases h
  have hp := lt c0
  have hk := lt c2
  have hq : pp ≠ w.heap.size := by omega
  have hq2 : kb ≠ w.heap.size := by omega
  have hB0 : Below w.heap.size w ((w.alloc (.cells #[x0, x1, x2, x3, x4] 24)).drew) := ((Below.refl _ w).alloc (Nat.le_refl _) _).drew
  have f0 : (w.alloc (.cells #[x0, x1, x2, x3, x4] 24)).cell? ⟨w.heap.size, 0, none⟩ = some x0 := World.cell?_alloc_at _ _ _ 0 rfl
  have f1 : (w.alloc (.cells #[x0, x1, x2, x3, x4] 24)).cell? ⟨w.heap.size, 1, none⟩ = some x1 := World.cell?_alloc_at _ _ _ 1 rfl
  have f2 : (w.alloc (.cells #[x0, x1, x2, x3, x4] 24)).cell? ⟨w.heap.size, 2, none⟩ = some x2 := World.cell?_alloc_at _ _ _ 2 rfl
  have f3 : (w.alloc (.cells #[x0, x1, x2, x3, x4] 24)).cell? ⟨w.heap.size, 3, none⟩ = some x3 := World.cell?_alloc_at _ _ _ 3 rfl
  have f4 : (w.alloc (.cells #[x0, x1, x2, x3, x4] 24)).cell? ⟨w.heap.size, 4, none⟩ = some x4 := World.cell?_alloc_at _ _ _ 4 rfl
  have p0 := Lib.cell?_alloc_some (.cells #[x0, x1, x2, x3, x4] 24) c0
  have p2 := Lib.cell?_alloc_some (.cells #[x0, x1, x2, x3, x4] 24) c2
  have p3 := Lib.cell?_alloc_some (.cells #[x0, x1, x2, x3, x4] 24) c3
  go_enter Tryz.func55, Tryz.ntmps55
  go_wp2
  generalize w.alloc (.cells #[x0, x1, x2, x3, x4] 24) = W1 at f0 f1 f2 f3 f4 p0 p2 p3 hB0 ⊢
  go_still_tail 9, (by kernel_rfl)
  change wpList _ _ _ _ _ W1.drew
  go_wp2_with (go_at_call 14; refine (hT _ hB0).mono ?_; rintro e w3 ⟨rfl, hB3⟩)
  go_ret
  exact ⟨rfl, hB0.trans (hB3.mono hB0.size)⟩
set_option maxHeartbeats 1000000 in
theorem Tryz.index_one (w : World) (pp fb fc : Nat) (x0 x1 x2 x3 x4 : Value) (b : Bool) (c0 : w.cell? ⟨fb, 0, none⟩ = some x0) (c1 : w.cell? ⟨fb, 1, none⟩ = some x1) (c2 : w.cell? ⟨fb, 2, none⟩ = some x2) (c3 : w.cell? ⟨fb, 3, none⟩ = some x3) (c4 : w.cell? ⟨fb, 4, none⟩ = some x4)
    (hF : ∀ wr, Below w.heap.size w wr → Calls Tryz.prog 55 #[.agg #[x0, x1, x2, x3, x4], .pointer (some ⟨pp, 0, none⟩)] wr fun e w' => e = .returned (.bool b) ∧ Below wr.heap.size wr w') :
    Calls Tryz.prog 88 #[.slice (some ⟨fb, 0, none⟩) 1 fc, .func (.func 55) #[] #[.pointer (some ⟨pp, 0, none⟩)]] w fun e w' => e = .returned (.int .i64 (if b then 0 else -1)) ∧ Below w.heap.size w w' := by
  go_enter Tryz.func88, Tryz.ntmps88
  go_wp2
  refine wp_loop_rounds 2 ?_
  rw [rounds_succ]
  go_wp2_with (go_at_call 55; refine (hF _ (Below.refl _ _)).mono ?_; rintro e w3 ⟨rfl, hB3⟩)
  · go_ret
    exact ⟨rfl, hB3⟩
  · rw [rounds_succ]
    go_wp2
    all_goals (go_ret; exact ⟨rfl, hB3⟩)
set_option maxHeartbeats 1000000 in
theorem Tryz.contains_one (w : World) (pp fb fc : Nat) (x0 x1 x2 x3 x4 : Value) (b : Bool) (c0 : w.cell? ⟨fb, 0, none⟩ = some x0) (c1 : w.cell? ⟨fb, 1, none⟩ = some x1) (c2 : w.cell? ⟨fb, 2, none⟩ = some x2) (c3 : w.cell? ⟨fb, 3, none⟩ = some x3) (c4 : w.cell? ⟨fb, 4, none⟩ = some x4)
    (hF : ∀ wr, Below w.heap.size w wr → Calls Tryz.prog 55 #[.agg #[x0, x1, x2, x3, x4], .pointer (some ⟨pp, 0, none⟩)] wr fun e w' => e = .returned (.bool b) ∧ Below wr.heap.size wr w') :
    Calls Tryz.prog 54 #[.slice (some ⟨fb, 0, none⟩) 1 fc, .func (.func 55) #[] #[.pointer (some ⟨pp, 0, none⟩)]] w fun e w' => e = .returned (.bool b) ∧ Below w.heap.size w w' := by
  go_enter Tryz.func54, Tryz.ntmps54
  cases b with
  | true =>
    go_wp2_with (go_at_call 88; refine (Tryz.index_one _ pp fb fc x0 x1 x2 x3 x4 true c0 c1 c2 c3 c4 hF).mono ?_; rintro e w3 ⟨rfl, hB3⟩)
    go_ret
    exact ⟨rfl, hB3⟩
  | false =>
    go_wp2_with (go_at_call 88; refine (Tryz.index_one _ pp fb fc x0 x1 x2 x3 x4 false c0 c1 c2 c3 c4 hF).mono ?_; rintro e w3 ⟨rfl, hB3⟩)
    go_ret
    exact ⟨rfl, hB3⟩
end Go.Proofs
