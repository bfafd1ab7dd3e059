import Derived.Test.YtecjmbaepioobaaGreatCkA
set_option linter.unusedSimpArgs false
set_option linter.unusedVariables false
namespace Go.Proofs
open Go.RowKit Go.ChangeShapes
set_option maxRecDepth 100000
noncomputable def ops1 : Array Oper := (regOps 1 (Tryz.f25.body.getD .skip)).headD #[]
noncomputable def o1 (i : Nat) : Oper := ops1.getD i ⟨none, .move (.const undef), 0, "", #[], none⟩
theorem d1_0 : (o1 0).dst = some 12 := by kernel_rfl
theorem g1_0 : (o1 0).guard = none := by kernel_rfl
theorem i1_0 : ops1[0]? = some (o1 0) := by kernel_rfl
theorem e1_0 (ρ : Operand → Value) : execOp ρ (o1 0) = execOp ρ ⟨none, .load 54 (.tmp 2), 54, "", #[], none⟩ := rfl
theorem d1_1 : (o1 1).dst = some 13 := by kernel_rfl
theorem g1_1 : (o1 1).guard = none := by kernel_rfl
theorem i1_1 : ops1[1]? = some (o1 1) := by kernel_rfl
theorem e1_1 (ρ : Operand → Value) : execOp ρ (o1 1) = execOp ρ ⟨none, .nilCheck (.tmp 12), 0, "", #[], none⟩ := rfl
theorem d1_2 : (o1 2).dst = some 14 := by kernel_rfl
theorem g1_2 : (o1 2).guard = none := by kernel_rfl
theorem i1_2 : ops1[2]? = some (o1 2) := by kernel_rfl
theorem e1_2 (ρ : Operand → Value) : execOp ρ (o1 2) = execOp ρ ⟨none, .fieldAddr 57 (.tmp 13) 0, 0, "", #[], none⟩ := rfl
theorem d1_3 : (o1 3).dst = some 15 := by kernel_rfl
theorem g1_3 : (o1 3).guard = none := by kernel_rfl
theorem i1_3 : ops1[3]? = some (o1 3) := by kernel_rfl
theorem e1_3 (ρ : Operand → Value) : execOp ρ (o1 3) = execOp ρ ⟨none, .load 22 (.tmp 14), 22, "", #[], none⟩ := rfl
theorem d1_4 : (o1 4).dst = some 16 := by kernel_rfl
theorem g1_4 : (o1 4).guard = none := by kernel_rfl
theorem i1_4 : ops1[4]? = some (o1 4) := by kernel_rfl
theorem e1_4 (ρ : Operand → Value) : execOp ρ (o1 4) = execOp ρ ⟨none, .call { callee := .builtin .len, args := #[.tmp 15], argTypes := #[22] }, 3, "", #[], none⟩ := rfl
theorem d1_5 : (o1 5).dst = some 17 := by kernel_rfl
theorem g1_5 : (o1 5).guard = none := by kernel_rfl
theorem i1_5 : ops1[5]? = some (o1 5) := by kernel_rfl
theorem e1_5 (ρ : Operand → Value) : execOp ρ (o1 5) = execOp ρ ⟨none, .load 54 (.tmp 2), 54, "", #[], none⟩ := rfl
theorem d1_6 : (o1 6).dst = some 18 := by kernel_rfl
theorem g1_6 : (o1 6).guard = none := by kernel_rfl
theorem i1_6 : ops1[6]? = some (o1 6) := by kernel_rfl
theorem e1_6 (ρ : Operand → Value) : execOp ρ (o1 6) = execOp ρ ⟨none, .nilCheck (.tmp 17), 0, "", #[], none⟩ := rfl
theorem d1_7 : (o1 7).dst = some 19 := by kernel_rfl
theorem g1_7 : (o1 7).guard = none := by kernel_rfl
theorem i1_7 : ops1[7]? = some (o1 7) := by kernel_rfl
theorem e1_7 (ρ : Operand → Value) : execOp ρ (o1 7) = execOp ρ ⟨none, .fieldAddr 57 (.tmp 18) 1, 0, "", #[], none⟩ := rfl
theorem d1_8 : (o1 8).dst = some 20 := by kernel_rfl
theorem g1_8 : (o1 8).guard = none := by kernel_rfl
theorem i1_8 : ops1[8]? = some (o1 8) := by kernel_rfl
theorem e1_8 (ρ : Operand → Value) : execOp ρ (o1 8) = execOp ρ ⟨none, .load 22 (.tmp 19), 22, "", #[], none⟩ := rfl
theorem d1_9 : (o1 9).dst = some 21 := by kernel_rfl
theorem g1_9 : (o1 9).guard = none := by kernel_rfl
theorem i1_9 : ops1[9]? = some (o1 9) := by kernel_rfl
theorem e1_9 (ρ : Operand → Value) : execOp ρ (o1 9) = execOp ρ ⟨none, .call { callee := .builtin .len, args := #[.tmp 20], argTypes := #[22] }, 3, "", #[], none⟩ := rfl
theorem d1_10 : (o1 10).dst = some 22 := by kernel_rfl
theorem g1_10 : (o1 10).guard = none := by kernel_rfl
theorem i1_10 : ops1[10]? = some (o1 10) := by kernel_rfl
theorem e1_10 (ρ : Operand → Value) : execOp ρ (o1 10) = execOp ρ ⟨none, .load 54 (.tmp 2), 54, "", #[], none⟩ := rfl
theorem d1_11 : (o1 11).dst = some 23 := by kernel_rfl
theorem g1_11 : (o1 11).guard = none := by kernel_rfl
theorem i1_11 : ops1[11]? = some (o1 11) := by kernel_rfl
theorem e1_11 (ρ : Operand → Value) : execOp ρ (o1 11) = execOp ρ ⟨none, .nilCheck (.tmp 22), 0, "", #[], none⟩ := rfl
theorem d1_12 : (o1 12).dst = some 24 := by kernel_rfl
theorem g1_12 : (o1 12).guard = none := by kernel_rfl
theorem i1_12 : ops1[12]? = some (o1 12) := by kernel_rfl
theorem e1_12 (ρ : Operand → Value) : execOp ρ (o1 12) = execOp ρ ⟨none, .fieldAddr 57 (.tmp 23) 3, 0, "", #[], none⟩ := rfl
theorem d1_13 : (o1 13).dst = some 25 := by kernel_rfl
theorem g1_13 : (o1 13).guard = none := by kernel_rfl
theorem i1_13 : ops1[13]? = some (o1 13) := by kernel_rfl
theorem e1_13 (ρ : Operand → Value) : execOp ρ (o1 13) = execOp ρ ⟨none, .load 55 (.tmp 24), 55, "", #[], none⟩ := rfl
theorem d1_14 : (o1 14).dst = some 26 := by kernel_rfl
theorem g1_14 : (o1 14).guard = none := by kernel_rfl
theorem i1_14 : ops1[14]? = some (o1 14) := by kernel_rfl
theorem e1_14 (ρ : Operand → Value) : execOp ρ (o1 14) = execOp ρ ⟨none, .call { callee := .builtin .len, args := #[.tmp 25], argTypes := #[55] }, 3, "", #[], none⟩ := rfl
theorem d1_15 : (o1 15).dst = some 5 := by kernel_rfl
theorem g1_15 : (o1 15).guard = none := by kernel_rfl
theorem i1_15 : ops1[15]? = some (o1 15) := by kernel_rfl
theorem e1_15 (ρ : Operand → Value) : execOp ρ (o1 15) = execOp ρ ⟨none, .alloc 3, 0, "", #[], none⟩ := rfl
theorem d1_16 : (o1 16).dst = some 6 := by kernel_rfl
theorem g1_16 : (o1 16).guard = none := by kernel_rfl
theorem i1_16 : ops1[16]? = some (o1 16) := by kernel_rfl
theorem e1_16 (ρ : Operand → Value) : execOp ρ (o1 16) = execOp ρ ⟨none, .alloc 3, 0, "", #[], none⟩ := rfl
theorem d1_17 : (o1 17).dst = some 7 := by kernel_rfl
theorem g1_17 : (o1 17).guard = none := by kernel_rfl
theorem i1_17 : ops1[17]? = some (o1 17) := by kernel_rfl
theorem e1_17 (ρ : Operand → Value) : execOp ρ (o1 17) = execOp ρ ⟨none, .alloc 3, 0, "", #[], none⟩ := rfl
theorem d1_18 : (o1 18).dst = none := by kernel_rfl
theorem g1_18 : (o1 18).guard = none := by kernel_rfl
theorem i1_18 : ops1[18]? = some (o1 18) := by kernel_rfl
theorem e1_18 (ρ : Operand → Value) : execOp ρ (o1 18) = execOp ρ ⟨none, .store 3 (.tmp 5) (.tmp 16), 0, "", #[], none⟩ := rfl
theorem d1_19 : (o1 19).dst = none := by kernel_rfl
theorem g1_19 : (o1 19).guard = none := by kernel_rfl
theorem i1_19 : ops1[19]? = some (o1 19) := by kernel_rfl
theorem e1_19 (ρ : Operand → Value) : execOp ρ (o1 19) = execOp ρ ⟨none, .store 3 (.tmp 6) (.tmp 21), 0, "", #[], none⟩ := rfl
theorem d1_20 : (o1 20).dst = none := by kernel_rfl
theorem g1_20 : (o1 20).guard = none := by kernel_rfl
theorem i1_20 : ops1[20]? = some (o1 20) := by kernel_rfl
theorem e1_20 (ρ : Operand → Value) : execOp ρ (o1 20) = execOp ρ ⟨none, .store 3 (.tmp 7) (.tmp 26), 0, "", #[], none⟩ := rfl
theorem Tryz.region1q {Q : Exit → Act → World → Prop} (a : Act) (w : World) (pp kb fb fc : Nat) (hsz : a.tmps.size = 143) (h2 : a.eval (.tmp 2) = .pointer (some ⟨pp, 0, none⟩))
   (c0 : w.cell? ⟨pp, 0, none⟩ = some (.pointer (some ⟨kb, 0, none⟩))) (c1 : w.cell? ⟨kb, 0, none⟩ = some (.slice (some ⟨fb, 0, none⟩) 1 fc)) (c2 : w.cell? ⟨kb, 1, none⟩ = some (.slice none 0 0)) (c3 : w.cell? ⟨kb, 3, none⟩ = some (.slice none 0 0))
   (hQ : ∀ c a (d : Nat) v w, Q (.panic c) (a.put (some d) v) w → Q (.panic c) a w)
   (hK : ∀ b5 b6 b7, (b5 = w.heap.size ∨ b5 = w.heap.size + 1 ∨ b5 = w.heap.size + 2) → (b6 = w.heap.size ∨ b6 = w.heap.size + 1 ∨ b6 = w.heap.size + 2) → (b7 = w.heap.size ∨ b7 = w.heap.size + 1 ∨ b7 = w.heap.size + 2) → b5 ≠ b6 → b5 ≠ b7 → b6 ≠ b7 →
     Q .normal (((((((((((((((((((a.put (some 12) (.pointer (some ⟨kb, 0, none⟩))).put (some 13) (.pointer (some ⟨kb, 0, none⟩))).put (some 14) (.pointer (some ⟨kb, 0, none⟩))).put (some 15) (.slice (some ⟨fb, 0, none⟩) 1 fc)).put (some 16) (.int .i64 1)).put (some 17) (.pointer (some ⟨kb, 0, none⟩))).put (some 18) (.pointer (some ⟨kb, 0, none⟩))).put (some 19) (.pointer (some ⟨kb, 1, none⟩))).put (some 20) (.slice none 0 0)).put (some 21) (.int .i64 0)).put (some 22) (.pointer (some ⟨kb, 0, none⟩))).put (some 23) (.pointer (some ⟨kb, 0, none⟩))).put (some 24) (.pointer (some ⟨kb, 3, none⟩))).put (some 25) (.slice none 0 0)).put (some 26) (.int .i64 0)).put (some 5) (.pointer (some ⟨b5, 0, none⟩))).put (some 6) (.pointer (some ⟨b6, 0, none⟩))).put (some 7) (.pointer (some ⟨b7, 0, none⟩)))) ((((((w.drew.alloc (.cells #[.int .i64 0] 3)).alloc (.cells #[.int .i64 0] 3)).alloc (.cells #[.int .i64 0] 3)).setCell ⟨b5, 0, none⟩ (.int .i64 1)).setCell ⟨b6, 0, none⟩ (.int .i64 0)).setCell ⟨b7, 0, none⟩ (.int .i64 0))) :
   (Code.region 1 ops1 true).wp Tryz.prog Q a w := by
 have hS : Region.noSelect ops1 = true := by kernel_rfl
 refine wp_region_held (S := fun w' => w'.cell? ⟨pp, 0, none⟩ = some (.pointer (some ⟨kb, 0, none⟩)) ∧ w'.cell? ⟨kb, 0, none⟩ = some (.slice (some ⟨fb, 0, none⟩) 1 fc) ∧ w'.cell? ⟨kb, 1, none⟩ = some (.slice none 0 0) ∧ w'.cell? ⟨kb, 3, none⟩ = some (.slice none 0 0)) (by kernel_rfl) ?_
 change wpAnyH _ _ _ _ _ 21 (Array.replicate 21 false) _ w.drew
 have hW : w.drew.cell? ⟨pp, 0, none⟩ = some (.pointer (some ⟨kb, 0, none⟩)) ∧ w.drew.cell? ⟨kb, 0, none⟩ = some (.slice (some ⟨fb, 0, none⟩) 1 fc) ∧ w.drew.cell? ⟨kb, 1, none⟩ = some (.slice none 0 0) ∧ w.drew.cell? ⟨kb, 3, none⟩ = some (.slice none 0 0) := ⟨c0, c1, c2, c3⟩
 refine takeD (i := 0) (v := .pointer (some ⟨kb, 0, none⟩)) i1_0 d1_0 g1_0 hS (by kernel_rfl) (by kernel_rfl) (fun c a w => hQ c a _ _ w) (fun w' hw' => ?_) hW ?_
 · obtain ⟨q0, q1, q2, q3⟩ := hw'
   have e5 : (a : Act).eval (.tmp 2) = .pointer (some ⟨pp, 0, none⟩) := by simp only [ev_ne, ev_same, sz_put, hsz, h2, ne_eq, reduceCtorEq, not_false_eq_true, Nat.reduceEqDiff, Nat.reduceLT]
   rw [e1_0]; simp only [execOp, e5]
   go_simp
 refine takeD (i := 1) (v := .pointer (some ⟨kb, 0, none⟩)) i1_1 d1_1 g1_1 hS (by kernel_rfl) (by kernel_rfl) (fun c a w => hQ c a _ _ w) (fun w' hw' => ?_) hW ?_
 · obtain ⟨q0, q1, q2, q3⟩ := hw'
   have e5 : ((a.put (some 12) (.pointer (some ⟨kb, 0, none⟩))) : Act).eval (.tmp 12) = .pointer (some ⟨kb, 0, none⟩) := by simp only [ev_ne, ev_same, sz_put, hsz, h2, ne_eq, reduceCtorEq, not_false_eq_true, Nat.reduceEqDiff, Nat.reduceLT]
   rw [e1_1]; simp only [execOp, e5]
   go_simp
 refine takeD (i := 2) (v := .pointer (some ⟨kb, 0, none⟩)) i1_2 d1_2 g1_2 hS (by kernel_rfl) (by kernel_rfl) (fun c a w => hQ c a _ _ w) (fun w' hw' => ?_) hW ?_
 · obtain ⟨q0, q1, q2, q3⟩ := hw'
   have e5 : (((a.put (some 12) (.pointer (some ⟨kb, 0, none⟩))).put (some 13) (.pointer (some ⟨kb, 0, none⟩))) : Act).eval (.tmp 13) = .pointer (some ⟨kb, 0, none⟩) := by simp only [ev_ne, ev_same, sz_put, hsz, h2, ne_eq, reduceCtorEq, not_false_eq_true, Nat.reduceEqDiff, Nat.reduceLT]
   rw [e1_2]; simp only [execOp, e5]
   go_simp
 refine takeD (i := 3) (v := .slice (some ⟨fb, 0, none⟩) 1 fc) i1_3 d1_3 g1_3 hS (by kernel_rfl) (by kernel_rfl) (fun c a w => hQ c a _ _ w) (fun w' hw' => ?_) hW ?_
 · obtain ⟨q0, q1, q2, q3⟩ := hw'
   have e5 : ((((a.put (some 12) (.pointer (some ⟨kb, 0, none⟩))).put (some 13) (.pointer (some ⟨kb, 0, none⟩))).put (some 14) (.pointer (some ⟨kb, 0, none⟩))) : Act).eval (.tmp 14) = .pointer (some ⟨kb, 0, none⟩) := by simp only [ev_ne, ev_same, sz_put, hsz, h2, ne_eq, reduceCtorEq, not_false_eq_true, Nat.reduceEqDiff, Nat.reduceLT]
   rw [e1_3]; simp only [execOp, e5]
   go_simp
 refine takeD (i := 4) (v := .int .i64 1) i1_4 d1_4 g1_4 hS (by kernel_rfl) (by kernel_rfl) (fun c a w => hQ c a _ _ w) (fun w' hw' => ?_) hW ?_
 · obtain ⟨q0, q1, q2, q3⟩ := hw'
   have e5 : (((((a.put (some 12) (.pointer (some ⟨kb, 0, none⟩))).put (some 13) (.pointer (some ⟨kb, 0, none⟩))).put (some 14) (.pointer (some ⟨kb, 0, none⟩))).put (some 15) (.slice (some ⟨fb, 0, none⟩) 1 fc)) : Act).eval (.tmp 15) = .slice (some ⟨fb, 0, none⟩) 1 fc := by simp only [ev_ne, ev_same, sz_put, hsz, h2, ne_eq, reduceCtorEq, not_false_eq_true, Nat.reduceEqDiff, Nat.reduceLT]
   rw [e1_4]; simp only [execOp, e5]
   go_simp
 refine takeD (i := 5) (v := .pointer (some ⟨kb, 0, none⟩)) i1_5 d1_5 g1_5 hS (by kernel_rfl) (by kernel_rfl) (fun c a w => hQ c a _ _ w) (fun w' hw' => ?_) hW ?_
 · obtain ⟨q0, q1, q2, q3⟩ := hw'
   have e5 : ((((((a.put (some 12) (.pointer (some ⟨kb, 0, none⟩))).put (some 13) (.pointer (some ⟨kb, 0, none⟩))).put (some 14) (.pointer (some ⟨kb, 0, none⟩))).put (some 15) (.slice (some ⟨fb, 0, none⟩) 1 fc)).put (some 16) (.int .i64 1)) : Act).eval (.tmp 2) = .pointer (some ⟨pp, 0, none⟩) := by simp only [ev_ne, ev_same, sz_put, hsz, h2, ne_eq, reduceCtorEq, not_false_eq_true, Nat.reduceEqDiff, Nat.reduceLT]
   rw [e1_5]; simp only [execOp, e5]
   go_simp
 refine takeD (i := 6) (v := .pointer (some ⟨kb, 0, none⟩)) i1_6 d1_6 g1_6 hS (by kernel_rfl) (by kernel_rfl) (fun c a w => hQ c a _ _ w) (fun w' hw' => ?_) hW ?_
 · obtain ⟨q0, q1, q2, q3⟩ := hw'
   have e5 : (((((((a.put (some 12) (.pointer (some ⟨kb, 0, none⟩))).put (some 13) (.pointer (some ⟨kb, 0, none⟩))).put (some 14) (.pointer (some ⟨kb, 0, none⟩))).put (some 15) (.slice (some ⟨fb, 0, none⟩) 1 fc)).put (some 16) (.int .i64 1)).put (some 17) (.pointer (some ⟨kb, 0, none⟩))) : Act).eval (.tmp 17) = .pointer (some ⟨kb, 0, none⟩) := by simp only [ev_ne, ev_same, sz_put, hsz, h2, ne_eq, reduceCtorEq, not_false_eq_true, Nat.reduceEqDiff, Nat.reduceLT]
   rw [e1_6]; simp only [execOp, e5]
   go_simp
 refine takeD (i := 7) (v := .pointer (some ⟨kb, 1, none⟩)) i1_7 d1_7 g1_7 hS (by kernel_rfl) (by kernel_rfl) (fun c a w => hQ c a _ _ w) (fun w' hw' => ?_) hW ?_
 · obtain ⟨q0, q1, q2, q3⟩ := hw'
   have e5 : ((((((((a.put (some 12) (.pointer (some ⟨kb, 0, none⟩))).put (some 13) (.pointer (some ⟨kb, 0, none⟩))).put (some 14) (.pointer (some ⟨kb, 0, none⟩))).put (some 15) (.slice (some ⟨fb, 0, none⟩) 1 fc)).put (some 16) (.int .i64 1)).put (some 17) (.pointer (some ⟨kb, 0, none⟩))).put (some 18) (.pointer (some ⟨kb, 0, none⟩))) : Act).eval (.tmp 18) = .pointer (some ⟨kb, 0, none⟩) := by simp only [ev_ne, ev_same, sz_put, hsz, h2, ne_eq, reduceCtorEq, not_false_eq_true, Nat.reduceEqDiff, Nat.reduceLT]
   rw [e1_7]; simp only [execOp, e5]
   go_simp
 refine takeD (i := 8) (v := .slice none 0 0) i1_8 d1_8 g1_8 hS (by kernel_rfl) (by kernel_rfl) (fun c a w => hQ c a _ _ w) (fun w' hw' => ?_) hW ?_
 · obtain ⟨q0, q1, q2, q3⟩ := hw'
   have e5 : (((((((((a.put (some 12) (.pointer (some ⟨kb, 0, none⟩))).put (some 13) (.pointer (some ⟨kb, 0, none⟩))).put (some 14) (.pointer (some ⟨kb, 0, none⟩))).put (some 15) (.slice (some ⟨fb, 0, none⟩) 1 fc)).put (some 16) (.int .i64 1)).put (some 17) (.pointer (some ⟨kb, 0, none⟩))).put (some 18) (.pointer (some ⟨kb, 0, none⟩))).put (some 19) (.pointer (some ⟨kb, 1, none⟩))) : Act).eval (.tmp 19) = .pointer (some ⟨kb, 1, none⟩) := by simp only [ev_ne, ev_same, sz_put, hsz, h2, ne_eq, reduceCtorEq, not_false_eq_true, Nat.reduceEqDiff, Nat.reduceLT]
   rw [e1_8]; simp only [execOp, e5]
   go_simp
 refine takeD (i := 9) (v := .int .i64 0) i1_9 d1_9 g1_9 hS (by kernel_rfl) (by kernel_rfl) (fun c a w => hQ c a _ _ w) (fun w' hw' => ?_) hW ?_
 · obtain ⟨q0, q1, q2, q3⟩ := hw'
   have e5 : ((((((((((a.put (some 12) (.pointer (some ⟨kb, 0, none⟩))).put (some 13) (.pointer (some ⟨kb, 0, none⟩))).put (some 14) (.pointer (some ⟨kb, 0, none⟩))).put (some 15) (.slice (some ⟨fb, 0, none⟩) 1 fc)).put (some 16) (.int .i64 1)).put (some 17) (.pointer (some ⟨kb, 0, none⟩))).put (some 18) (.pointer (some ⟨kb, 0, none⟩))).put (some 19) (.pointer (some ⟨kb, 1, none⟩))).put (some 20) (.slice none 0 0)) : Act).eval (.tmp 20) = .slice none 0 0 := by simp only [ev_ne, ev_same, sz_put, hsz, h2, ne_eq, reduceCtorEq, not_false_eq_true, Nat.reduceEqDiff, Nat.reduceLT]
   rw [e1_9]; simp only [execOp, e5]
   go_simp
 refine takeD (i := 10) (v := .pointer (some ⟨kb, 0, none⟩)) i1_10 d1_10 g1_10 hS (by kernel_rfl) (by kernel_rfl) (fun c a w => hQ c a _ _ w) (fun w' hw' => ?_) hW ?_
 · obtain ⟨q0, q1, q2, q3⟩ := hw'
   have e5 : (((((((((((a.put (some 12) (.pointer (some ⟨kb, 0, none⟩))).put (some 13) (.pointer (some ⟨kb, 0, none⟩))).put (some 14) (.pointer (some ⟨kb, 0, none⟩))).put (some 15) (.slice (some ⟨fb, 0, none⟩) 1 fc)).put (some 16) (.int .i64 1)).put (some 17) (.pointer (some ⟨kb, 0, none⟩))).put (some 18) (.pointer (some ⟨kb, 0, none⟩))).put (some 19) (.pointer (some ⟨kb, 1, none⟩))).put (some 20) (.slice none 0 0)).put (some 21) (.int .i64 0)) : Act).eval (.tmp 2) = .pointer (some ⟨pp, 0, none⟩) := by simp only [ev_ne, ev_same, sz_put, hsz, h2, ne_eq, reduceCtorEq, not_false_eq_true, Nat.reduceEqDiff, Nat.reduceLT]
   rw [e1_10]; simp only [execOp, e5]
   go_simp
 refine takeD (i := 11) (v := .pointer (some ⟨kb, 0, none⟩)) i1_11 d1_11 g1_11 hS (by kernel_rfl) (by kernel_rfl) (fun c a w => hQ c a _ _ w) (fun w' hw' => ?_) hW ?_
 · obtain ⟨q0, q1, q2, q3⟩ := hw'
   have e5 : ((((((((((((a.put (some 12) (.pointer (some ⟨kb, 0, none⟩))).put (some 13) (.pointer (some ⟨kb, 0, none⟩))).put (some 14) (.pointer (some ⟨kb, 0, none⟩))).put (some 15) (.slice (some ⟨fb, 0, none⟩) 1 fc)).put (some 16) (.int .i64 1)).put (some 17) (.pointer (some ⟨kb, 0, none⟩))).put (some 18) (.pointer (some ⟨kb, 0, none⟩))).put (some 19) (.pointer (some ⟨kb, 1, none⟩))).put (some 20) (.slice none 0 0)).put (some 21) (.int .i64 0)).put (some 22) (.pointer (some ⟨kb, 0, none⟩))) : Act).eval (.tmp 22) = .pointer (some ⟨kb, 0, none⟩) := by simp only [ev_ne, ev_same, sz_put, hsz, h2, ne_eq, reduceCtorEq, not_false_eq_true, Nat.reduceEqDiff, Nat.reduceLT]
   rw [e1_11]; simp only [execOp, e5]
   go_simp
 refine takeD (i := 12) (v := .pointer (some ⟨kb, 3, none⟩)) i1_12 d1_12 g1_12 hS (by kernel_rfl) (by kernel_rfl) (fun c a w => hQ c a _ _ w) (fun w' hw' => ?_) hW ?_
 · obtain ⟨q0, q1, q2, q3⟩ := hw'
   have e5 : (((((((((((((a.put (some 12) (.pointer (some ⟨kb, 0, none⟩))).put (some 13) (.pointer (some ⟨kb, 0, none⟩))).put (some 14) (.pointer (some ⟨kb, 0, none⟩))).put (some 15) (.slice (some ⟨fb, 0, none⟩) 1 fc)).put (some 16) (.int .i64 1)).put (some 17) (.pointer (some ⟨kb, 0, none⟩))).put (some 18) (.pointer (some ⟨kb, 0, none⟩))).put (some 19) (.pointer (some ⟨kb, 1, none⟩))).put (some 20) (.slice none 0 0)).put (some 21) (.int .i64 0)).put (some 22) (.pointer (some ⟨kb, 0, none⟩))).put (some 23) (.pointer (some ⟨kb, 0, none⟩))) : Act).eval (.tmp 23) = .pointer (some ⟨kb, 0, none⟩) := by simp only [ev_ne, ev_same, sz_put, hsz, h2, ne_eq, reduceCtorEq, not_false_eq_true, Nat.reduceEqDiff, Nat.reduceLT]
   rw [e1_12]; simp only [execOp, e5]
   go_simp
 refine takeD (i := 13) (v := .slice none 0 0) i1_13 d1_13 g1_13 hS (by kernel_rfl) (by kernel_rfl) (fun c a w => hQ c a _ _ w) (fun w' hw' => ?_) hW ?_
 · obtain ⟨q0, q1, q2, q3⟩ := hw'
   have e5 : ((((((((((((((a.put (some 12) (.pointer (some ⟨kb, 0, none⟩))).put (some 13) (.pointer (some ⟨kb, 0, none⟩))).put (some 14) (.pointer (some ⟨kb, 0, none⟩))).put (some 15) (.slice (some ⟨fb, 0, none⟩) 1 fc)).put (some 16) (.int .i64 1)).put (some 17) (.pointer (some ⟨kb, 0, none⟩))).put (some 18) (.pointer (some ⟨kb, 0, none⟩))).put (some 19) (.pointer (some ⟨kb, 1, none⟩))).put (some 20) (.slice none 0 0)).put (some 21) (.int .i64 0)).put (some 22) (.pointer (some ⟨kb, 0, none⟩))).put (some 23) (.pointer (some ⟨kb, 0, none⟩))).put (some 24) (.pointer (some ⟨kb, 3, none⟩))) : Act).eval (.tmp 24) = .pointer (some ⟨kb, 3, none⟩) := by simp only [ev_ne, ev_same, sz_put, hsz, h2, ne_eq, reduceCtorEq, not_false_eq_true, Nat.reduceEqDiff, Nat.reduceLT]
   rw [e1_13]; simp only [execOp, e5]
   go_simp
 refine takeD (i := 14) (v := .int .i64 0) i1_14 d1_14 g1_14 hS (by kernel_rfl) (by kernel_rfl) (fun c a w => hQ c a _ _ w) (fun w' hw' => ?_) hW ?_
 · obtain ⟨q0, q1, q2, q3⟩ := hw'
   have e5 : (((((((((((((((a.put (some 12) (.pointer (some ⟨kb, 0, none⟩))).put (some 13) (.pointer (some ⟨kb, 0, none⟩))).put (some 14) (.pointer (some ⟨kb, 0, none⟩))).put (some 15) (.slice (some ⟨fb, 0, none⟩) 1 fc)).put (some 16) (.int .i64 1)).put (some 17) (.pointer (some ⟨kb, 0, none⟩))).put (some 18) (.pointer (some ⟨kb, 0, none⟩))).put (some 19) (.pointer (some ⟨kb, 1, none⟩))).put (some 20) (.slice none 0 0)).put (some 21) (.int .i64 0)).put (some 22) (.pointer (some ⟨kb, 0, none⟩))).put (some 23) (.pointer (some ⟨kb, 0, none⟩))).put (some 24) (.pointer (some ⟨kb, 3, none⟩))).put (some 25) (.slice none 0 0)) : Act).eval (.tmp 25) = .slice none 0 0 := by simp only [ev_ne, ev_same, sz_put, hsz, h2, ne_eq, reduceCtorEq, not_false_eq_true, Nat.reduceEqDiff, Nat.reduceLT]
   rw [e1_14]; simp only [execOp, e5]
   go_simp
 obtain ⟨aR, haR⟩ : ∃ aR, aR = (((((((((((((((a.put (some 12) (.pointer (some ⟨kb, 0, none⟩))).put (some 13) (.pointer (some ⟨kb, 0, none⟩))).put (some 14) (.pointer (some ⟨kb, 0, none⟩))).put (some 15) (.slice (some ⟨fb, 0, none⟩) 1 fc)).put (some 16) (.int .i64 1)).put (some 17) (.pointer (some ⟨kb, 0, none⟩))).put (some 18) (.pointer (some ⟨kb, 0, none⟩))).put (some 19) (.pointer (some ⟨kb, 1, none⟩))).put (some 20) (.slice none 0 0)).put (some 21) (.int .i64 0)).put (some 22) (.pointer (some ⟨kb, 0, none⟩))).put (some 23) (.pointer (some ⟨kb, 0, none⟩))).put (some 24) (.pointer (some ⟨kb, 3, none⟩))).put (some 25) (.slice none 0 0)).put (some 26) (.int .i64 0)) := ⟨_, rfl⟩
 have f16 : aR.eval (.tmp 16) = .int .i64 1 := by rw [haR]; simp only [ev_ne, ev_same, sz_put, hsz, h2, ne_eq, reduceCtorEq, not_false_eq_true, Nat.reduceEqDiff, Nat.reduceLT]
 have f21 : aR.eval (.tmp 21) = .int .i64 0 := by rw [haR]; simp only [ev_ne, ev_same, sz_put, hsz, h2, ne_eq, reduceCtorEq, not_false_eq_true, Nat.reduceEqDiff, Nat.reduceLT]
 have f26 : aR.eval (.tmp 26) = .int .i64 0 := by rw [haR]; simp only [ev_ne, ev_same, sz_put, hsz, h2, ne_eq, reduceCtorEq, not_false_eq_true, Nat.reduceEqDiff, Nat.reduceLT]
 have hsR : aR.tmps.size = 143 := by rw [haR]; simp only [sz_put, hsz]
 rw [← haR] at hK ⊢
 clear haR
 have lt : ∀ {b o v}, w.cell? ⟨b, o, none⟩ = some v → b < w.heap.size := fun {b o v} h => by
   unfold World.cell? at h
   rcases Nat.lt_or_ge b w.heap.size with hb | hb
   · exact hb
   · rw [Array.getElem?_eq_none hb] at h; cases h
 have hp := lt c0
 have hk := lt c1
 have run : ∀ (i : Nat) (a' : Act) (w' : World), (∀ ρ : Operand → Value, execOp ρ (o1 i) = execOp ρ ⟨none, .alloc 3, 0, "", #[], none⟩) → (execOp a'.eval (o1 i)).run Tryz.prog w' = .ok (.value (.pointer (some ⟨w'.heap.size, 0, none⟩))) (w'.alloc (.cells #[.int .i64 0] 3)) := fun i a' w' h => by
   rw [h]; simp only [execOp]
   go_simp
 have hSa : ∀ w' : World, (w'.cell? ⟨pp, 0, none⟩ = some (.pointer (some ⟨kb, 0, none⟩)) ∧ w'.cell? ⟨kb, 0, none⟩ = some (.slice (some ⟨fb, 0, none⟩) 1 fc) ∧ w'.cell? ⟨kb, 1, none⟩ = some (.slice none 0 0) ∧ w'.cell? ⟨kb, 3, none⟩ = some (.slice none 0 0)) → ∀ o : Obj, ((w'.alloc o).cell? ⟨pp, 0, none⟩ = some (.pointer (some ⟨kb, 0, none⟩)) ∧ (w'.alloc o).cell? ⟨kb, 0, none⟩ = some (.slice (some ⟨fb, 0, none⟩) 1 fc) ∧ (w'.alloc o).cell? ⟨kb, 1, none⟩ = some (.slice none 0 0) ∧ (w'.alloc o).cell? ⟨kb, 3, none⟩ = some (.slice none 0 0)) := fun w' ⟨x0, x1, x2, x3⟩ o => ⟨Lib.cell?_alloc_some _ x0, Lib.cell?_alloc_some _ x1, Lib.cell?_alloc_some _ x2, Lib.cell?_alloc_some _ x3⟩
 have hSs : ∀ (w' : World) (b : Nat) (v : Value), b ≠ pp → b ≠ kb → (w'.cell? ⟨pp, 0, none⟩ = some (.pointer (some ⟨kb, 0, none⟩)) ∧ w'.cell? ⟨kb, 0, none⟩ = some (.slice (some ⟨fb, 0, none⟩) 1 fc) ∧ w'.cell? ⟨kb, 1, none⟩ = some (.slice none 0 0) ∧ w'.cell? ⟨kb, 3, none⟩ = some (.slice none 0 0)) → ((w'.setCell ⟨b, 0, none⟩ v).cell? ⟨pp, 0, none⟩ = some (.pointer (some ⟨kb, 0, none⟩)) ∧ (w'.setCell ⟨b, 0, none⟩ v).cell? ⟨kb, 0, none⟩ = some (.slice (some ⟨fb, 0, none⟩) 1 fc) ∧ (w'.setCell ⟨b, 0, none⟩ v).cell? ⟨kb, 1, none⟩ = some (.slice none 0 0) ∧ (w'.setCell ⟨b, 0, none⟩ v).cell? ⟨kb, 3, none⟩ = some (.slice none 0 0)) := fun w' b v h1 h2 ⟨x0, x1, x2, x3⟩ => by
   refine ⟨?_, ?_, ?_, ?_⟩
   · exact (setc_ne (by omega)).trans x0
   · exact (setc_ne (by omega)).trans x1
   · exact (setc_ne (by omega)).trans x2
   · exact (setc_ne (by omega)).trans x3
 have hW1 := hSa _ hW (.cells #[.int .i64 0] 3)
 have hW2 := hSa _ hW1 (.cells #[.int .i64 0] 3)
 have hW3 := hSa _ hW2 (.cells #[.int .i64 0] 3)
 have hsz0 : w.drew.heap.size = w.heap.size := rfl
 have hend : ∀ b5 b6 b7, (b5 = w.heap.size ∨ b5 = w.heap.size + 1 ∨ b5 = w.heap.size + 2) → (b6 = w.heap.size ∨ b6 = w.heap.size + 1 ∨ b6 = w.heap.size + 2) → (b7 = w.heap.size ∨ b7 = w.heap.size + 1 ∨ b7 = w.heap.size + 2) → b5 ≠ b6 → b5 ≠ b7 → b6 ≠ b7 →
     ∀ listed : Array Bool, Region.ready .any ops1 listed = [18] → Region.ready .any ops1 (listed.setIfInBounds 18 true) = [19] → Region.ready .any ops1 ((listed.setIfInBounds 18 true).setIfInBounds 19 true) = [20] → Region.ready .any ops1 (((listed.setIfInBounds 18 true).setIfInBounds 19 true).setIfInBounds 20 true) = [] →
     wpAnyH Tryz.prog .any ops1 Q (fun w' => w'.cell? ⟨pp, 0, none⟩ = some (.pointer (some ⟨kb, 0, none⟩)) ∧ w'.cell? ⟨kb, 0, none⟩ = some (.slice (some ⟨fb, 0, none⟩) 1 fc) ∧ w'.cell? ⟨kb, 1, none⟩ = some (.slice none 0 0) ∧ w'.cell? ⟨kb, 3, none⟩ = some (.slice none 0 0)) 3 listed
       (((aR.put (some 5) (.pointer (some ⟨b5, 0, none⟩))).put (some 6) (.pointer (some ⟨b6, 0, none⟩))).put (some 7) (.pointer (some ⟨b7, 0, none⟩))) (((w.drew.alloc (.cells #[.int .i64 0] 3)).alloc (.cells #[.int .i64 0] 3)).alloc (.cells #[.int .i64 0] 3)) := by
   intro b5 b6 b7 h5 h6 h7 n56 n57 n67 listed r0 r1 r2 r3
   obtain ⟨W3, hW3e⟩ : ∃ W3, W3 = ((w.drew.alloc (.cells #[.int .i64 0] 3)).alloc (.cells #[.int .i64 0] 3)).alloc (.cells #[.int .i64 0] 3) := ⟨_, rfl⟩
   have cW : ∀ b, (b = w.heap.size ∨ b = w.heap.size + 1 ∨ b = w.heap.size + 2) → W3.cell? ⟨b, 0, none⟩ = some (.int .i64 0) := fun b hb => by
     rw [hW3e]
     rcases hb with rfl | rfl | rfl
     · exact Lib.cell?_alloc_some _ (Lib.cell?_alloc_some _ (World.cell?_alloc_at (w := w.drew) #[.int .i64 0] 3 w.heap.size 0 rfl))
     · exact Lib.cell?_alloc_some _ (World.cell?_alloc_at (w := w.drew.alloc (.cells #[.int .i64 0] 3)) #[.int .i64 0] 3 (w.heap.size + 1) 0 (by simp))
     · exact World.cell?_alloc_at (w := (w.drew.alloc (.cells #[.int .i64 0] 3)).alloc (.cells #[.int .i64 0] 3)) #[.int .i64 0] 3 (w.heap.size + 2) 0 (by simp)
   have fW : ∀ b, (b = w.heap.size ∨ b = w.heap.size + 1 ∨ b = w.heap.size + 2) → W3.frozen? ⟨b, 0, none⟩ = false := fun b hb => by
     rw [hW3e]
     rcases hb with rfl | rfl | rfl
     · rw [World.frozen?_alloc_past (hn := by simp; omega), World.frozen?_alloc_past (hn := by simp)]
       exact World.frozen?_alloc_at (w := w.drew) _ _ _ _ rfl
     · rw [World.frozen?_alloc_past (hn := by simp)]
       exact World.frozen?_alloc_at (w := w.drew.alloc (.cells #[.int .i64 0] 3)) _ _ _ _ (by simp)
     · exact World.frozen?_alloc_at (w := (w.drew.alloc (.cells #[.int .i64 0] 3)).alloc (.cells #[.int .i64 0] 3)) _ _ _ _ (by simp)
   rw [← hW3e] at hW3 ⊢
   have q5 : b5 ≠ pp ∧ b5 ≠ kb := by omega
   have q6 : b6 ≠ pp ∧ b6 ≠ kb := by omega
   have q7 : b7 ≠ pp ∧ b7 ≠ kb := by omega
   have k5 := cW b5 h5
   have k6 := cW b6 h6
   have k7 := cW b7 h7
   have hS5 := hSs W3 b5 (.int .i64 1) q5.1 q5.2 hW3
   have hS6 := hSs _ b6 (.int .i64 0) q6.1 q6.2 hS5
   have hS7 := hSs _ b7 (.int .i64 0) q7.1 q7.2 hS6
   have k6' : (W3.setCell ⟨b5, 0, none⟩ (.int .i64 1)).cell? ⟨b6, 0, none⟩ = some (.int .i64 0) := (setc_ne (by omega)).trans k6
   have k7' : ((W3.setCell ⟨b5, 0, none⟩ (.int .i64 1)).setCell ⟨b6, 0, none⟩ (.int .i64 0)).cell? ⟨b7, 0, none⟩ = some (.int .i64 0) := (setc_ne (by omega)).trans ((setc_ne (by omega)).trans k7)
   have pn : ∀ (x : Act) (v : Value), x.put none v = x := fun _ _ => rfl
   refine heldSkip (i := 18) r0 i1_18 d1_18 g1_18 ?_ hS5 ?_
   · rw [e1_18]; exact storeRun (by simp only [ev_ne, ev_same, sz_put, hsR, f16, f21, f26, ne_eq, reduceCtorEq, not_false_eq_true, Nat.reduceEqDiff, Nat.reduceLT]) (by simp only [ev_ne, ev_same, sz_put, hsR, f16, f21, f26, ne_eq, reduceCtorEq, not_false_eq_true, Nat.reduceEqDiff, Nat.reduceLT]) k5 ⟨_, rfl⟩ (fW _ h5)
   refine heldSkip (i := 19) r1 i1_19 d1_19 g1_19 ?_ hS6 ?_
   · rw [e1_19]; exact storeRun (by rw [pn]; simp only [ev_ne, ev_same, sz_put, hsR, f16, f21, f26, ne_eq, reduceCtorEq, not_false_eq_true, Nat.reduceEqDiff, Nat.reduceLT]) (by rw [pn]; simp only [ev_ne, ev_same, sz_put, hsR, f16, f21, f26, ne_eq, reduceCtorEq, not_false_eq_true, Nat.reduceEqDiff, Nat.reduceLT]) k6' ⟨_, rfl⟩ (by rw [World.frozen?_setCell]; exact fW _ h6)
   refine heldSkip (i := 20) r2 i1_20 d1_20 g1_20 ?_ hS7 ?_
   · rw [e1_20]; exact storeRun (by rw [pn, pn]; simp only [ev_ne, ev_same, sz_put, hsR, f16, f21, f26, ne_eq, reduceCtorEq, not_false_eq_true, Nat.reduceEqDiff, Nat.reduceLT]) (by rw [pn, pn]; simp only [ev_ne, ev_same, sz_put, hsR, f16, f21, f26, ne_eq, reduceCtorEq, not_false_eq_true, Nat.reduceEqDiff, Nat.reduceLT]) k7' ⟨_, rfl⟩ (by rw [World.frozen?_setCell, World.frozen?_setCell]; exact fW _ h7)
   refine wpAnyH_done r3 ?_ _
   have := hK b5 b6 b7 h5 h6 h7 n56 n57 n67
   rw [← hW3e] at this
   exact this
 have pc : ∀ (x : Act) (i j : Nat) (u v : Value), i ≠ j → (x.put (some i) u).put (some j) v = (x.put (some j) v).put (some i) u := fun x i j u v h => Act.put_comm x u v (by intro d hd e; exact h (Option.some.inj (hd.trans e.symm)))
 have s1 : (w.drew.alloc (.cells #[.int .i64 0] 3)).heap.size = w.heap.size + 1 := by simp
 have s2 : ((w.drew.alloc (.cells #[.int .i64 0] 3)).alloc (.cells #[.int .i64 0] 3)).heap.size = w.heap.size + 2 := by simp
 have run1 : ∀ (i : Nat) (a' : Act), (∀ ρ : Operand → Value, execOp ρ (o1 i) = execOp ρ ⟨none, .alloc 3, 0, "", #[], none⟩) → (execOp a'.eval (o1 i)).run Tryz.prog (w.drew.alloc (.cells #[.int .i64 0] 3)) = .ok (.value (.pointer (some ⟨w.heap.size + 1, 0, none⟩))) ((w.drew.alloc (.cells #[.int .i64 0] 3)).alloc (.cells #[.int .i64 0] 3)) := fun i a' h => by rw [run i a' _ h, s1]
 have run2 : ∀ (i : Nat) (a' : Act), (∀ ρ : Operand → Value, execOp ρ (o1 i) = execOp ρ ⟨none, .alloc 3, 0, "", #[], none⟩) → (execOp a'.eval (o1 i)).run Tryz.prog ((w.drew.alloc (.cells #[.int .i64 0] 3)).alloc (.cells #[.int .i64 0] 3)) = .ok (.value (.pointer (some ⟨w.heap.size + 2, 0, none⟩))) (((w.drew.alloc (.cells #[.int .i64 0] 3)).alloc (.cells #[.int .i64 0] 3)).alloc (.cells #[.int .i64 0] 3)) := fun i a' h => by rw [run i a' _ h, s2]
 have run0 : ∀ (i : Nat) (a' : Act), (∀ ρ : Operand → Value, execOp ρ (o1 i) = execOp ρ ⟨none, .alloc 3, 0, "", #[], none⟩) → (execOp a'.eval (o1 i)).run Tryz.prog w.drew = .ok (.value (.pointer (some ⟨w.heap.size, 0, none⟩))) (w.drew.alloc (.cells #[.int .i64 0] 3)) := fun i a' h => run i a' _ h
 refine heldThree (i := 15) (j := 16) (k := 17) (by kernel_rfl) i1_15 i1_16 i1_17 d1_15 d1_16 d1_17 g1_15 g1_16 g1_17 (run0 15 aR e1_15) (run0 16 aR e1_16) (run0 17 aR e1_17) hW1 hW1 hW1 ?_ ?_ ?_
 · refine heldTwo (i := 16) (j := 17) (by kernel_rfl) i1_16 i1_17 d1_16 d1_17 g1_16 g1_17 (run1 16 _ e1_16) (run1 17 _ e1_17) hW2 hW2 ?_ ?_
   · refine heldStep (i := 17) (by kernel_rfl) i1_17 d1_17 g1_17 (run2 17 _ e1_17) hW3 ?_
     exact hend _ _ _ (.inl rfl) (.inr (.inl rfl)) (.inr (.inr rfl)) (by omega) (by omega) (by omega) _ (by kernel_rfl) (by kernel_rfl) (by kernel_rfl) (by kernel_rfl)
   · refine heldStep (i := 16) (by kernel_rfl) i1_16 d1_16 g1_16 (run2 16 _ e1_16) hW3 ?_
     rw [pc _ 7 6 _ _ (by decide)]
     exact hend _ _ _ (.inl rfl) (.inr (.inr rfl)) (.inr (.inl rfl)) (by omega) (by omega) (by omega) _ (by kernel_rfl) (by kernel_rfl) (by kernel_rfl) (by kernel_rfl)
 · refine heldTwo (i := 15) (j := 17) (by kernel_rfl) i1_15 i1_17 d1_15 d1_17 g1_15 g1_17 (run1 15 _ e1_15) (run1 17 _ e1_17) hW2 hW2 ?_ ?_
   · refine heldStep (i := 17) (by kernel_rfl) i1_17 d1_17 g1_17 (run2 17 _ e1_17) hW3 ?_
     rw [pc _ 6 5 _ _ (by decide)]
     exact hend _ _ _ (.inr (.inl rfl)) (.inl rfl) (.inr (.inr rfl)) (by omega) (by omega) (by omega) _ (by kernel_rfl) (by kernel_rfl) (by kernel_rfl) (by kernel_rfl)
   · refine heldStep (i := 15) (by kernel_rfl) i1_15 d1_15 g1_15 (run2 15 _ e1_15) hW3 ?_
     rw [pc _ 7 5 _ _ (by decide), pc _ 6 5 _ _ (by decide)]
     exact hend _ _ _ (.inr (.inr rfl)) (.inl rfl) (.inr (.inl rfl)) (by omega) (by omega) (by omega) _ (by kernel_rfl) (by kernel_rfl) (by kernel_rfl) (by kernel_rfl)
 · refine heldTwo (i := 15) (j := 16) (by kernel_rfl) i1_15 i1_16 d1_15 d1_16 g1_15 g1_16 (run1 15 _ e1_15) (run1 16 _ e1_16) hW2 hW2 ?_ ?_
   · refine heldStep (i := 16) (by kernel_rfl) i1_16 d1_16 g1_16 (run2 16 _ e1_16) hW3 ?_
     rw [pc _ 7 5 _ _ (by decide), pc _ 7 6 _ _ (by decide)]
     exact hend _ _ _ (.inr (.inl rfl)) (.inr (.inr rfl)) (.inl rfl) (by omega) (by omega) (by omega) _ (by kernel_rfl) (by kernel_rfl) (by kernel_rfl) (by kernel_rfl)
   · refine heldStep (i := 15) (by kernel_rfl) i1_15 d1_15 g1_15 (run2 15 _ e1_15) hW3 ?_
     rw [pc _ 6 5 _ _ (by decide), pc _ 7 5 _ _ (by decide), pc _ 7 6 _ _ (by decide)]
     exact hend _ _ _ (.inr (.inr rfl)) (.inr (.inl rfl)) (.inl rfl) (by omega) (by omega) (by omega) _ (by kernel_rfl) (by kernel_rfl) (by kernel_rfl) (by kernel_rfl)
theorem Tryz.region1 {Q : Exit → Act → World → Prop} (a : Act) (w : World) (pp kb fb fc : Nat) (hsz : a.tmps.size = 143) (h2 : a.eval (.tmp 2) = .pointer (some ⟨pp, 0, none⟩))
   (c0 : w.cell? ⟨pp, 0, none⟩ = some (.pointer (some ⟨kb, 0, none⟩))) (c1 : w.cell? ⟨kb, 0, none⟩ = some (.slice (some ⟨fb, 0, none⟩) 1 fc)) (c2 : w.cell? ⟨kb, 1, none⟩ = some (.slice none 0 0)) (c3 : w.cell? ⟨kb, 3, none⟩ = some (.slice none 0 0))
   (hK : ∀ b5 b6 b7, (b5 = w.heap.size ∨ b5 = w.heap.size + 1 ∨ b5 = w.heap.size + 2) → (b6 = w.heap.size ∨ b6 = w.heap.size + 1 ∨ b6 = w.heap.size + 2) → (b7 = w.heap.size ∨ b7 = w.heap.size + 1 ∨ b7 = w.heap.size + 2) → b5 ≠ b6 → b5 ≠ b7 → b6 ≠ b7 →
     Q .normal (((((((((((((((((((a.put (some 12) (.pointer (some ⟨kb, 0, none⟩))).put (some 13) (.pointer (some ⟨kb, 0, none⟩))).put (some 14) (.pointer (some ⟨kb, 0, none⟩))).put (some 15) (.slice (some ⟨fb, 0, none⟩) 1 fc)).put (some 16) (.int .i64 1)).put (some 17) (.pointer (some ⟨kb, 0, none⟩))).put (some 18) (.pointer (some ⟨kb, 0, none⟩))).put (some 19) (.pointer (some ⟨kb, 1, none⟩))).put (some 20) (.slice none 0 0)).put (some 21) (.int .i64 0)).put (some 22) (.pointer (some ⟨kb, 0, none⟩))).put (some 23) (.pointer (some ⟨kb, 0, none⟩))).put (some 24) (.pointer (some ⟨kb, 3, none⟩))).put (some 25) (.slice none 0 0)).put (some 26) (.int .i64 0)).put (some 5) (.pointer (some ⟨b5, 0, none⟩))).put (some 6) (.pointer (some ⟨b6, 0, none⟩))).put (some 7) (.pointer (some ⟨b7, 0, none⟩)))) ((((((w.drew.alloc (.cells #[.int .i64 0] 3)).alloc (.cells #[.int .i64 0] 3)).alloc (.cells #[.int .i64 0] 3)).setCell ⟨b5, 0, none⟩ (.int .i64 1)).setCell ⟨b6, 0, none⟩ (.int .i64 0)).setCell ⟨b7, 0, none⟩ (.int .i64 0))) :
   (Code.region 1 ops1 true).wp Tryz.prog Q a w :=
 Code.wp_mono (Q := fun e a w => match e with | .normal => Q .normal a w | _ => False) (fun e a w h => by cases e <;> first | exact h | exact h.elim) (Tryz.region1q a w pp kb fb fc hsz h2 c0 c1 c2 c3 (fun c a d v w h => h) hK)
end Go.Proofs
