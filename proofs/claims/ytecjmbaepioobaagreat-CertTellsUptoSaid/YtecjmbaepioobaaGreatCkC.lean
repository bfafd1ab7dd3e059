import Derived.Test.YtecjmbaepioobaaGreatCkB
set_option linter.unusedSimpArgs false
set_option linter.unusedVariables false
namespace Go.Proofs
open Go.RowKit Go.ChangeShapes
set_option maxRecDepth 100000
noncomputable def ops48 : Array Oper := (regOps 0 (Tryz.f48.body.getD .skip)).headD #[]
noncomputable def o48 (i : Nat) : Oper := ops48.getD i ⟨none, .move (.const undef), 0, "", #[], none⟩
theorem d48_0 : (o48 0).dst = some 4 := by kernel_rfl
theorem g48_0 : (o48 0).guard = none := by kernel_rfl
theorem i48_0 : ops48[0]? = some (o48 0) := by kernel_rfl
theorem e48_0 (ρ : Operand → Value) : execOp ρ (o48 0) = execOp ρ ⟨none, .load 54 (.tmp 0), 54, "", #[], none⟩ := rfl
theorem d48_1 : (o48 1).dst = some 5 := by kernel_rfl
theorem g48_1 : (o48 1).guard = none := by kernel_rfl
theorem i48_1 : ops48[1]? = some (o48 1) := by kernel_rfl
theorem e48_1 (ρ : Operand → Value) : execOp ρ (o48 1) = execOp ρ ⟨none, .load 54 (.tmp 0), 54, "", #[], none⟩ := rfl
theorem d48_2 : (o48 2).dst = some 6 := by kernel_rfl
theorem g48_2 : (o48 2).guard = none := by kernel_rfl
theorem i48_2 : ops48[2]? = some (o48 2) := by kernel_rfl
theorem e48_2 (ρ : Operand → Value) : execOp ρ (o48 2) = execOp ρ ⟨none, .load 54 (.tmp 0), 54, "", #[], none⟩ := rfl
theorem d48_3 : (o48 3).dst = some 7 := by kernel_rfl
theorem g48_3 : (o48 3).guard = none := by kernel_rfl
theorem i48_3 : ops48[3]? = some (o48 3) := by kernel_rfl
theorem e48_3 (ρ : Operand → Value) : execOp ρ (o48 3) = execOp ρ ⟨none, .load 54 (.tmp 0), 54, "", #[], none⟩ := rfl
theorem d48_4 : (o48 4).dst = some 8 := by kernel_rfl
theorem g48_4 : (o48 4).guard = none := by kernel_rfl
theorem i48_4 : ops48[4]? = some (o48 4) := by kernel_rfl
theorem e48_4 (ρ : Operand → Value) : execOp ρ (o48 4) = execOp ρ ⟨none, .load 54 (.tmp 0), 54, "", #[], none⟩ := rfl
theorem d48_5 : (o48 5).dst = some 9 := by kernel_rfl
theorem g48_5 : (o48 5).guard = none := by kernel_rfl
theorem i48_5 : ops48[5]? = some (o48 5) := by kernel_rfl
theorem e48_5 (ρ : Operand → Value) : execOp ρ (o48 5) = execOp ρ ⟨none, .nilCheck (.tmp 8), 0, "", #[], none⟩ := rfl
theorem d48_6 : (o48 6).dst = some 10 := by kernel_rfl
theorem g48_6 : (o48 6).guard = none := by kernel_rfl
theorem i48_6 : ops48[6]? = some (o48 6) := by kernel_rfl
theorem e48_6 (ρ : Operand → Value) : execOp ρ (o48 6) = execOp ρ ⟨none, .fieldAddr 57 (.tmp 9) 0, 0, "", #[], none⟩ := rfl
theorem d48_7 : (o48 7).dst = some 11 := by kernel_rfl
theorem g48_7 : (o48 7).guard = none := by kernel_rfl
theorem i48_7 : ops48[7]? = some (o48 7) := by kernel_rfl
theorem e48_7 (ρ : Operand → Value) : execOp ρ (o48 7) = execOp ρ ⟨none, .load 22 (.tmp 10), 22, "", #[], none⟩ := rfl
theorem d48_8 : (o48 8).dst = some 12 := by kernel_rfl
theorem g48_8 : (o48 8).guard = none := by kernel_rfl
theorem i48_8 : ops48[8]? = some (o48 8) := by kernel_rfl
theorem e48_8 (ρ : Operand → Value) : execOp ρ (o48 8) = execOp ρ ⟨none, .load 3 (.tmp 1), 3, "", #[], none⟩ := rfl
theorem d48_9 : (o48 9).dst = some 13 := by kernel_rfl
theorem g48_9 : (o48 9).guard = none := by kernel_rfl
theorem i48_9 : ops48[9]? = some (o48 9) := by kernel_rfl
theorem e48_9 (ρ : Operand → Value) : execOp ρ (o48 9) = execOp ρ ⟨none, .slice 22 (.tmp 11) none (some (.tmp 12)) none, 22, "", #[], none⟩ := rfl
theorem d48_10 : (o48 10).dst = some 14 := by kernel_rfl
theorem g48_10 : (o48 10).guard = none := by kernel_rfl
theorem i48_10 : ops48[10]? = some (o48 10) := by kernel_rfl
theorem e48_10 (ρ : Operand → Value) : execOp ρ (o48 10) = execOp ρ ⟨none, .load 54 (.tmp 0), 54, "", #[], none⟩ := rfl
theorem d48_11 : (o48 11).dst = some 15 := by kernel_rfl
theorem g48_11 : (o48 11).guard = none := by kernel_rfl
theorem i48_11 : ops48[11]? = some (o48 11) := by kernel_rfl
theorem e48_11 (ρ : Operand → Value) : execOp ρ (o48 11) = execOp ρ ⟨none, .nilCheck (.tmp 14), 0, "", #[], none⟩ := rfl
theorem d48_12 : (o48 12).dst = some 16 := by kernel_rfl
theorem g48_12 : (o48 12).guard = none := by kernel_rfl
theorem i48_12 : ops48[12]? = some (o48 12) := by kernel_rfl
theorem e48_12 (ρ : Operand → Value) : execOp ρ (o48 12) = execOp ρ ⟨none, .fieldAddr 57 (.tmp 15) 1, 0, "", #[], none⟩ := rfl
theorem d48_13 : (o48 13).dst = some 17 := by kernel_rfl
theorem g48_13 : (o48 13).guard = none := by kernel_rfl
theorem i48_13 : ops48[13]? = some (o48 13) := by kernel_rfl
theorem e48_13 (ρ : Operand → Value) : execOp ρ (o48 13) = execOp ρ ⟨none, .load 22 (.tmp 16), 22, "", #[], none⟩ := rfl
theorem d48_14 : (o48 14).dst = some 18 := by kernel_rfl
theorem g48_14 : (o48 14).guard = none := by kernel_rfl
theorem i48_14 : ops48[14]? = some (o48 14) := by kernel_rfl
theorem e48_14 (ρ : Operand → Value) : execOp ρ (o48 14) = execOp ρ ⟨none, .load 3 (.tmp 2), 3, "", #[], none⟩ := rfl
theorem d48_15 : (o48 15).dst = some 19 := by kernel_rfl
theorem g48_15 : (o48 15).guard = none := by kernel_rfl
theorem i48_15 : ops48[15]? = some (o48 15) := by kernel_rfl
theorem e48_15 (ρ : Operand → Value) : execOp ρ (o48 15) = execOp ρ ⟨none, .slice 22 (.tmp 17) none (some (.tmp 18)) none, 22, "", #[], none⟩ := rfl
theorem d48_16 : (o48 16).dst = some 20 := by kernel_rfl
theorem g48_16 : (o48 16).guard = none := by kernel_rfl
theorem i48_16 : ops48[16]? = some (o48 16) := by kernel_rfl
theorem e48_16 (ρ : Operand → Value) : execOp ρ (o48 16) = execOp ρ ⟨none, .load 54 (.tmp 0), 54, "", #[], none⟩ := rfl
theorem d48_17 : (o48 17).dst = some 21 := by kernel_rfl
theorem g48_17 : (o48 17).guard = none := by kernel_rfl
theorem i48_17 : ops48[17]? = some (o48 17) := by kernel_rfl
theorem e48_17 (ρ : Operand → Value) : execOp ρ (o48 17) = execOp ρ ⟨none, .nilCheck (.tmp 20), 0, "", #[], none⟩ := rfl
theorem d48_18 : (o48 18).dst = some 22 := by kernel_rfl
theorem g48_18 : (o48 18).guard = none := by kernel_rfl
theorem i48_18 : ops48[18]? = some (o48 18) := by kernel_rfl
theorem e48_18 (ρ : Operand → Value) : execOp ρ (o48 18) = execOp ρ ⟨none, .fieldAddr 57 (.tmp 21) 2, 0, "", #[], none⟩ := rfl
theorem d48_19 : (o48 19).dst = some 23 := by kernel_rfl
theorem g48_19 : (o48 19).guard = none := by kernel_rfl
theorem i48_19 : ops48[19]? = some (o48 19) := by kernel_rfl
theorem e48_19 (ρ : Operand → Value) : execOp ρ (o48 19) = execOp ρ ⟨none, .load 25 (.tmp 22), 25, "", #[], none⟩ := rfl
theorem d48_20 : (o48 20).dst = some 24 := by kernel_rfl
theorem g48_20 : (o48 20).guard = none := by kernel_rfl
theorem i48_20 : ops48[20]? = some (o48 20) := by kernel_rfl
theorem e48_20 (ρ : Operand → Value) : execOp ρ (o48 20) = execOp ρ ⟨none, .load 3 (.tmp 2), 3, "", #[], none⟩ := rfl
theorem d48_21 : (o48 21).dst = some 25 := by kernel_rfl
theorem g48_21 : (o48 21).guard = none := by kernel_rfl
theorem i48_21 : ops48[21]? = some (o48 21) := by kernel_rfl
theorem e48_21 (ρ : Operand → Value) : execOp ρ (o48 21) = execOp ρ ⟨none, .slice 25 (.tmp 23) none (some (.tmp 24)) none, 25, "", #[], none⟩ := rfl
theorem d48_22 : (o48 22).dst = some 26 := by kernel_rfl
theorem g48_22 : (o48 22).guard = none := by kernel_rfl
theorem i48_22 : ops48[22]? = some (o48 22) := by kernel_rfl
theorem e48_22 (ρ : Operand → Value) : execOp ρ (o48 22) = execOp ρ ⟨none, .load 54 (.tmp 0), 54, "", #[], none⟩ := rfl
theorem d48_23 : (o48 23).dst = some 27 := by kernel_rfl
theorem g48_23 : (o48 23).guard = none := by kernel_rfl
theorem i48_23 : ops48[23]? = some (o48 23) := by kernel_rfl
theorem e48_23 (ρ : Operand → Value) : execOp ρ (o48 23) = execOp ρ ⟨none, .nilCheck (.tmp 26), 0, "", #[], none⟩ := rfl
theorem d48_24 : (o48 24).dst = some 28 := by kernel_rfl
theorem g48_24 : (o48 24).guard = none := by kernel_rfl
theorem i48_24 : ops48[24]? = some (o48 24) := by kernel_rfl
theorem e48_24 (ρ : Operand → Value) : execOp ρ (o48 24) = execOp ρ ⟨none, .fieldAddr 57 (.tmp 27) 3, 0, "", #[], none⟩ := rfl
theorem d48_25 : (o48 25).dst = some 29 := by kernel_rfl
theorem g48_25 : (o48 25).guard = none := by kernel_rfl
theorem i48_25 : ops48[25]? = some (o48 25) := by kernel_rfl
theorem e48_25 (ρ : Operand → Value) : execOp ρ (o48 25) = execOp ρ ⟨none, .load 55 (.tmp 28), 55, "", #[], none⟩ := rfl
theorem d48_26 : (o48 26).dst = some 30 := by kernel_rfl
theorem g48_26 : (o48 26).guard = none := by kernel_rfl
theorem i48_26 : ops48[26]? = some (o48 26) := by kernel_rfl
theorem e48_26 (ρ : Operand → Value) : execOp ρ (o48 26) = execOp ρ ⟨none, .load 3 (.tmp 3), 3, "", #[], none⟩ := rfl
theorem d48_27 : (o48 27).dst = some 31 := by kernel_rfl
theorem g48_27 : (o48 27).guard = none := by kernel_rfl
theorem i48_27 : ops48[27]? = some (o48 27) := by kernel_rfl
theorem e48_27 (ρ : Operand → Value) : execOp ρ (o48 27) = execOp ρ ⟨none, .slice 55 (.tmp 29) none (some (.tmp 30)) none, 55, "", #[], none⟩ := rfl
theorem d48_28 : (o48 28).dst = some 32 := by kernel_rfl
theorem g48_28 : (o48 28).guard = none := by kernel_rfl
theorem i48_28 : ops48[28]? = some (o48 28) := by kernel_rfl
theorem e48_28 (ρ : Operand → Value) : execOp ρ (o48 28) = execOp ρ ⟨none, .nilCheck (.tmp 4), 0, "", #[], none⟩ := rfl
theorem d48_29 : (o48 29).dst = some 33 := by kernel_rfl
theorem g48_29 : (o48 29).guard = none := by kernel_rfl
theorem i48_29 : ops48[29]? = some (o48 29) := by kernel_rfl
theorem e48_29 (ρ : Operand → Value) : execOp ρ (o48 29) = execOp ρ ⟨none, .fieldAddr 57 (.tmp 32) 0, 0, "", #[], none⟩ := rfl
theorem d48_30 : (o48 30).dst = none := by kernel_rfl
theorem g48_30 : (o48 30).guard = none := by kernel_rfl
theorem i48_30 : ops48[30]? = some (o48 30) := by kernel_rfl
theorem e48_30 (ρ : Operand → Value) : execOp ρ (o48 30) = execOp ρ ⟨none, .store 22 (.tmp 33) (.tmp 13), 0, "", #[], none⟩ := rfl
theorem d48_31 : (o48 31).dst = some 34 := by kernel_rfl
theorem g48_31 : (o48 31).guard = none := by kernel_rfl
theorem i48_31 : ops48[31]? = some (o48 31) := by kernel_rfl
theorem e48_31 (ρ : Operand → Value) : execOp ρ (o48 31) = execOp ρ ⟨none, .nilCheck (.tmp 5), 0, "", #[], none⟩ := rfl
theorem d48_32 : (o48 32).dst = some 35 := by kernel_rfl
theorem g48_32 : (o48 32).guard = none := by kernel_rfl
theorem i48_32 : ops48[32]? = some (o48 32) := by kernel_rfl
theorem e48_32 (ρ : Operand → Value) : execOp ρ (o48 32) = execOp ρ ⟨none, .fieldAddr 57 (.tmp 34) 1, 0, "", #[], none⟩ := rfl
theorem d48_33 : (o48 33).dst = none := by kernel_rfl
theorem g48_33 : (o48 33).guard = none := by kernel_rfl
theorem i48_33 : ops48[33]? = some (o48 33) := by kernel_rfl
theorem e48_33 (ρ : Operand → Value) : execOp ρ (o48 33) = execOp ρ ⟨none, .store 22 (.tmp 35) (.tmp 19), 0, "", #[], none⟩ := rfl
theorem d48_34 : (o48 34).dst = some 36 := by kernel_rfl
theorem g48_34 : (o48 34).guard = none := by kernel_rfl
theorem i48_34 : ops48[34]? = some (o48 34) := by kernel_rfl
theorem e48_34 (ρ : Operand → Value) : execOp ρ (o48 34) = execOp ρ ⟨none, .nilCheck (.tmp 6), 0, "", #[], none⟩ := rfl
theorem d48_35 : (o48 35).dst = some 37 := by kernel_rfl
theorem g48_35 : (o48 35).guard = none := by kernel_rfl
theorem i48_35 : ops48[35]? = some (o48 35) := by kernel_rfl
theorem e48_35 (ρ : Operand → Value) : execOp ρ (o48 35) = execOp ρ ⟨none, .fieldAddr 57 (.tmp 36) 2, 0, "", #[], none⟩ := rfl
theorem d48_36 : (o48 36).dst = none := by kernel_rfl
theorem g48_36 : (o48 36).guard = none := by kernel_rfl
theorem i48_36 : ops48[36]? = some (o48 36) := by kernel_rfl
theorem e48_36 (ρ : Operand → Value) : execOp ρ (o48 36) = execOp ρ ⟨none, .store 25 (.tmp 37) (.tmp 25), 0, "", #[], none⟩ := rfl
theorem d48_37 : (o48 37).dst = some 38 := by kernel_rfl
theorem g48_37 : (o48 37).guard = none := by kernel_rfl
theorem i48_37 : ops48[37]? = some (o48 37) := by kernel_rfl
theorem e48_37 (ρ : Operand → Value) : execOp ρ (o48 37) = execOp ρ ⟨none, .nilCheck (.tmp 7), 0, "", #[], none⟩ := rfl
theorem d48_38 : (o48 38).dst = some 39 := by kernel_rfl
theorem g48_38 : (o48 38).guard = none := by kernel_rfl
theorem i48_38 : ops48[38]? = some (o48 38) := by kernel_rfl
theorem e48_38 (ρ : Operand → Value) : execOp ρ (o48 38) = execOp ρ ⟨none, .fieldAddr 57 (.tmp 38) 3, 0, "", #[], none⟩ := rfl
theorem d48_39 : (o48 39).dst = none := by kernel_rfl
theorem g48_39 : (o48 39).guard = none := by kernel_rfl
theorem i48_39 : ops48[39]? = some (o48 39) := by kernel_rfl
theorem e48_39 (ρ : Operand → Value) : execOp ρ (o48 39) = execOp ρ ⟨none, .store 55 (.tmp 39) (.tmp 31), 0, "", #[], none⟩ := rfl
def S48 (pp kb fb fc b5 b6 b7 : Nat) (w' : World) : Prop := w'.cell? ⟨pp, 0, none⟩ = some (.pointer (some ⟨kb, 0, none⟩)) ∧ w'.cell? ⟨kb, 0, none⟩ = some (.slice (some ⟨fb, 0, none⟩) 1 fc) ∧ w'.cell? ⟨kb, 1, none⟩ = some (.slice none 0 0) ∧ w'.cell? ⟨kb, 2, none⟩ = some (.slice none 0 0) ∧ w'.cell? ⟨kb, 3, none⟩ = some (.slice none 0 0) ∧ w'.cell? ⟨b5, 0, none⟩ = some (.int .i64 1) ∧ w'.cell? ⟨b6, 0, none⟩ = some (.int .i64 0) ∧ w'.cell? ⟨b7, 0, none⟩ = some (.int .i64 0) ∧ ∀ o, w'.frozen? ⟨kb, o, none⟩ = false
theorem S48.set {pp kb fb fc b5 b6 b7 : Nat} {w : World} (h : S48 pp kb fb fc b5 b6 b7 w) (hp : pp ≠ kb) (h5 : b5 ≠ kb) (h6 : b6 ≠ kb) (h7 : b7 ≠ kb) {o : Nat} {v : Value} (hv : w.cell? ⟨kb, o, none⟩ = some v) : S48 pp kb fb fc b5 b6 b7 (w.setCell ⟨kb, o, none⟩ v) := by
 obtain ⟨q0, q1, q2, q3, q4, q5, q6, q7, q8⟩ := h
 have same : ∀ j u, w.cell? ⟨kb, j, none⟩ = some u → (w.setCell ⟨kb, o, none⟩ v).cell? ⟨kb, j, none⟩ = some u := fun j u hu => by
   by_cases hj : o = j
   · subst hj
     rw [hv] at hu
     injection hu with hu
     subst hu
     exact setc_at hv
   · exact (setc_off hj).trans hu
 refine ⟨(setc_ne (fun e => hp e.symm)).trans q0, same _ _ q1, same _ _ q2, same _ _ q3, same _ _ q4, (setc_ne (fun e => h5 e.symm)).trans q5, (setc_ne (fun e => h6 e.symm)).trans q6, (setc_ne (fun e => h7 e.symm)).trans q7, fun o' => by rw [World.frozen?_setCell]; exact q8 o'⟩
theorem Tryz.region48 {Q : Exit → Act → World → Prop} (a : Act) (w : World) (pp kb fb fc b5 b6 b7 : Nat) (hsz : a.tmps.size = 40) (h0 : a.eval (.tmp 0) = .pointer (some ⟨pp, 0, none⟩)) (h1 : a.eval (.tmp 1) = .pointer (some ⟨b5, 0, none⟩)) (h2 : a.eval (.tmp 2) = .pointer (some ⟨b6, 0, none⟩)) (h3 : a.eval (.tmp 3) = .pointer (some ⟨b7, 0, none⟩))
   (hW0 : S48 pp kb fb fc b5 b6 b7 w) (hc : 1 ≤ fc) (np : pp ≠ kb) (n5 : b5 ≠ kb) (n6 : b6 ≠ kb) (n7 : b7 ≠ kb)
   (hQ : ∀ c a (d : Nat) v w, Q (.panic c) (a.put (some d) v) w → Q (.panic c) a w)
   (hK : ∀ a', a'.defers = a.defers → Q .normal a' ((((w.drew.setCell ⟨kb, 0, none⟩ (.slice (some ⟨fb, 0, none⟩) 1 fc)).setCell ⟨kb, 1, none⟩ (.slice none 0 0)).setCell ⟨kb, 2, none⟩ (.slice none 0 0)).setCell ⟨kb, 3, none⟩ (.slice none 0 0))) :
   (Code.region 0 ops48 true).wp Tryz.prog Q a w := by
 have hs1 : ∀ w : World, (Instr.sliceAt 22 (.slice (some ⟨fb, 0, none⟩) 1 fc) none (some (.int .i64 1)) none).run Tryz.prog w = .ok (.slice (some ⟨fb, 0, none⟩) 1 fc) w := fun w => by
   have h1 : (1 : Int) ≤ (fc : Int) := by omega
   simp [Instr.sliceAt, Instr.slice, Tryz.underlying22, Instr.sliceBounds, go_sem, h1, hc]
 have hs2 : ∀ w : World, (Instr.sliceAt 22 (.slice none 0 0) none (some (.int .i64 0)) none).run Tryz.prog w = .ok (.slice none 0 0) w := fun w => by
   simp [Instr.sliceAt, Instr.slice, Tryz.underlying22, Instr.sliceBounds, go_sem]
 have hs3 : ∀ w : World, (Instr.sliceAt 25 (.slice none 0 0) none (some (.int .i64 0)) none).run Tryz.prog w = .ok (.slice none 0 0) w := fun w => by
   simp [Instr.sliceAt, Instr.slice, Tryz.underlying25, Instr.sliceBounds, go_sem]
 have hs4 : ∀ w : World, (Instr.sliceAt 55 (.slice none 0 0) none (some (.int .i64 0)) none).run Tryz.prog w = .ok (.slice none 0 0) w := fun w => by
   simp [Instr.sliceAt, Instr.slice, Tryz.underlying55, Instr.sliceBounds, go_sem]
 have hS : Region.noSelect ops48 = true := by kernel_rfl
 refine wp_region_held (S := S48 pp kb fb fc b5 b6 b7) (by kernel_rfl) ?_
 change wpAnyH _ _ _ _ _ 40 (Array.replicate 40 false) _ w.drew
 have hW : S48 pp kb fb fc b5 b6 b7 w.drew := hW0
 obtain ⟨x0, hx0⟩ : ∃ x0, x0 = a := ⟨_, rfl⟩
 have z0 : x0.tmps.size = 40 := by rw [hx0]; exact hsz
 have df0 : x0.defers = a.defers := by rw [hx0]
 have t0_0 : x0.eval (.tmp 0) = .pointer (some ⟨pp, 0, none⟩) := by rw [hx0]; exact h0
 have t0_1 : x0.eval (.tmp 1) = .pointer (some ⟨b5, 0, none⟩) := by rw [hx0]; exact h1
 have t0_2 : x0.eval (.tmp 2) = .pointer (some ⟨b6, 0, none⟩) := by rw [hx0]; exact h2
 have t0_3 : x0.eval (.tmp 3) = .pointer (some ⟨b7, 0, none⟩) := by rw [hx0]; exact h3
 rw [← hx0]
 clear hx0
 refine takeD (i := 0) (v := .pointer (some ⟨kb, 0, none⟩)) i48_0 d48_0 g48_0 hS (by kernel_rfl) (by kernel_rfl) (fun c a w => hQ c a _ _ w) (fun w' hw' => ?_) hW ?_
 · obtain ⟨q0, q1, q2, q3, q4, q5, q6, q7, q8⟩ := hw'
   rw [e48_0]; simp only [execOp, t0_0, Option.map_some, Option.map_none]
   go_simp
 obtain ⟨x1, hx1⟩ : ∃ x', x' = x0.put (some 4) (.pointer (some ⟨kb, 0, none⟩)) := ⟨_, rfl⟩
 have z1 : x1.tmps.size = 40 := by rw [hx1, sz_put]; exact z0
 have df1 : x1.defers = a.defers := by rw [hx1]; exact df0
 have t1_0 := (ev_ne x0 4 0 (.pointer (some ⟨kb, 0, none⟩)) (by decide)).trans t0_0
 rw [← hx1] at t1_0
 have t1_1 := (ev_ne x0 4 1 (.pointer (some ⟨kb, 0, none⟩)) (by decide)).trans t0_1
 rw [← hx1] at t1_1
 have t1_2 := (ev_ne x0 4 2 (.pointer (some ⟨kb, 0, none⟩)) (by decide)).trans t0_2
 rw [← hx1] at t1_2
 have t1_3 := (ev_ne x0 4 3 (.pointer (some ⟨kb, 0, none⟩)) (by decide)).trans t0_3
 rw [← hx1] at t1_3
 have t1_4 := ev_same x0 4 (.pointer (some ⟨kb, 0, none⟩)) (by rw [z0]; decide)
 rw [← hx1] at t1_4
 rw [← hx1]
 clear hx1 t0_0 t0_1 t0_2 t0_3
 refine takeD (i := 1) (v := .pointer (some ⟨kb, 0, none⟩)) i48_1 d48_1 g48_1 hS (by kernel_rfl) (by kernel_rfl) (fun c a w => hQ c a _ _ w) (fun w' hw' => ?_) hW ?_
 · obtain ⟨q0, q1, q2, q3, q4, q5, q6, q7, q8⟩ := hw'
   rw [e48_1]; simp only [execOp, t1_0, Option.map_some, Option.map_none]
   go_simp
 obtain ⟨x2, hx2⟩ : ∃ x', x' = x1.put (some 5) (.pointer (some ⟨kb, 0, none⟩)) := ⟨_, rfl⟩
 have z2 : x2.tmps.size = 40 := by rw [hx2, sz_put]; exact z1
 have df2 : x2.defers = a.defers := by rw [hx2]; exact df1
 have t2_0 := (ev_ne x1 5 0 (.pointer (some ⟨kb, 0, none⟩)) (by decide)).trans t1_0
 rw [← hx2] at t2_0
 have t2_1 := (ev_ne x1 5 1 (.pointer (some ⟨kb, 0, none⟩)) (by decide)).trans t1_1
 rw [← hx2] at t2_1
 have t2_2 := (ev_ne x1 5 2 (.pointer (some ⟨kb, 0, none⟩)) (by decide)).trans t1_2
 rw [← hx2] at t2_2
 have t2_3 := (ev_ne x1 5 3 (.pointer (some ⟨kb, 0, none⟩)) (by decide)).trans t1_3
 rw [← hx2] at t2_3
 have t2_4 := (ev_ne x1 5 4 (.pointer (some ⟨kb, 0, none⟩)) (by decide)).trans t1_4
 rw [← hx2] at t2_4
 have t2_5 := ev_same x1 5 (.pointer (some ⟨kb, 0, none⟩)) (by rw [z1]; decide)
 rw [← hx2] at t2_5
 rw [← hx2]
 clear hx2 t1_0 t1_1 t1_2 t1_3 t1_4
 refine takeD (i := 2) (v := .pointer (some ⟨kb, 0, none⟩)) i48_2 d48_2 g48_2 hS (by kernel_rfl) (by kernel_rfl) (fun c a w => hQ c a _ _ w) (fun w' hw' => ?_) hW ?_
 · obtain ⟨q0, q1, q2, q3, q4, q5, q6, q7, q8⟩ := hw'
   rw [e48_2]; simp only [execOp, t2_0, Option.map_some, Option.map_none]
   go_simp
 obtain ⟨x3, hx3⟩ : ∃ x', x' = x2.put (some 6) (.pointer (some ⟨kb, 0, none⟩)) := ⟨_, rfl⟩
 have z3 : x3.tmps.size = 40 := by rw [hx3, sz_put]; exact z2
 have df3 : x3.defers = a.defers := by rw [hx3]; exact df2
 have t3_0 := (ev_ne x2 6 0 (.pointer (some ⟨kb, 0, none⟩)) (by decide)).trans t2_0
 rw [← hx3] at t3_0
 have t3_1 := (ev_ne x2 6 1 (.pointer (some ⟨kb, 0, none⟩)) (by decide)).trans t2_1
 rw [← hx3] at t3_1
 have t3_2 := (ev_ne x2 6 2 (.pointer (some ⟨kb, 0, none⟩)) (by decide)).trans t2_2
 rw [← hx3] at t3_2
 have t3_3 := (ev_ne x2 6 3 (.pointer (some ⟨kb, 0, none⟩)) (by decide)).trans t2_3
 rw [← hx3] at t3_3
 have t3_4 := (ev_ne x2 6 4 (.pointer (some ⟨kb, 0, none⟩)) (by decide)).trans t2_4
 rw [← hx3] at t3_4
 have t3_5 := (ev_ne x2 6 5 (.pointer (some ⟨kb, 0, none⟩)) (by decide)).trans t2_5
 rw [← hx3] at t3_5
 have t3_6 := ev_same x2 6 (.pointer (some ⟨kb, 0, none⟩)) (by rw [z2]; decide)
 rw [← hx3] at t3_6
 rw [← hx3]
 clear hx3 t2_0 t2_1 t2_2 t2_3 t2_4 t2_5
 refine takeD (i := 3) (v := .pointer (some ⟨kb, 0, none⟩)) i48_3 d48_3 g48_3 hS (by kernel_rfl) (by kernel_rfl) (fun c a w => hQ c a _ _ w) (fun w' hw' => ?_) hW ?_
 · obtain ⟨q0, q1, q2, q3, q4, q5, q6, q7, q8⟩ := hw'
   rw [e48_3]; simp only [execOp, t3_0, Option.map_some, Option.map_none]
   go_simp
 obtain ⟨x4, hx4⟩ : ∃ x', x' = x3.put (some 7) (.pointer (some ⟨kb, 0, none⟩)) := ⟨_, rfl⟩
 have z4 : x4.tmps.size = 40 := by rw [hx4, sz_put]; exact z3
 have df4 : x4.defers = a.defers := by rw [hx4]; exact df3
 have t4_0 := (ev_ne x3 7 0 (.pointer (some ⟨kb, 0, none⟩)) (by decide)).trans t3_0
 rw [← hx4] at t4_0
 have t4_1 := (ev_ne x3 7 1 (.pointer (some ⟨kb, 0, none⟩)) (by decide)).trans t3_1
 rw [← hx4] at t4_1
 have t4_2 := (ev_ne x3 7 2 (.pointer (some ⟨kb, 0, none⟩)) (by decide)).trans t3_2
 rw [← hx4] at t4_2
 have t4_3 := (ev_ne x3 7 3 (.pointer (some ⟨kb, 0, none⟩)) (by decide)).trans t3_3
 rw [← hx4] at t4_3
 have t4_4 := (ev_ne x3 7 4 (.pointer (some ⟨kb, 0, none⟩)) (by decide)).trans t3_4
 rw [← hx4] at t4_4
 have t4_5 := (ev_ne x3 7 5 (.pointer (some ⟨kb, 0, none⟩)) (by decide)).trans t3_5
 rw [← hx4] at t4_5
 have t4_6 := (ev_ne x3 7 6 (.pointer (some ⟨kb, 0, none⟩)) (by decide)).trans t3_6
 rw [← hx4] at t4_6
 have t4_7 := ev_same x3 7 (.pointer (some ⟨kb, 0, none⟩)) (by rw [z3]; decide)
 rw [← hx4] at t4_7
 rw [← hx4]
 clear hx4 t3_0 t3_1 t3_2 t3_3 t3_4 t3_5 t3_6
 refine takeD (i := 4) (v := .pointer (some ⟨kb, 0, none⟩)) i48_4 d48_4 g48_4 hS (by kernel_rfl) (by kernel_rfl) (fun c a w => hQ c a _ _ w) (fun w' hw' => ?_) hW ?_
 · obtain ⟨q0, q1, q2, q3, q4, q5, q6, q7, q8⟩ := hw'
   rw [e48_4]; simp only [execOp, t4_0, Option.map_some, Option.map_none]
   go_simp
 obtain ⟨x5, hx5⟩ : ∃ x', x' = x4.put (some 8) (.pointer (some ⟨kb, 0, none⟩)) := ⟨_, rfl⟩
 have z5 : x5.tmps.size = 40 := by rw [hx5, sz_put]; exact z4
 have df5 : x5.defers = a.defers := by rw [hx5]; exact df4
 have t5_0 := (ev_ne x4 8 0 (.pointer (some ⟨kb, 0, none⟩)) (by decide)).trans t4_0
 rw [← hx5] at t5_0
 have t5_1 := (ev_ne x4 8 1 (.pointer (some ⟨kb, 0, none⟩)) (by decide)).trans t4_1
 rw [← hx5] at t5_1
 have t5_2 := (ev_ne x4 8 2 (.pointer (some ⟨kb, 0, none⟩)) (by decide)).trans t4_2
 rw [← hx5] at t5_2
 have t5_3 := (ev_ne x4 8 3 (.pointer (some ⟨kb, 0, none⟩)) (by decide)).trans t4_3
 rw [← hx5] at t5_3
 have t5_4 := (ev_ne x4 8 4 (.pointer (some ⟨kb, 0, none⟩)) (by decide)).trans t4_4
 rw [← hx5] at t5_4
 have t5_5 := (ev_ne x4 8 5 (.pointer (some ⟨kb, 0, none⟩)) (by decide)).trans t4_5
 rw [← hx5] at t5_5
 have t5_6 := (ev_ne x4 8 6 (.pointer (some ⟨kb, 0, none⟩)) (by decide)).trans t4_6
 rw [← hx5] at t5_6
 have t5_7 := (ev_ne x4 8 7 (.pointer (some ⟨kb, 0, none⟩)) (by decide)).trans t4_7
 rw [← hx5] at t5_7
 have t5_8 := ev_same x4 8 (.pointer (some ⟨kb, 0, none⟩)) (by rw [z4]; decide)
 rw [← hx5] at t5_8
 rw [← hx5]
 clear hx5 t4_0 t4_1 t4_2 t4_3 t4_4 t4_5 t4_6 t4_7
 refine takeD (i := 5) (v := .pointer (some ⟨kb, 0, none⟩)) i48_5 d48_5 g48_5 hS (by kernel_rfl) (by kernel_rfl) (fun c a w => hQ c a _ _ w) (fun w' hw' => ?_) hW ?_
 · obtain ⟨q0, q1, q2, q3, q4, q5, q6, q7, q8⟩ := hw'
   rw [e48_5]; simp only [execOp, t5_8, Option.map_some, Option.map_none]
   go_simp
 obtain ⟨x6, hx6⟩ : ∃ x', x' = x5.put (some 9) (.pointer (some ⟨kb, 0, none⟩)) := ⟨_, rfl⟩
 have z6 : x6.tmps.size = 40 := by rw [hx6, sz_put]; exact z5
 have df6 : x6.defers = a.defers := by rw [hx6]; exact df5
 have t6_0 := (ev_ne x5 9 0 (.pointer (some ⟨kb, 0, none⟩)) (by decide)).trans t5_0
 rw [← hx6] at t6_0
 have t6_1 := (ev_ne x5 9 1 (.pointer (some ⟨kb, 0, none⟩)) (by decide)).trans t5_1
 rw [← hx6] at t6_1
 have t6_2 := (ev_ne x5 9 2 (.pointer (some ⟨kb, 0, none⟩)) (by decide)).trans t5_2
 rw [← hx6] at t6_2
 have t6_3 := (ev_ne x5 9 3 (.pointer (some ⟨kb, 0, none⟩)) (by decide)).trans t5_3
 rw [← hx6] at t6_3
 have t6_4 := (ev_ne x5 9 4 (.pointer (some ⟨kb, 0, none⟩)) (by decide)).trans t5_4
 rw [← hx6] at t6_4
 have t6_5 := (ev_ne x5 9 5 (.pointer (some ⟨kb, 0, none⟩)) (by decide)).trans t5_5
 rw [← hx6] at t6_5
 have t6_6 := (ev_ne x5 9 6 (.pointer (some ⟨kb, 0, none⟩)) (by decide)).trans t5_6
 rw [← hx6] at t6_6
 have t6_7 := (ev_ne x5 9 7 (.pointer (some ⟨kb, 0, none⟩)) (by decide)).trans t5_7
 rw [← hx6] at t6_7
 have t6_9 := ev_same x5 9 (.pointer (some ⟨kb, 0, none⟩)) (by rw [z5]; decide)
 rw [← hx6] at t6_9
 rw [← hx6]
 clear hx6 t5_0 t5_1 t5_2 t5_3 t5_4 t5_5 t5_6 t5_7 t5_8
 refine takeD (i := 6) (v := .pointer (some ⟨kb, 0, none⟩)) i48_6 d48_6 g48_6 hS (by kernel_rfl) (by kernel_rfl) (fun c a w => hQ c a _ _ w) (fun w' hw' => ?_) hW ?_
 · obtain ⟨q0, q1, q2, q3, q4, q5, q6, q7, q8⟩ := hw'
   rw [e48_6]; simp only [execOp, t6_9, Option.map_some, Option.map_none]
   go_simp
 obtain ⟨x7, hx7⟩ : ∃ x', x' = x6.put (some 10) (.pointer (some ⟨kb, 0, none⟩)) := ⟨_, rfl⟩
 have z7 : x7.tmps.size = 40 := by rw [hx7, sz_put]; exact z6
 have df7 : x7.defers = a.defers := by rw [hx7]; exact df6
 have t7_0 := (ev_ne x6 10 0 (.pointer (some ⟨kb, 0, none⟩)) (by decide)).trans t6_0
 rw [← hx7] at t7_0
 have t7_1 := (ev_ne x6 10 1 (.pointer (some ⟨kb, 0, none⟩)) (by decide)).trans t6_1
 rw [← hx7] at t7_1
 have t7_2 := (ev_ne x6 10 2 (.pointer (some ⟨kb, 0, none⟩)) (by decide)).trans t6_2
 rw [← hx7] at t7_2
 have t7_3 := (ev_ne x6 10 3 (.pointer (some ⟨kb, 0, none⟩)) (by decide)).trans t6_3
 rw [← hx7] at t7_3
 have t7_4 := (ev_ne x6 10 4 (.pointer (some ⟨kb, 0, none⟩)) (by decide)).trans t6_4
 rw [← hx7] at t7_4
 have t7_5 := (ev_ne x6 10 5 (.pointer (some ⟨kb, 0, none⟩)) (by decide)).trans t6_5
 rw [← hx7] at t7_5
 have t7_6 := (ev_ne x6 10 6 (.pointer (some ⟨kb, 0, none⟩)) (by decide)).trans t6_6
 rw [← hx7] at t7_6
 have t7_7 := (ev_ne x6 10 7 (.pointer (some ⟨kb, 0, none⟩)) (by decide)).trans t6_7
 rw [← hx7] at t7_7
 have t7_10 := ev_same x6 10 (.pointer (some ⟨kb, 0, none⟩)) (by rw [z6]; decide)
 rw [← hx7] at t7_10
 rw [← hx7]
 clear hx7 t6_0 t6_1 t6_2 t6_3 t6_4 t6_5 t6_6 t6_7 t6_9
 refine takeD (i := 7) (v := .slice (some ⟨fb, 0, none⟩) 1 fc) i48_7 d48_7 g48_7 hS (by kernel_rfl) (by kernel_rfl) (fun c a w => hQ c a _ _ w) (fun w' hw' => ?_) hW ?_
 · obtain ⟨q0, q1, q2, q3, q4, q5, q6, q7, q8⟩ := hw'
   rw [e48_7]; simp only [execOp, t7_10, Option.map_some, Option.map_none]
   go_simp
 obtain ⟨x8, hx8⟩ : ∃ x', x' = x7.put (some 11) (.slice (some ⟨fb, 0, none⟩) 1 fc) := ⟨_, rfl⟩
 have z8 : x8.tmps.size = 40 := by rw [hx8, sz_put]; exact z7
 have df8 : x8.defers = a.defers := by rw [hx8]; exact df7
 have t8_0 := (ev_ne x7 11 0 (.slice (some ⟨fb, 0, none⟩) 1 fc) (by decide)).trans t7_0
 rw [← hx8] at t8_0
 have t8_1 := (ev_ne x7 11 1 (.slice (some ⟨fb, 0, none⟩) 1 fc) (by decide)).trans t7_1
 rw [← hx8] at t8_1
 have t8_2 := (ev_ne x7 11 2 (.slice (some ⟨fb, 0, none⟩) 1 fc) (by decide)).trans t7_2
 rw [← hx8] at t8_2
 have t8_3 := (ev_ne x7 11 3 (.slice (some ⟨fb, 0, none⟩) 1 fc) (by decide)).trans t7_3
 rw [← hx8] at t8_3
 have t8_4 := (ev_ne x7 11 4 (.slice (some ⟨fb, 0, none⟩) 1 fc) (by decide)).trans t7_4
 rw [← hx8] at t8_4
 have t8_5 := (ev_ne x7 11 5 (.slice (some ⟨fb, 0, none⟩) 1 fc) (by decide)).trans t7_5
 rw [← hx8] at t8_5
 have t8_6 := (ev_ne x7 11 6 (.slice (some ⟨fb, 0, none⟩) 1 fc) (by decide)).trans t7_6
 rw [← hx8] at t8_6
 have t8_7 := (ev_ne x7 11 7 (.slice (some ⟨fb, 0, none⟩) 1 fc) (by decide)).trans t7_7
 rw [← hx8] at t8_7
 have t8_11 := ev_same x7 11 (.slice (some ⟨fb, 0, none⟩) 1 fc) (by rw [z7]; decide)
 rw [← hx8] at t8_11
 rw [← hx8]
 clear hx8 t7_0 t7_1 t7_2 t7_3 t7_4 t7_5 t7_6 t7_7 t7_10
 refine takeD (i := 8) (v := .int .i64 1) i48_8 d48_8 g48_8 hS (by kernel_rfl) (by kernel_rfl) (fun c a w => hQ c a _ _ w) (fun w' hw' => ?_) hW ?_
 · obtain ⟨q0, q1, q2, q3, q4, q5, q6, q7, q8⟩ := hw'
   rw [e48_8]; simp only [execOp, t8_1, Option.map_some, Option.map_none]
   go_simp
 obtain ⟨x9, hx9⟩ : ∃ x', x' = x8.put (some 12) (.int .i64 1) := ⟨_, rfl⟩
 have z9 : x9.tmps.size = 40 := by rw [hx9, sz_put]; exact z8
 have df9 : x9.defers = a.defers := by rw [hx9]; exact df8
 have t9_0 := (ev_ne x8 12 0 (.int .i64 1) (by decide)).trans t8_0
 rw [← hx9] at t9_0
 have t9_2 := (ev_ne x8 12 2 (.int .i64 1) (by decide)).trans t8_2
 rw [← hx9] at t9_2
 have t9_3 := (ev_ne x8 12 3 (.int .i64 1) (by decide)).trans t8_3
 rw [← hx9] at t9_3
 have t9_4 := (ev_ne x8 12 4 (.int .i64 1) (by decide)).trans t8_4
 rw [← hx9] at t9_4
 have t9_5 := (ev_ne x8 12 5 (.int .i64 1) (by decide)).trans t8_5
 rw [← hx9] at t9_5
 have t9_6 := (ev_ne x8 12 6 (.int .i64 1) (by decide)).trans t8_6
 rw [← hx9] at t9_6
 have t9_7 := (ev_ne x8 12 7 (.int .i64 1) (by decide)).trans t8_7
 rw [← hx9] at t9_7
 have t9_11 := (ev_ne x8 12 11 (.int .i64 1) (by decide)).trans t8_11
 rw [← hx9] at t9_11
 have t9_12 := ev_same x8 12 (.int .i64 1) (by rw [z8]; decide)
 rw [← hx9] at t9_12
 rw [← hx9]
 clear hx9 t8_0 t8_1 t8_2 t8_3 t8_4 t8_5 t8_6 t8_7 t8_11
 refine takeD (i := 9) (v := .slice (some ⟨fb, 0, none⟩) 1 fc) i48_9 d48_9 g48_9 hS (by kernel_rfl) (by kernel_rfl) (fun c a w => hQ c a _ _ w) (fun w' hw' => ?_) hW ?_
 · obtain ⟨q0, q1, q2, q3, q4, q5, q6, q7, q8⟩ := hw'
   rw [e48_9]; simp only [execOp, t9_11, t9_12, Option.map_some, Option.map_none]
   go_simp
 obtain ⟨x10, hx10⟩ : ∃ x', x' = x9.put (some 13) (.slice (some ⟨fb, 0, none⟩) 1 fc) := ⟨_, rfl⟩
 have z10 : x10.tmps.size = 40 := by rw [hx10, sz_put]; exact z9
 have df10 : x10.defers = a.defers := by rw [hx10]; exact df9
 have t10_0 := (ev_ne x9 13 0 (.slice (some ⟨fb, 0, none⟩) 1 fc) (by decide)).trans t9_0
 rw [← hx10] at t10_0
 have t10_2 := (ev_ne x9 13 2 (.slice (some ⟨fb, 0, none⟩) 1 fc) (by decide)).trans t9_2
 rw [← hx10] at t10_2
 have t10_3 := (ev_ne x9 13 3 (.slice (some ⟨fb, 0, none⟩) 1 fc) (by decide)).trans t9_3
 rw [← hx10] at t10_3
 have t10_4 := (ev_ne x9 13 4 (.slice (some ⟨fb, 0, none⟩) 1 fc) (by decide)).trans t9_4
 rw [← hx10] at t10_4
 have t10_5 := (ev_ne x9 13 5 (.slice (some ⟨fb, 0, none⟩) 1 fc) (by decide)).trans t9_5
 rw [← hx10] at t10_5
 have t10_6 := (ev_ne x9 13 6 (.slice (some ⟨fb, 0, none⟩) 1 fc) (by decide)).trans t9_6
 rw [← hx10] at t10_6
 have t10_7 := (ev_ne x9 13 7 (.slice (some ⟨fb, 0, none⟩) 1 fc) (by decide)).trans t9_7
 rw [← hx10] at t10_7
 have t10_13 := ev_same x9 13 (.slice (some ⟨fb, 0, none⟩) 1 fc) (by rw [z9]; decide)
 rw [← hx10] at t10_13
 rw [← hx10]
 clear hx10 t9_0 t9_2 t9_3 t9_4 t9_5 t9_6 t9_7 t9_11 t9_12
 refine takeD (i := 10) (v := .pointer (some ⟨kb, 0, none⟩)) i48_10 d48_10 g48_10 hS (by kernel_rfl) (by kernel_rfl) (fun c a w => hQ c a _ _ w) (fun w' hw' => ?_) hW ?_
 · obtain ⟨q0, q1, q2, q3, q4, q5, q6, q7, q8⟩ := hw'
   rw [e48_10]; simp only [execOp, t10_0, Option.map_some, Option.map_none]
   go_simp
 obtain ⟨x11, hx11⟩ : ∃ x', x' = x10.put (some 14) (.pointer (some ⟨kb, 0, none⟩)) := ⟨_, rfl⟩
 have z11 : x11.tmps.size = 40 := by rw [hx11, sz_put]; exact z10
 have df11 : x11.defers = a.defers := by rw [hx11]; exact df10
 have t11_0 := (ev_ne x10 14 0 (.pointer (some ⟨kb, 0, none⟩)) (by decide)).trans t10_0
 rw [← hx11] at t11_0
 have t11_2 := (ev_ne x10 14 2 (.pointer (some ⟨kb, 0, none⟩)) (by decide)).trans t10_2
 rw [← hx11] at t11_2
 have t11_3 := (ev_ne x10 14 3 (.pointer (some ⟨kb, 0, none⟩)) (by decide)).trans t10_3
 rw [← hx11] at t11_3
 have t11_4 := (ev_ne x10 14 4 (.pointer (some ⟨kb, 0, none⟩)) (by decide)).trans t10_4
 rw [← hx11] at t11_4
 have t11_5 := (ev_ne x10 14 5 (.pointer (some ⟨kb, 0, none⟩)) (by decide)).trans t10_5
 rw [← hx11] at t11_5
 have t11_6 := (ev_ne x10 14 6 (.pointer (some ⟨kb, 0, none⟩)) (by decide)).trans t10_6
 rw [← hx11] at t11_6
 have t11_7 := (ev_ne x10 14 7 (.pointer (some ⟨kb, 0, none⟩)) (by decide)).trans t10_7
 rw [← hx11] at t11_7
 have t11_13 := (ev_ne x10 14 13 (.pointer (some ⟨kb, 0, none⟩)) (by decide)).trans t10_13
 rw [← hx11] at t11_13
 have t11_14 := ev_same x10 14 (.pointer (some ⟨kb, 0, none⟩)) (by rw [z10]; decide)
 rw [← hx11] at t11_14
 rw [← hx11]
 clear hx11 t10_0 t10_2 t10_3 t10_4 t10_5 t10_6 t10_7 t10_13
 refine takeD (i := 11) (v := .pointer (some ⟨kb, 0, none⟩)) i48_11 d48_11 g48_11 hS (by kernel_rfl) (by kernel_rfl) (fun c a w => hQ c a _ _ w) (fun w' hw' => ?_) hW ?_
 · obtain ⟨q0, q1, q2, q3, q4, q5, q6, q7, q8⟩ := hw'
   rw [e48_11]; simp only [execOp, t11_14, Option.map_some, Option.map_none]
   go_simp
 obtain ⟨x12, hx12⟩ : ∃ x', x' = x11.put (some 15) (.pointer (some ⟨kb, 0, none⟩)) := ⟨_, rfl⟩
 have z12 : x12.tmps.size = 40 := by rw [hx12, sz_put]; exact z11
 have df12 : x12.defers = a.defers := by rw [hx12]; exact df11
 have t12_0 := (ev_ne x11 15 0 (.pointer (some ⟨kb, 0, none⟩)) (by decide)).trans t11_0
 rw [← hx12] at t12_0
 have t12_2 := (ev_ne x11 15 2 (.pointer (some ⟨kb, 0, none⟩)) (by decide)).trans t11_2
 rw [← hx12] at t12_2
 have t12_3 := (ev_ne x11 15 3 (.pointer (some ⟨kb, 0, none⟩)) (by decide)).trans t11_3
 rw [← hx12] at t12_3
 have t12_4 := (ev_ne x11 15 4 (.pointer (some ⟨kb, 0, none⟩)) (by decide)).trans t11_4
 rw [← hx12] at t12_4
 have t12_5 := (ev_ne x11 15 5 (.pointer (some ⟨kb, 0, none⟩)) (by decide)).trans t11_5
 rw [← hx12] at t12_5
 have t12_6 := (ev_ne x11 15 6 (.pointer (some ⟨kb, 0, none⟩)) (by decide)).trans t11_6
 rw [← hx12] at t12_6
 have t12_7 := (ev_ne x11 15 7 (.pointer (some ⟨kb, 0, none⟩)) (by decide)).trans t11_7
 rw [← hx12] at t12_7
 have t12_13 := (ev_ne x11 15 13 (.pointer (some ⟨kb, 0, none⟩)) (by decide)).trans t11_13
 rw [← hx12] at t12_13
 have t12_15 := ev_same x11 15 (.pointer (some ⟨kb, 0, none⟩)) (by rw [z11]; decide)
 rw [← hx12] at t12_15
 rw [← hx12]
 clear hx12 t11_0 t11_2 t11_3 t11_4 t11_5 t11_6 t11_7 t11_13 t11_14
 refine takeD (i := 12) (v := .pointer (some ⟨kb, 1, none⟩)) i48_12 d48_12 g48_12 hS (by kernel_rfl) (by kernel_rfl) (fun c a w => hQ c a _ _ w) (fun w' hw' => ?_) hW ?_
 · obtain ⟨q0, q1, q2, q3, q4, q5, q6, q7, q8⟩ := hw'
   rw [e48_12]; simp only [execOp, t12_15, Option.map_some, Option.map_none]
   go_simp
 obtain ⟨x13, hx13⟩ : ∃ x', x' = x12.put (some 16) (.pointer (some ⟨kb, 1, none⟩)) := ⟨_, rfl⟩
 have z13 : x13.tmps.size = 40 := by rw [hx13, sz_put]; exact z12
 have df13 : x13.defers = a.defers := by rw [hx13]; exact df12
 have t13_0 := (ev_ne x12 16 0 (.pointer (some ⟨kb, 1, none⟩)) (by decide)).trans t12_0
 rw [← hx13] at t13_0
 have t13_2 := (ev_ne x12 16 2 (.pointer (some ⟨kb, 1, none⟩)) (by decide)).trans t12_2
 rw [← hx13] at t13_2
 have t13_3 := (ev_ne x12 16 3 (.pointer (some ⟨kb, 1, none⟩)) (by decide)).trans t12_3
 rw [← hx13] at t13_3
 have t13_4 := (ev_ne x12 16 4 (.pointer (some ⟨kb, 1, none⟩)) (by decide)).trans t12_4
 rw [← hx13] at t13_4
 have t13_5 := (ev_ne x12 16 5 (.pointer (some ⟨kb, 1, none⟩)) (by decide)).trans t12_5
 rw [← hx13] at t13_5
 have t13_6 := (ev_ne x12 16 6 (.pointer (some ⟨kb, 1, none⟩)) (by decide)).trans t12_6
 rw [← hx13] at t13_6
 have t13_7 := (ev_ne x12 16 7 (.pointer (some ⟨kb, 1, none⟩)) (by decide)).trans t12_7
 rw [← hx13] at t13_7
 have t13_13 := (ev_ne x12 16 13 (.pointer (some ⟨kb, 1, none⟩)) (by decide)).trans t12_13
 rw [← hx13] at t13_13
 have t13_16 := ev_same x12 16 (.pointer (some ⟨kb, 1, none⟩)) (by rw [z12]; decide)
 rw [← hx13] at t13_16
 rw [← hx13]
 clear hx13 t12_0 t12_2 t12_3 t12_4 t12_5 t12_6 t12_7 t12_13 t12_15
 refine takeD (i := 13) (v := .slice none 0 0) i48_13 d48_13 g48_13 hS (by kernel_rfl) (by kernel_rfl) (fun c a w => hQ c a _ _ w) (fun w' hw' => ?_) hW ?_
 · obtain ⟨q0, q1, q2, q3, q4, q5, q6, q7, q8⟩ := hw'
   rw [e48_13]; simp only [execOp, t13_16, Option.map_some, Option.map_none]
   go_simp
 obtain ⟨x14, hx14⟩ : ∃ x', x' = x13.put (some 17) (.slice none 0 0) := ⟨_, rfl⟩
 have z14 : x14.tmps.size = 40 := by rw [hx14, sz_put]; exact z13
 have df14 : x14.defers = a.defers := by rw [hx14]; exact df13
 have t14_0 := (ev_ne x13 17 0 (.slice none 0 0) (by decide)).trans t13_0
 rw [← hx14] at t14_0
 have t14_2 := (ev_ne x13 17 2 (.slice none 0 0) (by decide)).trans t13_2
 rw [← hx14] at t14_2
 have t14_3 := (ev_ne x13 17 3 (.slice none 0 0) (by decide)).trans t13_3
 rw [← hx14] at t14_3
 have t14_4 := (ev_ne x13 17 4 (.slice none 0 0) (by decide)).trans t13_4
 rw [← hx14] at t14_4
 have t14_5 := (ev_ne x13 17 5 (.slice none 0 0) (by decide)).trans t13_5
 rw [← hx14] at t14_5
 have t14_6 := (ev_ne x13 17 6 (.slice none 0 0) (by decide)).trans t13_6
 rw [← hx14] at t14_6
 have t14_7 := (ev_ne x13 17 7 (.slice none 0 0) (by decide)).trans t13_7
 rw [← hx14] at t14_7
 have t14_13 := (ev_ne x13 17 13 (.slice none 0 0) (by decide)).trans t13_13
 rw [← hx14] at t14_13
 have t14_17 := ev_same x13 17 (.slice none 0 0) (by rw [z13]; decide)
 rw [← hx14] at t14_17
 rw [← hx14]
 clear hx14 t13_0 t13_2 t13_3 t13_4 t13_5 t13_6 t13_7 t13_13 t13_16
 refine takeD (i := 14) (v := .int .i64 0) i48_14 d48_14 g48_14 hS (by kernel_rfl) (by kernel_rfl) (fun c a w => hQ c a _ _ w) (fun w' hw' => ?_) hW ?_
 · obtain ⟨q0, q1, q2, q3, q4, q5, q6, q7, q8⟩ := hw'
   rw [e48_14]; simp only [execOp, t14_2, Option.map_some, Option.map_none]
   go_simp
 obtain ⟨x15, hx15⟩ : ∃ x', x' = x14.put (some 18) (.int .i64 0) := ⟨_, rfl⟩
 have z15 : x15.tmps.size = 40 := by rw [hx15, sz_put]; exact z14
 have df15 : x15.defers = a.defers := by rw [hx15]; exact df14
 have t15_0 := (ev_ne x14 18 0 (.int .i64 0) (by decide)).trans t14_0
 rw [← hx15] at t15_0
 have t15_2 := (ev_ne x14 18 2 (.int .i64 0) (by decide)).trans t14_2
 rw [← hx15] at t15_2
 have t15_3 := (ev_ne x14 18 3 (.int .i64 0) (by decide)).trans t14_3
 rw [← hx15] at t15_3
 have t15_4 := (ev_ne x14 18 4 (.int .i64 0) (by decide)).trans t14_4
 rw [← hx15] at t15_4
 have t15_5 := (ev_ne x14 18 5 (.int .i64 0) (by decide)).trans t14_5
 rw [← hx15] at t15_5
 have t15_6 := (ev_ne x14 18 6 (.int .i64 0) (by decide)).trans t14_6
 rw [← hx15] at t15_6
 have t15_7 := (ev_ne x14 18 7 (.int .i64 0) (by decide)).trans t14_7
 rw [← hx15] at t15_7
 have t15_13 := (ev_ne x14 18 13 (.int .i64 0) (by decide)).trans t14_13
 rw [← hx15] at t15_13
 have t15_17 := (ev_ne x14 18 17 (.int .i64 0) (by decide)).trans t14_17
 rw [← hx15] at t15_17
 have t15_18 := ev_same x14 18 (.int .i64 0) (by rw [z14]; decide)
 rw [← hx15] at t15_18
 rw [← hx15]
 clear hx15 t14_0 t14_2 t14_3 t14_4 t14_5 t14_6 t14_7 t14_13 t14_17
 refine takeD (i := 15) (v := .slice none 0 0) i48_15 d48_15 g48_15 hS (by kernel_rfl) (by kernel_rfl) (fun c a w => hQ c a _ _ w) (fun w' hw' => ?_) hW ?_
 · obtain ⟨q0, q1, q2, q3, q4, q5, q6, q7, q8⟩ := hw'
   rw [e48_15]; simp only [execOp, t15_17, t15_18, Option.map_some, Option.map_none]
   go_simp
 obtain ⟨x16, hx16⟩ : ∃ x', x' = x15.put (some 19) (.slice none 0 0) := ⟨_, rfl⟩
 have z16 : x16.tmps.size = 40 := by rw [hx16, sz_put]; exact z15
 have df16 : x16.defers = a.defers := by rw [hx16]; exact df15
 have t16_0 := (ev_ne x15 19 0 (.slice none 0 0) (by decide)).trans t15_0
 rw [← hx16] at t16_0
 have t16_2 := (ev_ne x15 19 2 (.slice none 0 0) (by decide)).trans t15_2
 rw [← hx16] at t16_2
 have t16_3 := (ev_ne x15 19 3 (.slice none 0 0) (by decide)).trans t15_3
 rw [← hx16] at t16_3
 have t16_4 := (ev_ne x15 19 4 (.slice none 0 0) (by decide)).trans t15_4
 rw [← hx16] at t16_4
 have t16_5 := (ev_ne x15 19 5 (.slice none 0 0) (by decide)).trans t15_5
 rw [← hx16] at t16_5
 have t16_6 := (ev_ne x15 19 6 (.slice none 0 0) (by decide)).trans t15_6
 rw [← hx16] at t16_6
 have t16_7 := (ev_ne x15 19 7 (.slice none 0 0) (by decide)).trans t15_7
 rw [← hx16] at t16_7
 have t16_13 := (ev_ne x15 19 13 (.slice none 0 0) (by decide)).trans t15_13
 rw [← hx16] at t16_13
 have t16_19 := ev_same x15 19 (.slice none 0 0) (by rw [z15]; decide)
 rw [← hx16] at t16_19
 rw [← hx16]
 clear hx16 t15_0 t15_2 t15_3 t15_4 t15_5 t15_6 t15_7 t15_13 t15_17 t15_18
 refine takeD (i := 16) (v := .pointer (some ⟨kb, 0, none⟩)) i48_16 d48_16 g48_16 hS (by kernel_rfl) (by kernel_rfl) (fun c a w => hQ c a _ _ w) (fun w' hw' => ?_) hW ?_
 · obtain ⟨q0, q1, q2, q3, q4, q5, q6, q7, q8⟩ := hw'
   rw [e48_16]; simp only [execOp, t16_0, Option.map_some, Option.map_none]
   go_simp
 obtain ⟨x17, hx17⟩ : ∃ x', x' = x16.put (some 20) (.pointer (some ⟨kb, 0, none⟩)) := ⟨_, rfl⟩
 have z17 : x17.tmps.size = 40 := by rw [hx17, sz_put]; exact z16
 have df17 : x17.defers = a.defers := by rw [hx17]; exact df16
 have t17_0 := (ev_ne x16 20 0 (.pointer (some ⟨kb, 0, none⟩)) (by decide)).trans t16_0
 rw [← hx17] at t17_0
 have t17_2 := (ev_ne x16 20 2 (.pointer (some ⟨kb, 0, none⟩)) (by decide)).trans t16_2
 rw [← hx17] at t17_2
 have t17_3 := (ev_ne x16 20 3 (.pointer (some ⟨kb, 0, none⟩)) (by decide)).trans t16_3
 rw [← hx17] at t17_3
 have t17_4 := (ev_ne x16 20 4 (.pointer (some ⟨kb, 0, none⟩)) (by decide)).trans t16_4
 rw [← hx17] at t17_4
 have t17_5 := (ev_ne x16 20 5 (.pointer (some ⟨kb, 0, none⟩)) (by decide)).trans t16_5
 rw [← hx17] at t17_5
 have t17_6 := (ev_ne x16 20 6 (.pointer (some ⟨kb, 0, none⟩)) (by decide)).trans t16_6
 rw [← hx17] at t17_6
 have t17_7 := (ev_ne x16 20 7 (.pointer (some ⟨kb, 0, none⟩)) (by decide)).trans t16_7
 rw [← hx17] at t17_7
 have t17_13 := (ev_ne x16 20 13 (.pointer (some ⟨kb, 0, none⟩)) (by decide)).trans t16_13
 rw [← hx17] at t17_13
 have t17_19 := (ev_ne x16 20 19 (.pointer (some ⟨kb, 0, none⟩)) (by decide)).trans t16_19
 rw [← hx17] at t17_19
 have t17_20 := ev_same x16 20 (.pointer (some ⟨kb, 0, none⟩)) (by rw [z16]; decide)
 rw [← hx17] at t17_20
 rw [← hx17]
 clear hx17 t16_0 t16_2 t16_3 t16_4 t16_5 t16_6 t16_7 t16_13 t16_19
 refine takeD (i := 17) (v := .pointer (some ⟨kb, 0, none⟩)) i48_17 d48_17 g48_17 hS (by kernel_rfl) (by kernel_rfl) (fun c a w => hQ c a _ _ w) (fun w' hw' => ?_) hW ?_
 · obtain ⟨q0, q1, q2, q3, q4, q5, q6, q7, q8⟩ := hw'
   rw [e48_17]; simp only [execOp, t17_20, Option.map_some, Option.map_none]
   go_simp
 obtain ⟨x18, hx18⟩ : ∃ x', x' = x17.put (some 21) (.pointer (some ⟨kb, 0, none⟩)) := ⟨_, rfl⟩
 have z18 : x18.tmps.size = 40 := by rw [hx18, sz_put]; exact z17
 have df18 : x18.defers = a.defers := by rw [hx18]; exact df17
 have t18_0 := (ev_ne x17 21 0 (.pointer (some ⟨kb, 0, none⟩)) (by decide)).trans t17_0
 rw [← hx18] at t18_0
 have t18_2 := (ev_ne x17 21 2 (.pointer (some ⟨kb, 0, none⟩)) (by decide)).trans t17_2
 rw [← hx18] at t18_2
 have t18_3 := (ev_ne x17 21 3 (.pointer (some ⟨kb, 0, none⟩)) (by decide)).trans t17_3
 rw [← hx18] at t18_3
 have t18_4 := (ev_ne x17 21 4 (.pointer (some ⟨kb, 0, none⟩)) (by decide)).trans t17_4
 rw [← hx18] at t18_4
 have t18_5 := (ev_ne x17 21 5 (.pointer (some ⟨kb, 0, none⟩)) (by decide)).trans t17_5
 rw [← hx18] at t18_5
 have t18_6 := (ev_ne x17 21 6 (.pointer (some ⟨kb, 0, none⟩)) (by decide)).trans t17_6
 rw [← hx18] at t18_6
 have t18_7 := (ev_ne x17 21 7 (.pointer (some ⟨kb, 0, none⟩)) (by decide)).trans t17_7
 rw [← hx18] at t18_7
 have t18_13 := (ev_ne x17 21 13 (.pointer (some ⟨kb, 0, none⟩)) (by decide)).trans t17_13
 rw [← hx18] at t18_13
 have t18_19 := (ev_ne x17 21 19 (.pointer (some ⟨kb, 0, none⟩)) (by decide)).trans t17_19
 rw [← hx18] at t18_19
 have t18_21 := ev_same x17 21 (.pointer (some ⟨kb, 0, none⟩)) (by rw [z17]; decide)
 rw [← hx18] at t18_21
 rw [← hx18]
 clear hx18 t17_0 t17_2 t17_3 t17_4 t17_5 t17_6 t17_7 t17_13 t17_19 t17_20
 refine takeD (i := 18) (v := .pointer (some ⟨kb, 2, none⟩)) i48_18 d48_18 g48_18 hS (by kernel_rfl) (by kernel_rfl) (fun c a w => hQ c a _ _ w) (fun w' hw' => ?_) hW ?_
 · obtain ⟨q0, q1, q2, q3, q4, q5, q6, q7, q8⟩ := hw'
   rw [e48_18]; simp only [execOp, t18_21, Option.map_some, Option.map_none]
   go_simp
 obtain ⟨x19, hx19⟩ : ∃ x', x' = x18.put (some 22) (.pointer (some ⟨kb, 2, none⟩)) := ⟨_, rfl⟩
 have z19 : x19.tmps.size = 40 := by rw [hx19, sz_put]; exact z18
 have df19 : x19.defers = a.defers := by rw [hx19]; exact df18
 have t19_0 := (ev_ne x18 22 0 (.pointer (some ⟨kb, 2, none⟩)) (by decide)).trans t18_0
 rw [← hx19] at t19_0
 have t19_2 := (ev_ne x18 22 2 (.pointer (some ⟨kb, 2, none⟩)) (by decide)).trans t18_2
 rw [← hx19] at t19_2
 have t19_3 := (ev_ne x18 22 3 (.pointer (some ⟨kb, 2, none⟩)) (by decide)).trans t18_3
 rw [← hx19] at t19_3
 have t19_4 := (ev_ne x18 22 4 (.pointer (some ⟨kb, 2, none⟩)) (by decide)).trans t18_4
 rw [← hx19] at t19_4
 have t19_5 := (ev_ne x18 22 5 (.pointer (some ⟨kb, 2, none⟩)) (by decide)).trans t18_5
 rw [← hx19] at t19_5
 have t19_6 := (ev_ne x18 22 6 (.pointer (some ⟨kb, 2, none⟩)) (by decide)).trans t18_6
 rw [← hx19] at t19_6
 have t19_7 := (ev_ne x18 22 7 (.pointer (some ⟨kb, 2, none⟩)) (by decide)).trans t18_7
 rw [← hx19] at t19_7
 have t19_13 := (ev_ne x18 22 13 (.pointer (some ⟨kb, 2, none⟩)) (by decide)).trans t18_13
 rw [← hx19] at t19_13
 have t19_19 := (ev_ne x18 22 19 (.pointer (some ⟨kb, 2, none⟩)) (by decide)).trans t18_19
 rw [← hx19] at t19_19
 have t19_22 := ev_same x18 22 (.pointer (some ⟨kb, 2, none⟩)) (by rw [z18]; decide)
 rw [← hx19] at t19_22
 rw [← hx19]
 clear hx19 t18_0 t18_2 t18_3 t18_4 t18_5 t18_6 t18_7 t18_13 t18_19 t18_21
 refine takeD (i := 19) (v := .slice none 0 0) i48_19 d48_19 g48_19 hS (by kernel_rfl) (by kernel_rfl) (fun c a w => hQ c a _ _ w) (fun w' hw' => ?_) hW ?_
 · obtain ⟨q0, q1, q2, q3, q4, q5, q6, q7, q8⟩ := hw'
   rw [e48_19]; simp only [execOp, t19_22, Option.map_some, Option.map_none]
   go_simp
 obtain ⟨x20, hx20⟩ : ∃ x', x' = x19.put (some 23) (.slice none 0 0) := ⟨_, rfl⟩
 have z20 : x20.tmps.size = 40 := by rw [hx20, sz_put]; exact z19
 have df20 : x20.defers = a.defers := by rw [hx20]; exact df19
 have t20_0 := (ev_ne x19 23 0 (.slice none 0 0) (by decide)).trans t19_0
 rw [← hx20] at t20_0
 have t20_2 := (ev_ne x19 23 2 (.slice none 0 0) (by decide)).trans t19_2
 rw [← hx20] at t20_2
 have t20_3 := (ev_ne x19 23 3 (.slice none 0 0) (by decide)).trans t19_3
 rw [← hx20] at t20_3
 have t20_4 := (ev_ne x19 23 4 (.slice none 0 0) (by decide)).trans t19_4
 rw [← hx20] at t20_4
 have t20_5 := (ev_ne x19 23 5 (.slice none 0 0) (by decide)).trans t19_5
 rw [← hx20] at t20_5
 have t20_6 := (ev_ne x19 23 6 (.slice none 0 0) (by decide)).trans t19_6
 rw [← hx20] at t20_6
 have t20_7 := (ev_ne x19 23 7 (.slice none 0 0) (by decide)).trans t19_7
 rw [← hx20] at t20_7
 have t20_13 := (ev_ne x19 23 13 (.slice none 0 0) (by decide)).trans t19_13
 rw [← hx20] at t20_13
 have t20_19 := (ev_ne x19 23 19 (.slice none 0 0) (by decide)).trans t19_19
 rw [← hx20] at t20_19
 have t20_23 := ev_same x19 23 (.slice none 0 0) (by rw [z19]; decide)
 rw [← hx20] at t20_23
 rw [← hx20]
 clear hx20 t19_0 t19_2 t19_3 t19_4 t19_5 t19_6 t19_7 t19_13 t19_19 t19_22
 refine takeD (i := 20) (v := .int .i64 0) i48_20 d48_20 g48_20 hS (by kernel_rfl) (by kernel_rfl) (fun c a w => hQ c a _ _ w) (fun w' hw' => ?_) hW ?_
 · obtain ⟨q0, q1, q2, q3, q4, q5, q6, q7, q8⟩ := hw'
   rw [e48_20]; simp only [execOp, t20_2, Option.map_some, Option.map_none]
   go_simp
 obtain ⟨x21, hx21⟩ : ∃ x', x' = x20.put (some 24) (.int .i64 0) := ⟨_, rfl⟩
 have z21 : x21.tmps.size = 40 := by rw [hx21, sz_put]; exact z20
 have df21 : x21.defers = a.defers := by rw [hx21]; exact df20
 have t21_0 := (ev_ne x20 24 0 (.int .i64 0) (by decide)).trans t20_0
 rw [← hx21] at t21_0
 have t21_3 := (ev_ne x20 24 3 (.int .i64 0) (by decide)).trans t20_3
 rw [← hx21] at t21_3
 have t21_4 := (ev_ne x20 24 4 (.int .i64 0) (by decide)).trans t20_4
 rw [← hx21] at t21_4
 have t21_5 := (ev_ne x20 24 5 (.int .i64 0) (by decide)).trans t20_5
 rw [← hx21] at t21_5
 have t21_6 := (ev_ne x20 24 6 (.int .i64 0) (by decide)).trans t20_6
 rw [← hx21] at t21_6
 have t21_7 := (ev_ne x20 24 7 (.int .i64 0) (by decide)).trans t20_7
 rw [← hx21] at t21_7
 have t21_13 := (ev_ne x20 24 13 (.int .i64 0) (by decide)).trans t20_13
 rw [← hx21] at t21_13
 have t21_19 := (ev_ne x20 24 19 (.int .i64 0) (by decide)).trans t20_19
 rw [← hx21] at t21_19
 have t21_23 := (ev_ne x20 24 23 (.int .i64 0) (by decide)).trans t20_23
 rw [← hx21] at t21_23
 have t21_24 := ev_same x20 24 (.int .i64 0) (by rw [z20]; decide)
 rw [← hx21] at t21_24
 rw [← hx21]
 clear hx21 t20_0 t20_2 t20_3 t20_4 t20_5 t20_6 t20_7 t20_13 t20_19 t20_23
 refine takeD (i := 21) (v := .slice none 0 0) i48_21 d48_21 g48_21 hS (by kernel_rfl) (by kernel_rfl) (fun c a w => hQ c a _ _ w) (fun w' hw' => ?_) hW ?_
 · obtain ⟨q0, q1, q2, q3, q4, q5, q6, q7, q8⟩ := hw'
   rw [e48_21]; simp only [execOp, t21_23, t21_24, Option.map_some, Option.map_none]
   go_simp
 obtain ⟨x22, hx22⟩ : ∃ x', x' = x21.put (some 25) (.slice none 0 0) := ⟨_, rfl⟩
 have z22 : x22.tmps.size = 40 := by rw [hx22, sz_put]; exact z21
 have df22 : x22.defers = a.defers := by rw [hx22]; exact df21
 have t22_0 := (ev_ne x21 25 0 (.slice none 0 0) (by decide)).trans t21_0
 rw [← hx22] at t22_0
 have t22_3 := (ev_ne x21 25 3 (.slice none 0 0) (by decide)).trans t21_3
 rw [← hx22] at t22_3
 have t22_4 := (ev_ne x21 25 4 (.slice none 0 0) (by decide)).trans t21_4
 rw [← hx22] at t22_4
 have t22_5 := (ev_ne x21 25 5 (.slice none 0 0) (by decide)).trans t21_5
 rw [← hx22] at t22_5
 have t22_6 := (ev_ne x21 25 6 (.slice none 0 0) (by decide)).trans t21_6
 rw [← hx22] at t22_6
 have t22_7 := (ev_ne x21 25 7 (.slice none 0 0) (by decide)).trans t21_7
 rw [← hx22] at t22_7
 have t22_13 := (ev_ne x21 25 13 (.slice none 0 0) (by decide)).trans t21_13
 rw [← hx22] at t22_13
 have t22_19 := (ev_ne x21 25 19 (.slice none 0 0) (by decide)).trans t21_19
 rw [← hx22] at t22_19
 have t22_25 := ev_same x21 25 (.slice none 0 0) (by rw [z21]; decide)
 rw [← hx22] at t22_25
 rw [← hx22]
 clear hx22 t21_0 t21_3 t21_4 t21_5 t21_6 t21_7 t21_13 t21_19 t21_23 t21_24
 refine takeD (i := 22) (v := .pointer (some ⟨kb, 0, none⟩)) i48_22 d48_22 g48_22 hS (by kernel_rfl) (by kernel_rfl) (fun c a w => hQ c a _ _ w) (fun w' hw' => ?_) hW ?_
 · obtain ⟨q0, q1, q2, q3, q4, q5, q6, q7, q8⟩ := hw'
   rw [e48_22]; simp only [execOp, t22_0, Option.map_some, Option.map_none]
   go_simp
 obtain ⟨x23, hx23⟩ : ∃ x', x' = x22.put (some 26) (.pointer (some ⟨kb, 0, none⟩)) := ⟨_, rfl⟩
 have z23 : x23.tmps.size = 40 := by rw [hx23, sz_put]; exact z22
 have df23 : x23.defers = a.defers := by rw [hx23]; exact df22
 have t23_3 := (ev_ne x22 26 3 (.pointer (some ⟨kb, 0, none⟩)) (by decide)).trans t22_3
 rw [← hx23] at t23_3
 have t23_4 := (ev_ne x22 26 4 (.pointer (some ⟨kb, 0, none⟩)) (by decide)).trans t22_4
 rw [← hx23] at t23_4
 have t23_5 := (ev_ne x22 26 5 (.pointer (some ⟨kb, 0, none⟩)) (by decide)).trans t22_5
 rw [← hx23] at t23_5
 have t23_6 := (ev_ne x22 26 6 (.pointer (some ⟨kb, 0, none⟩)) (by decide)).trans t22_6
 rw [← hx23] at t23_6
 have t23_7 := (ev_ne x22 26 7 (.pointer (some ⟨kb, 0, none⟩)) (by decide)).trans t22_7
 rw [← hx23] at t23_7
 have t23_13 := (ev_ne x22 26 13 (.pointer (some ⟨kb, 0, none⟩)) (by decide)).trans t22_13
 rw [← hx23] at t23_13
 have t23_19 := (ev_ne x22 26 19 (.pointer (some ⟨kb, 0, none⟩)) (by decide)).trans t22_19
 rw [← hx23] at t23_19
 have t23_25 := (ev_ne x22 26 25 (.pointer (some ⟨kb, 0, none⟩)) (by decide)).trans t22_25
 rw [← hx23] at t23_25
 have t23_26 := ev_same x22 26 (.pointer (some ⟨kb, 0, none⟩)) (by rw [z22]; decide)
 rw [← hx23] at t23_26
 rw [← hx23]
 clear hx23 t22_0 t22_3 t22_4 t22_5 t22_6 t22_7 t22_13 t22_19 t22_25
 refine takeD (i := 23) (v := .pointer (some ⟨kb, 0, none⟩)) i48_23 d48_23 g48_23 hS (by kernel_rfl) (by kernel_rfl) (fun c a w => hQ c a _ _ w) (fun w' hw' => ?_) hW ?_
 · obtain ⟨q0, q1, q2, q3, q4, q5, q6, q7, q8⟩ := hw'
   rw [e48_23]; simp only [execOp, t23_26, Option.map_some, Option.map_none]
   go_simp
 obtain ⟨x24, hx24⟩ : ∃ x', x' = x23.put (some 27) (.pointer (some ⟨kb, 0, none⟩)) := ⟨_, rfl⟩
 have z24 : x24.tmps.size = 40 := by rw [hx24, sz_put]; exact z23
 have df24 : x24.defers = a.defers := by rw [hx24]; exact df23
 have t24_3 := (ev_ne x23 27 3 (.pointer (some ⟨kb, 0, none⟩)) (by decide)).trans t23_3
 rw [← hx24] at t24_3
 have t24_4 := (ev_ne x23 27 4 (.pointer (some ⟨kb, 0, none⟩)) (by decide)).trans t23_4
 rw [← hx24] at t24_4
 have t24_5 := (ev_ne x23 27 5 (.pointer (some ⟨kb, 0, none⟩)) (by decide)).trans t23_5
 rw [← hx24] at t24_5
 have t24_6 := (ev_ne x23 27 6 (.pointer (some ⟨kb, 0, none⟩)) (by decide)).trans t23_6
 rw [← hx24] at t24_6
 have t24_7 := (ev_ne x23 27 7 (.pointer (some ⟨kb, 0, none⟩)) (by decide)).trans t23_7
 rw [← hx24] at t24_7
 have t24_13 := (ev_ne x23 27 13 (.pointer (some ⟨kb, 0, none⟩)) (by decide)).trans t23_13
 rw [← hx24] at t24_13
 have t24_19 := (ev_ne x23 27 19 (.pointer (some ⟨kb, 0, none⟩)) (by decide)).trans t23_19
 rw [← hx24] at t24_19
 have t24_25 := (ev_ne x23 27 25 (.pointer (some ⟨kb, 0, none⟩)) (by decide)).trans t23_25
 rw [← hx24] at t24_25
 have t24_27 := ev_same x23 27 (.pointer (some ⟨kb, 0, none⟩)) (by rw [z23]; decide)
 rw [← hx24] at t24_27
 rw [← hx24]
 clear hx24 t23_3 t23_4 t23_5 t23_6 t23_7 t23_13 t23_19 t23_25 t23_26
 refine takeD (i := 24) (v := .pointer (some ⟨kb, 3, none⟩)) i48_24 d48_24 g48_24 hS (by kernel_rfl) (by kernel_rfl) (fun c a w => hQ c a _ _ w) (fun w' hw' => ?_) hW ?_
 · obtain ⟨q0, q1, q2, q3, q4, q5, q6, q7, q8⟩ := hw'
   rw [e48_24]; simp only [execOp, t24_27, Option.map_some, Option.map_none]
   go_simp
 obtain ⟨x25, hx25⟩ : ∃ x', x' = x24.put (some 28) (.pointer (some ⟨kb, 3, none⟩)) := ⟨_, rfl⟩
 have z25 : x25.tmps.size = 40 := by rw [hx25, sz_put]; exact z24
 have df25 : x25.defers = a.defers := by rw [hx25]; exact df24
 have t25_3 := (ev_ne x24 28 3 (.pointer (some ⟨kb, 3, none⟩)) (by decide)).trans t24_3
 rw [← hx25] at t25_3
 have t25_4 := (ev_ne x24 28 4 (.pointer (some ⟨kb, 3, none⟩)) (by decide)).trans t24_4
 rw [← hx25] at t25_4
 have t25_5 := (ev_ne x24 28 5 (.pointer (some ⟨kb, 3, none⟩)) (by decide)).trans t24_5
 rw [← hx25] at t25_5
 have t25_6 := (ev_ne x24 28 6 (.pointer (some ⟨kb, 3, none⟩)) (by decide)).trans t24_6
 rw [← hx25] at t25_6
 have t25_7 := (ev_ne x24 28 7 (.pointer (some ⟨kb, 3, none⟩)) (by decide)).trans t24_7
 rw [← hx25] at t25_7
 have t25_13 := (ev_ne x24 28 13 (.pointer (some ⟨kb, 3, none⟩)) (by decide)).trans t24_13
 rw [← hx25] at t25_13
 have t25_19 := (ev_ne x24 28 19 (.pointer (some ⟨kb, 3, none⟩)) (by decide)).trans t24_19
 rw [← hx25] at t25_19
 have t25_25 := (ev_ne x24 28 25 (.pointer (some ⟨kb, 3, none⟩)) (by decide)).trans t24_25
 rw [← hx25] at t25_25
 have t25_28 := ev_same x24 28 (.pointer (some ⟨kb, 3, none⟩)) (by rw [z24]; decide)
 rw [← hx25] at t25_28
 rw [← hx25]
 clear hx25 t24_3 t24_4 t24_5 t24_6 t24_7 t24_13 t24_19 t24_25 t24_27
 refine takeD (i := 25) (v := .slice none 0 0) i48_25 d48_25 g48_25 hS (by kernel_rfl) (by kernel_rfl) (fun c a w => hQ c a _ _ w) (fun w' hw' => ?_) hW ?_
 · obtain ⟨q0, q1, q2, q3, q4, q5, q6, q7, q8⟩ := hw'
   rw [e48_25]; simp only [execOp, t25_28, Option.map_some, Option.map_none]
   go_simp
 obtain ⟨x26, hx26⟩ : ∃ x', x' = x25.put (some 29) (.slice none 0 0) := ⟨_, rfl⟩
 have z26 : x26.tmps.size = 40 := by rw [hx26, sz_put]; exact z25
 have df26 : x26.defers = a.defers := by rw [hx26]; exact df25
 have t26_3 := (ev_ne x25 29 3 (.slice none 0 0) (by decide)).trans t25_3
 rw [← hx26] at t26_3
 have t26_4 := (ev_ne x25 29 4 (.slice none 0 0) (by decide)).trans t25_4
 rw [← hx26] at t26_4
 have t26_5 := (ev_ne x25 29 5 (.slice none 0 0) (by decide)).trans t25_5
 rw [← hx26] at t26_5
 have t26_6 := (ev_ne x25 29 6 (.slice none 0 0) (by decide)).trans t25_6
 rw [← hx26] at t26_6
 have t26_7 := (ev_ne x25 29 7 (.slice none 0 0) (by decide)).trans t25_7
 rw [← hx26] at t26_7
 have t26_13 := (ev_ne x25 29 13 (.slice none 0 0) (by decide)).trans t25_13
 rw [← hx26] at t26_13
 have t26_19 := (ev_ne x25 29 19 (.slice none 0 0) (by decide)).trans t25_19
 rw [← hx26] at t26_19
 have t26_25 := (ev_ne x25 29 25 (.slice none 0 0) (by decide)).trans t25_25
 rw [← hx26] at t26_25
 have t26_29 := ev_same x25 29 (.slice none 0 0) (by rw [z25]; decide)
 rw [← hx26] at t26_29
 rw [← hx26]
 clear hx26 t25_3 t25_4 t25_5 t25_6 t25_7 t25_13 t25_19 t25_25 t25_28
 refine takeD (i := 26) (v := .int .i64 0) i48_26 d48_26 g48_26 hS (by kernel_rfl) (by kernel_rfl) (fun c a w => hQ c a _ _ w) (fun w' hw' => ?_) hW ?_
 · obtain ⟨q0, q1, q2, q3, q4, q5, q6, q7, q8⟩ := hw'
   rw [e48_26]; simp only [execOp, t26_3, Option.map_some, Option.map_none]
   go_simp
 obtain ⟨x27, hx27⟩ : ∃ x', x' = x26.put (some 30) (.int .i64 0) := ⟨_, rfl⟩
 have z27 : x27.tmps.size = 40 := by rw [hx27, sz_put]; exact z26
 have df27 : x27.defers = a.defers := by rw [hx27]; exact df26
 have t27_4 := (ev_ne x26 30 4 (.int .i64 0) (by decide)).trans t26_4
 rw [← hx27] at t27_4
 have t27_5 := (ev_ne x26 30 5 (.int .i64 0) (by decide)).trans t26_5
 rw [← hx27] at t27_5
 have t27_6 := (ev_ne x26 30 6 (.int .i64 0) (by decide)).trans t26_6
 rw [← hx27] at t27_6
 have t27_7 := (ev_ne x26 30 7 (.int .i64 0) (by decide)).trans t26_7
 rw [← hx27] at t27_7
 have t27_13 := (ev_ne x26 30 13 (.int .i64 0) (by decide)).trans t26_13
 rw [← hx27] at t27_13
 have t27_19 := (ev_ne x26 30 19 (.int .i64 0) (by decide)).trans t26_19
 rw [← hx27] at t27_19
 have t27_25 := (ev_ne x26 30 25 (.int .i64 0) (by decide)).trans t26_25
 rw [← hx27] at t27_25
 have t27_29 := (ev_ne x26 30 29 (.int .i64 0) (by decide)).trans t26_29
 rw [← hx27] at t27_29
 have t27_30 := ev_same x26 30 (.int .i64 0) (by rw [z26]; decide)
 rw [← hx27] at t27_30
 rw [← hx27]
 clear hx27 t26_3 t26_4 t26_5 t26_6 t26_7 t26_13 t26_19 t26_25 t26_29
 refine takeD (i := 27) (v := .slice none 0 0) i48_27 d48_27 g48_27 hS (by kernel_rfl) (by kernel_rfl) (fun c a w => hQ c a _ _ w) (fun w' hw' => ?_) hW ?_
 · obtain ⟨q0, q1, q2, q3, q4, q5, q6, q7, q8⟩ := hw'
   rw [e48_27]; simp only [execOp, t27_29, t27_30, Option.map_some, Option.map_none]
   go_simp
 obtain ⟨x28, hx28⟩ : ∃ x', x' = x27.put (some 31) (.slice none 0 0) := ⟨_, rfl⟩
 have z28 : x28.tmps.size = 40 := by rw [hx28, sz_put]; exact z27
 have df28 : x28.defers = a.defers := by rw [hx28]; exact df27
 have t28_4 := (ev_ne x27 31 4 (.slice none 0 0) (by decide)).trans t27_4
 rw [← hx28] at t28_4
 have t28_5 := (ev_ne x27 31 5 (.slice none 0 0) (by decide)).trans t27_5
 rw [← hx28] at t28_5
 have t28_6 := (ev_ne x27 31 6 (.slice none 0 0) (by decide)).trans t27_6
 rw [← hx28] at t28_6
 have t28_7 := (ev_ne x27 31 7 (.slice none 0 0) (by decide)).trans t27_7
 rw [← hx28] at t28_7
 have t28_13 := (ev_ne x27 31 13 (.slice none 0 0) (by decide)).trans t27_13
 rw [← hx28] at t28_13
 have t28_19 := (ev_ne x27 31 19 (.slice none 0 0) (by decide)).trans t27_19
 rw [← hx28] at t28_19
 have t28_25 := (ev_ne x27 31 25 (.slice none 0 0) (by decide)).trans t27_25
 rw [← hx28] at t28_25
 have t28_31 := ev_same x27 31 (.slice none 0 0) (by rw [z27]; decide)
 rw [← hx28] at t28_31
 rw [← hx28]
 clear hx28 t27_4 t27_5 t27_6 t27_7 t27_13 t27_19 t27_25 t27_29 t27_30
 obtain ⟨W0, w0e⟩ : ∃ W', W' = w.drew := ⟨_, rfl⟩
 rw [← w0e] at hW hK ⊢
 have hW0' := hW
 clear hW0
 have hW0 := hW0'
 clear hW0'
 have cc0 : W0.cell? ⟨kb, 0, none⟩ = some (.slice (some ⟨fb, 0, none⟩) 1 fc) := hW0.2.1
 refine heldStep (i := 28) (v := .pointer (some ⟨kb, 0, none⟩)) (by kernel_rfl) i48_28 d48_28 g48_28 (?_ : (execOp x28.eval (o48 28)).run Tryz.prog W0 = .ok (.value (.pointer (some ⟨kb, 0, none⟩))) W0) hW0 ?_
 · rw [e48_28]; simp only [execOp, t28_4]
   go_simp
 obtain ⟨x29, hx29⟩ : ∃ x', x' = x28.put (some 32) (.pointer (some ⟨kb, 0, none⟩)) := ⟨_, rfl⟩
 have z29 : x29.tmps.size = 40 := by rw [hx29, sz_put]; exact z28
 have df29 : x29.defers = a.defers := by rw [hx29]; exact df28
 have t29_5 := (ev_ne x28 32 5 (.pointer (some ⟨kb, 0, none⟩)) (by decide)).trans t28_5
 rw [← hx29] at t29_5
 have t29_6 := (ev_ne x28 32 6 (.pointer (some ⟨kb, 0, none⟩)) (by decide)).trans t28_6
 rw [← hx29] at t29_6
 have t29_7 := (ev_ne x28 32 7 (.pointer (some ⟨kb, 0, none⟩)) (by decide)).trans t28_7
 rw [← hx29] at t29_7
 have t29_13 := (ev_ne x28 32 13 (.pointer (some ⟨kb, 0, none⟩)) (by decide)).trans t28_13
 rw [← hx29] at t29_13
 have t29_19 := (ev_ne x28 32 19 (.pointer (some ⟨kb, 0, none⟩)) (by decide)).trans t28_19
 rw [← hx29] at t29_19
 have t29_25 := (ev_ne x28 32 25 (.pointer (some ⟨kb, 0, none⟩)) (by decide)).trans t28_25
 rw [← hx29] at t29_25
 have t29_31 := (ev_ne x28 32 31 (.pointer (some ⟨kb, 0, none⟩)) (by decide)).trans t28_31
 rw [← hx29] at t29_31
 have t29_32 := ev_same x28 32 (.pointer (some ⟨kb, 0, none⟩)) (by rw [z28]; decide)
 rw [← hx29] at t29_32
 rw [← hx29]
 clear hx29 t28_4 t28_5 t28_6 t28_7 t28_13 t28_19 t28_25 t28_31
 refine heldStep (i := 29) (v := .pointer (some ⟨kb, 0, none⟩)) (by kernel_rfl) i48_29 d48_29 g48_29 (?_ : (execOp x29.eval (o48 29)).run Tryz.prog W0 = .ok (.value (.pointer (some ⟨kb, 0, none⟩))) W0) hW0 ?_
 · rw [e48_29]; simp only [execOp, t29_32]
   go_simp
 obtain ⟨x30, hx30⟩ : ∃ x', x' = x29.put (some 33) (.pointer (some ⟨kb, 0, none⟩)) := ⟨_, rfl⟩
 have z30 : x30.tmps.size = 40 := by rw [hx30, sz_put]; exact z29
 have df30 : x30.defers = a.defers := by rw [hx30]; exact df29
 have t30_5 := (ev_ne x29 33 5 (.pointer (some ⟨kb, 0, none⟩)) (by decide)).trans t29_5
 rw [← hx30] at t30_5
 have t30_6 := (ev_ne x29 33 6 (.pointer (some ⟨kb, 0, none⟩)) (by decide)).trans t29_6
 rw [← hx30] at t30_6
 have t30_7 := (ev_ne x29 33 7 (.pointer (some ⟨kb, 0, none⟩)) (by decide)).trans t29_7
 rw [← hx30] at t30_7
 have t30_13 := (ev_ne x29 33 13 (.pointer (some ⟨kb, 0, none⟩)) (by decide)).trans t29_13
 rw [← hx30] at t30_13
 have t30_19 := (ev_ne x29 33 19 (.pointer (some ⟨kb, 0, none⟩)) (by decide)).trans t29_19
 rw [← hx30] at t30_19
 have t30_25 := (ev_ne x29 33 25 (.pointer (some ⟨kb, 0, none⟩)) (by decide)).trans t29_25
 rw [← hx30] at t30_25
 have t30_31 := (ev_ne x29 33 31 (.pointer (some ⟨kb, 0, none⟩)) (by decide)).trans t29_31
 rw [← hx30] at t30_31
 have t30_33 := ev_same x29 33 (.pointer (some ⟨kb, 0, none⟩)) (by rw [z29]; decide)
 rw [← hx30] at t30_33
 rw [← hx30]
 clear hx30 t29_5 t29_6 t29_7 t29_13 t29_19 t29_25 t29_31 t29_32
 refine heldSkip (i := 30) (by kernel_rfl) i48_30 d48_30 g48_30 (?_ : (execOp x30.eval (o48 30)).run Tryz.prog W0 = .ok .skip (W0.setCell ⟨kb, 0, none⟩ (.slice (some ⟨fb, 0, none⟩) 1 fc))) (hW0.set np n5 n6 n7 cc0) ?_
 · rw [e48_30]; exact storeRunS t30_33 t30_13 cc0 (hW0.2.2.2.2.2.2.2.2 0) rfl
 have pn0 : ∀ v : Value, x30.put none v = x30 := fun _ => rfl
 rw [pn0]
 have hW1 := hW0.set np n5 n6 n7 cc0
 obtain ⟨W1, w1e⟩ : ∃ W', W' = W0.setCell ⟨kb, 0, none⟩ (.slice (some ⟨fb, 0, none⟩) 1 fc) := ⟨_, rfl⟩
 rw [← w1e] at hW1 ⊢
 have cc1 : W1.cell? ⟨kb, 1, none⟩ = some (.slice none 0 0) := hW1.2.2.1
 refine heldStep (i := 31) (v := .pointer (some ⟨kb, 0, none⟩)) (by kernel_rfl) i48_31 d48_31 g48_31 (?_ : (execOp x30.eval (o48 31)).run Tryz.prog W1 = .ok (.value (.pointer (some ⟨kb, 0, none⟩))) W1) hW1 ?_
 · rw [e48_31]; simp only [execOp, t30_5]
   go_simp
 obtain ⟨x31, hx31⟩ : ∃ x', x' = x30.put (some 34) (.pointer (some ⟨kb, 0, none⟩)) := ⟨_, rfl⟩
 have z31 : x31.tmps.size = 40 := by rw [hx31, sz_put]; exact z30
 have df31 : x31.defers = a.defers := by rw [hx31]; exact df30
 have t31_6 := (ev_ne x30 34 6 (.pointer (some ⟨kb, 0, none⟩)) (by decide)).trans t30_6
 rw [← hx31] at t31_6
 have t31_7 := (ev_ne x30 34 7 (.pointer (some ⟨kb, 0, none⟩)) (by decide)).trans t30_7
 rw [← hx31] at t31_7
 have t31_19 := (ev_ne x30 34 19 (.pointer (some ⟨kb, 0, none⟩)) (by decide)).trans t30_19
 rw [← hx31] at t31_19
 have t31_25 := (ev_ne x30 34 25 (.pointer (some ⟨kb, 0, none⟩)) (by decide)).trans t30_25
 rw [← hx31] at t31_25
 have t31_31 := (ev_ne x30 34 31 (.pointer (some ⟨kb, 0, none⟩)) (by decide)).trans t30_31
 rw [← hx31] at t31_31
 have t31_34 := ev_same x30 34 (.pointer (some ⟨kb, 0, none⟩)) (by rw [z30]; decide)
 rw [← hx31] at t31_34
 rw [← hx31]
 clear hx31 t30_5 t30_6 t30_7 t30_13 t30_19 t30_25 t30_31 t30_33
 refine heldStep (i := 32) (v := .pointer (some ⟨kb, 1, none⟩)) (by kernel_rfl) i48_32 d48_32 g48_32 (?_ : (execOp x31.eval (o48 32)).run Tryz.prog W1 = .ok (.value (.pointer (some ⟨kb, 1, none⟩))) W1) hW1 ?_
 · rw [e48_32]; simp only [execOp, t31_34]
   go_simp
 obtain ⟨x32, hx32⟩ : ∃ x', x' = x31.put (some 35) (.pointer (some ⟨kb, 1, none⟩)) := ⟨_, rfl⟩
 have z32 : x32.tmps.size = 40 := by rw [hx32, sz_put]; exact z31
 have df32 : x32.defers = a.defers := by rw [hx32]; exact df31
 have t32_6 := (ev_ne x31 35 6 (.pointer (some ⟨kb, 1, none⟩)) (by decide)).trans t31_6
 rw [← hx32] at t32_6
 have t32_7 := (ev_ne x31 35 7 (.pointer (some ⟨kb, 1, none⟩)) (by decide)).trans t31_7
 rw [← hx32] at t32_7
 have t32_19 := (ev_ne x31 35 19 (.pointer (some ⟨kb, 1, none⟩)) (by decide)).trans t31_19
 rw [← hx32] at t32_19
 have t32_25 := (ev_ne x31 35 25 (.pointer (some ⟨kb, 1, none⟩)) (by decide)).trans t31_25
 rw [← hx32] at t32_25
 have t32_31 := (ev_ne x31 35 31 (.pointer (some ⟨kb, 1, none⟩)) (by decide)).trans t31_31
 rw [← hx32] at t32_31
 have t32_35 := ev_same x31 35 (.pointer (some ⟨kb, 1, none⟩)) (by rw [z31]; decide)
 rw [← hx32] at t32_35
 rw [← hx32]
 clear hx32 t31_6 t31_7 t31_19 t31_25 t31_31 t31_34
 refine heldSkip (i := 33) (by kernel_rfl) i48_33 d48_33 g48_33 (?_ : (execOp x32.eval (o48 33)).run Tryz.prog W1 = .ok .skip (W1.setCell ⟨kb, 1, none⟩ (.slice none 0 0))) (hW1.set np n5 n6 n7 cc1) ?_
 · rw [e48_33]; exact storeRunS t32_35 t32_19 cc1 (hW1.2.2.2.2.2.2.2.2 1) rfl
 have pn1 : ∀ v : Value, x32.put none v = x32 := fun _ => rfl
 rw [pn1]
 have hW2 := hW1.set np n5 n6 n7 cc1
 obtain ⟨W2, w2e⟩ : ∃ W', W' = W1.setCell ⟨kb, 1, none⟩ (.slice none 0 0) := ⟨_, rfl⟩
 rw [← w2e] at hW2 ⊢
 have cc2 : W2.cell? ⟨kb, 2, none⟩ = some (.slice none 0 0) := hW2.2.2.2.1
 refine heldStep (i := 34) (v := .pointer (some ⟨kb, 0, none⟩)) (by kernel_rfl) i48_34 d48_34 g48_34 (?_ : (execOp x32.eval (o48 34)).run Tryz.prog W2 = .ok (.value (.pointer (some ⟨kb, 0, none⟩))) W2) hW2 ?_
 · rw [e48_34]; simp only [execOp, t32_6]
   go_simp
 obtain ⟨x33, hx33⟩ : ∃ x', x' = x32.put (some 36) (.pointer (some ⟨kb, 0, none⟩)) := ⟨_, rfl⟩
 have z33 : x33.tmps.size = 40 := by rw [hx33, sz_put]; exact z32
 have df33 : x33.defers = a.defers := by rw [hx33]; exact df32
 have t33_7 := (ev_ne x32 36 7 (.pointer (some ⟨kb, 0, none⟩)) (by decide)).trans t32_7
 rw [← hx33] at t33_7
 have t33_25 := (ev_ne x32 36 25 (.pointer (some ⟨kb, 0, none⟩)) (by decide)).trans t32_25
 rw [← hx33] at t33_25
 have t33_31 := (ev_ne x32 36 31 (.pointer (some ⟨kb, 0, none⟩)) (by decide)).trans t32_31
 rw [← hx33] at t33_31
 have t33_36 := ev_same x32 36 (.pointer (some ⟨kb, 0, none⟩)) (by rw [z32]; decide)
 rw [← hx33] at t33_36
 rw [← hx33]
 clear hx33 t32_6 t32_7 t32_19 t32_25 t32_31 t32_35
 refine heldStep (i := 35) (v := .pointer (some ⟨kb, 2, none⟩)) (by kernel_rfl) i48_35 d48_35 g48_35 (?_ : (execOp x33.eval (o48 35)).run Tryz.prog W2 = .ok (.value (.pointer (some ⟨kb, 2, none⟩))) W2) hW2 ?_
 · rw [e48_35]; simp only [execOp, t33_36]
   go_simp
 obtain ⟨x34, hx34⟩ : ∃ x', x' = x33.put (some 37) (.pointer (some ⟨kb, 2, none⟩)) := ⟨_, rfl⟩
 have z34 : x34.tmps.size = 40 := by rw [hx34, sz_put]; exact z33
 have df34 : x34.defers = a.defers := by rw [hx34]; exact df33
 have t34_7 := (ev_ne x33 37 7 (.pointer (some ⟨kb, 2, none⟩)) (by decide)).trans t33_7
 rw [← hx34] at t34_7
 have t34_25 := (ev_ne x33 37 25 (.pointer (some ⟨kb, 2, none⟩)) (by decide)).trans t33_25
 rw [← hx34] at t34_25
 have t34_31 := (ev_ne x33 37 31 (.pointer (some ⟨kb, 2, none⟩)) (by decide)).trans t33_31
 rw [← hx34] at t34_31
 have t34_37 := ev_same x33 37 (.pointer (some ⟨kb, 2, none⟩)) (by rw [z33]; decide)
 rw [← hx34] at t34_37
 rw [← hx34]
 clear hx34 t33_7 t33_25 t33_31 t33_36
 refine heldSkip (i := 36) (by kernel_rfl) i48_36 d48_36 g48_36 (?_ : (execOp x34.eval (o48 36)).run Tryz.prog W2 = .ok .skip (W2.setCell ⟨kb, 2, none⟩ (.slice none 0 0))) (hW2.set np n5 n6 n7 cc2) ?_
 · rw [e48_36]; exact storeRunS t34_37 t34_25 cc2 (hW2.2.2.2.2.2.2.2.2 2) rfl
 have pn2 : ∀ v : Value, x34.put none v = x34 := fun _ => rfl
 rw [pn2]
 have hW3 := hW2.set np n5 n6 n7 cc2
 obtain ⟨W3, w3e⟩ : ∃ W', W' = W2.setCell ⟨kb, 2, none⟩ (.slice none 0 0) := ⟨_, rfl⟩
 rw [← w3e] at hW3 ⊢
 have cc3 : W3.cell? ⟨kb, 3, none⟩ = some (.slice none 0 0) := hW3.2.2.2.2.1
 refine heldStep (i := 37) (v := .pointer (some ⟨kb, 0, none⟩)) (by kernel_rfl) i48_37 d48_37 g48_37 (?_ : (execOp x34.eval (o48 37)).run Tryz.prog W3 = .ok (.value (.pointer (some ⟨kb, 0, none⟩))) W3) hW3 ?_
 · rw [e48_37]; simp only [execOp, t34_7]
   go_simp
 obtain ⟨x35, hx35⟩ : ∃ x', x' = x34.put (some 38) (.pointer (some ⟨kb, 0, none⟩)) := ⟨_, rfl⟩
 have z35 : x35.tmps.size = 40 := by rw [hx35, sz_put]; exact z34
 have df35 : x35.defers = a.defers := by rw [hx35]; exact df34
 have t35_31 := (ev_ne x34 38 31 (.pointer (some ⟨kb, 0, none⟩)) (by decide)).trans t34_31
 rw [← hx35] at t35_31
 have t35_38 := ev_same x34 38 (.pointer (some ⟨kb, 0, none⟩)) (by rw [z34]; decide)
 rw [← hx35] at t35_38
 rw [← hx35]
 clear hx35 t34_7 t34_25 t34_31 t34_37
 refine heldStep (i := 38) (v := .pointer (some ⟨kb, 3, none⟩)) (by kernel_rfl) i48_38 d48_38 g48_38 (?_ : (execOp x35.eval (o48 38)).run Tryz.prog W3 = .ok (.value (.pointer (some ⟨kb, 3, none⟩))) W3) hW3 ?_
 · rw [e48_38]; simp only [execOp, t35_38]
   go_simp
 obtain ⟨x36, hx36⟩ : ∃ x', x' = x35.put (some 39) (.pointer (some ⟨kb, 3, none⟩)) := ⟨_, rfl⟩
 have z36 : x36.tmps.size = 40 := by rw [hx36, sz_put]; exact z35
 have df36 : x36.defers = a.defers := by rw [hx36]; exact df35
 have t36_31 := (ev_ne x35 39 31 (.pointer (some ⟨kb, 3, none⟩)) (by decide)).trans t35_31
 rw [← hx36] at t36_31
 have t36_39 := ev_same x35 39 (.pointer (some ⟨kb, 3, none⟩)) (by rw [z35]; decide)
 rw [← hx36] at t36_39
 rw [← hx36]
 clear hx36 t35_31 t35_38
 refine heldSkip (i := 39) (by kernel_rfl) i48_39 d48_39 g48_39 (?_ : (execOp x36.eval (o48 39)).run Tryz.prog W3 = .ok .skip (W3.setCell ⟨kb, 3, none⟩ (.slice none 0 0))) (hW3.set np n5 n6 n7 cc3) ?_
 · rw [e48_39]; exact storeRunS t36_39 t36_31 cc3 (hW3.2.2.2.2.2.2.2.2 3) rfl
 have pn3 : ∀ v : Value, x36.put none v = x36 := fun _ => rfl
 rw [pn3]
 have hW4 := hW3.set np n5 n6 n7 cc3
 obtain ⟨W4, w4e⟩ : ∃ W', W' = W3.setCell ⟨kb, 3, none⟩ (.slice none 0 0) := ⟨_, rfl⟩
 rw [← w4e] at hW4 ⊢
 refine wpAnyH_done (by kernel_rfl) ?_ _
 have := hK x36 df36
 rw [← w1e, ← w2e, ← w3e, ← w4e] at this
 exact this
end Go.Proofs
