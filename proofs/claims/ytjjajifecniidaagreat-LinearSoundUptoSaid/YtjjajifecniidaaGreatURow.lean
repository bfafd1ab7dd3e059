/- LinearSound: for every list of constraints, every derivation and every model within the bound on the input (at most 2^20 values in all), the law answers true: constraints which a derivation refutes hold for no integers; with the values that the model gives the atoms, some constraint fails. -/
import Derived.Test.YtjjajifecniidaaGreatUMod1toUSnd4
import Derived.Test.YtjjajifecniidaaGreatUK
import Derived.Test.YtjjajifecniidaaGreatSqLift
import Derived.Test.YtjjajifecniidaaGreatRowLib
import Derived.Test.YtjjajifecniidaaGreatLiftB
set_option linter.unusedSimpArgs false
set_option linter.unusedVariables false
namespace Go.Proofs.YtjjajifecniidaaGreat
open Go.ChangeShapes Go.WideShapes Go.ChangeAt Go.RowKit Go.ChangeMaps Go.Abs Go.Abs.Try
set_option maxRecDepth 100000
theorem own : ownKnob Tryz.prog.godebug = none := by kernel_rfl
theorem laidOut : laidOutB Tryz.prog = true := by kernel_rfl
theorem cells4 : Tryz.prog.cellsOf 4 = 1 := by kernel_rfl
theorem cells22 : Tryz.prog.cellsOf 22 = 1 := by kernel_rfl
theorem cells23 : Tryz.prog.cellsOf 23 = 1 := by kernel_rfl
theorem cells28 : Tryz.prog.cellsOf 28 = 1 := by kernel_rfl
theorem cells30 : Tryz.prog.cellsOf 30 = 2 := by kernel_rfl
theorem cells32 : Tryz.prog.cellsOf 32 = 3 := by kernel_rfl
theorem cells38 : Tryz.prog.cellsOf 38 = 1 := by kernel_rfl
theorem cells39 : Tryz.prog.cellsOf 39 = 1 := by kernel_rfl
theorem cells41 : Tryz.prog.cellsOf 41 = 5 := by kernel_rfl
theorem cells48 : Tryz.prog.cellsOf 48 = 1 := by kernel_rfl
theorem cells54 : Tryz.prog.cellsOf 54 = 6 := by kernel_rfl
theorem cells55 : Tryz.prog.cellsOf 55 = 1 := by kernel_rfl
theorem cells57 : Tryz.prog.cellsOf 57 = 5 := by kernel_rfl
theorem cells79 : Tryz.prog.cellsOf 79 = 2 := by kernel_rfl
theorem cells117 : Tryz.prog.cellsOf 117 = 1 := by kernel_rfl
theorem cells119 : Tryz.prog.cellsOf 119 = 7 := by kernel_rfl
section
variable {H : Type} {enc : TypeId × Value → H} {W : World}
def Mono.mu (x : Mono) : Nat := iB x.monoCoef + Node.size x.monoAtom
theorem RA_Mono : ∀ n, RA enc Tryz.prog W Rows.uptoBulk n 54 Mono.cells Mono.mu
 | 0 => RA.zero
 | n + 1 => fun fuel hf cs d ps h => by
   obtain ⟨xs, m, hfu, hx, hl, hlen, hfld⟩ := DataW.trod_struct Tryz.underlying54 h
   rw [cells54] at hl
   match xs, hlen, cs, hl with
   | [y0, y1], _, [c0, c1, c2, c3, c4, c5], _ =>
     have e0 := hfld 0 _ rfl
     have e1 := hfld 1 _ rfl
     simp only [cells2, cells52, List.drop_zero, List.drop_succ_cons, List.take_succ_cons, List.take_zero, List.getElem?_cons_zero, List.getElem?_cons_succ] at e0 e1
     obtain ⟨x0, r0, l0, b0⟩ := (RA.intB (n := m) bulkOk Tryz.underlying2).field (n' := m) (by omega) e0
     obtain ⟨x1, r1, l1, b1⟩ := (RA_Node m).field (n' := m) (by omega) e1
     injection hx with hx _
     subst hx
     have hc : Mono.cells ⟨x0, x1⟩ = (cI .i64) x0 ++ (Node.cells x1 ++ []) := by simp only [Mono.cells_eq, Node.cells_eq]; rfl
     refine ⟨⟨x0, x1⟩, ?_, ?_, ?_⟩
     · rw [hc]; exact Reps.append r0 (Reps.append r1 ((rfl : Reps _ [] 0 [])))
     · rw [hc]; simp only [allLeaf_append, l0, l1]; rfl
     · have := bulkOk.agg (H := H) [y0.1, y1.1]
       simp only [List.map_cons, List.map_nil, List.sum_cons, List.sum_nil] at this ⊢
       skip
       show iB x0 + Node.size x1 ≤ _
       omega
theorem rdMono {v : Value} {d : DataW H} {p : List MemPlace} (h : DataW.Trod enc Tryz.prog W 0 (fun _ => true) true 54 v d p) : ∃ n : Mono, Rep (gW Tryz.prog W) (.agg (Mono.cells n)) 0 v ∧ Mono.mu n ≤ Rows.uptoBulk d := by
 obtain ⟨fuel, hf⟩ := h
 obtain ⟨n, hr, _, hb⟩ := RA_Mono fuel fuel (Nat.le_refl _) _ _ _ hf
 have hl := Reps.length hr
 refine ⟨n, ?_, hb⟩
 cases v with
 | agg cs => exact ⟨cs.toList, by simp, hr⟩
 | _ => simp [Value.cells, Mono.cells] at hl
def Lin.mu (x : Lin) : Nat := ((x.linMonos.map Mono.mu).sum + 1) + iB x.linConst
theorem RA_Lin : ∀ n, RA enc Tryz.prog W Rows.uptoBulk n 30 Lin.cells Lin.mu
 | 0 => RA.zero
 | n + 1 => fun fuel hf cs d ps h => by
   obtain ⟨xs, m, hfu, hx, hl, hlen, hfld⟩ := DataW.trod_struct Tryz.underlying30 h
   rw [cells30] at hl
   match xs, hlen, cs, hl with
   | [y0, y1], _, [c0, c1], _ =>
     have e0 := hfld 0 _ rfl
     have e1 := hfld 1 _ rfl
     simp only [cells2, cells28, List.drop_zero, List.drop_succ_cons, List.take_succ_cons, List.take_zero, List.getElem?_cons_zero, List.getElem?_cons_succ] at e0 e1
     obtain ⟨x0, r0, l0, b0⟩ := (RA.slice bulkOk Tryz.underlying28 cells54 (by omega) (RA_Mono m)).field (n' := m) (by omega) e0
     obtain ⟨x1, r1, l1, b1⟩ := (RA.intB (n := m) bulkOk Tryz.underlying2).field (n' := m) (by omega) e1
     injection hx with hx _
     subst hx
     have hc : Lin.cells ⟨x0, x1⟩ = (cL 6 Mono.cells) x0 ++ ((cI .i64) x1 ++ []) := by simp only [Lin.cells_eq, Node.cells_eq]; rfl
     refine ⟨⟨x0, x1⟩, ?_, ?_, ?_⟩
     · rw [hc]; exact Reps.append r0 (Reps.append r1 ((rfl : Reps _ [] 0 [])))
     · rw [hc]; simp only [allLeaf_append, l0, l1]; rfl
     · have := bulkOk.agg (H := H) [y0.1, y1.1]
       simp only [List.map_cons, List.map_nil, List.sum_cons, List.sum_nil] at this ⊢
       skip
       show ((x0.map Mono.mu).sum + 1) + iB x1 ≤ _
       omega
theorem rdLin {v : Value} {d : DataW H} {p : List MemPlace} (h : DataW.Trod enc Tryz.prog W 0 (fun _ => true) true 30 v d p) : ∃ n : Lin, Rep (gW Tryz.prog W) (.agg (Lin.cells n)) 0 v ∧ Lin.mu n ≤ Rows.uptoBulk d := by
 obtain ⟨fuel, hf⟩ := h
 obtain ⟨n, hr, _, hb⟩ := RA_Lin fuel fuel (Nat.le_refl _) _ _ _ hf
 have hl := Reps.length hr
 refine ⟨n, ?_, hb⟩
 cases v with
 | agg cs => exact ⟨cs.toList, by simp, hr⟩
 | _ => simp [Value.cells, Lin.cells] at hl
def Con.mu (x : Con) : Nat := Lin.mu x.conForm + iB x.conRel
theorem RA_Con : ∀ n, RA enc Tryz.prog W Rows.uptoBulk n 32 Con.cells Con.mu
 | 0 => RA.zero
 | n + 1 => fun fuel hf cs d ps h => by
   obtain ⟨xs, m, hfu, hx, hl, hlen, hfld⟩ := DataW.trod_struct Tryz.underlying32 h
   rw [cells32] at hl
   match xs, hlen, cs, hl with
   | [y0, y1], _, [c0, c1, c2], _ =>
     have e0 := hfld 0 _ rfl
     have e1 := hfld 1 _ rfl
     simp only [cells3, cells30, List.drop_zero, List.drop_succ_cons, List.take_succ_cons, List.take_zero, List.getElem?_cons_zero, List.getElem?_cons_succ] at e0 e1
     obtain ⟨x0, r0, l0, b0⟩ := (RA_Lin m).field (n' := m) (by omega) e0
     obtain ⟨x1, r1, l1, b1⟩ := (RA.intB (n := m) bulkOk Tryz.underlying3).field (n' := m) (by omega) e1
     injection hx with hx _
     subst hx
     have hc : Con.cells ⟨x0, x1⟩ = Lin.cells x0 ++ ((cI .i64) x1 ++ []) := by simp only [Con.cells_eq, Node.cells_eq]; rfl
     refine ⟨⟨x0, x1⟩, ?_, ?_, ?_⟩
     · rw [hc]; exact Reps.append r0 (Reps.append r1 ((rfl : Reps _ [] 0 [])))
     · rw [hc]; simp only [allLeaf_append, l0, l1]; rfl
     · have := bulkOk.agg (H := H) [y0.1, y1.1]
       simp only [List.map_cons, List.map_nil, List.sum_cons, List.sum_nil] at this ⊢
       skip
       show Lin.mu x0 + iB x1 ≤ _
       omega
theorem rdCon {v : Value} {d : DataW H} {p : List MemPlace} (h : DataW.Trod enc Tryz.prog W 0 (fun _ => true) true 32 v d p) : ∃ n : Con, Rep (gW Tryz.prog W) (.agg (Con.cells n)) 0 v ∧ Con.mu n ≤ Rows.uptoBulk d := by
 obtain ⟨fuel, hf⟩ := h
 obtain ⟨n, hr, _, hb⟩ := RA_Con fuel fuel (Nat.le_refl _) _ _ _ hf
 have hl := Reps.length hr
 refine ⟨n, ?_, hb⟩
 cases v with
 | agg cs => exact ⟨cs.toList, by simp, hr⟩
 | _ => simp [Value.cells, Con.cells] at hl
def Mult.mu (x : Mult) : Nat := iB x.multIndex + iB x.multCoef
theorem RA_Mult : ∀ n, RA enc Tryz.prog W Rows.uptoBulk n 79 Mult.cells Mult.mu
 | 0 => RA.zero
 | n + 1 => fun fuel hf cs d ps h => by
   obtain ⟨xs, m, hfu, hx, hl, hlen, hfld⟩ := DataW.trod_struct Tryz.underlying79 h
   rw [cells79] at hl
   match xs, hlen, cs, hl with
   | [y0, y1], _, [c0, c1], _ =>
     have e0 := hfld 0 _ rfl
     have e1 := hfld 1 _ rfl
     simp only [cells2, cells3, List.drop_zero, List.drop_succ_cons, List.take_succ_cons, List.take_zero, List.getElem?_cons_zero, List.getElem?_cons_succ] at e0 e1
     obtain ⟨x0, r0, l0, b0⟩ := (RA.intB (n := m) bulkOk Tryz.underlying3).field (n' := m) (by omega) e0
     obtain ⟨x1, r1, l1, b1⟩ := (RA.intB (n := m) bulkOk Tryz.underlying2).field (n' := m) (by omega) e1
     injection hx with hx _
     subst hx
     have hc : Mult.cells ⟨x0, x1⟩ = (cI .i64) x0 ++ ((cI .i64) x1 ++ []) := by simp only [Mult.cells_eq, Node.cells_eq]; rfl
     refine ⟨⟨x0, x1⟩, ?_, ?_, ?_⟩
     · rw [hc]; exact Reps.append r0 (Reps.append r1 ((rfl : Reps _ [] 0 [])))
     · rw [hc]; simp only [allLeaf_append, l0, l1]; rfl
     · have := bulkOk.agg (H := H) [y0.1, y1.1]
       simp only [List.map_cons, List.map_nil, List.sum_cons, List.sum_nil] at this ⊢
       skip
       show iB x0 + iB x1 ≤ _
       omega
theorem rdMult {v : Value} {d : DataW H} {p : List MemPlace} (h : DataW.Trod enc Tryz.prog W 0 (fun _ => true) true 79 v d p) : ∃ n : Mult, Rep (gW Tryz.prog W) (.agg (Mult.cells n)) 0 v ∧ Mult.mu n ≤ Rows.uptoBulk d := by
 obtain ⟨fuel, hf⟩ := h
 obtain ⟨n, hr, _, hb⟩ := RA_Mult fuel fuel (Nat.le_refl _) _ _ _ hf
 have hl := Reps.length hr
 refine ⟨n, ?_, hb⟩
 cases v with
 | agg cs => exact ⟨cs.toList, by simp, hr⟩
 | _ => simp [Value.cells, Mult.cells] at hl
mutual
def Deriv.mu : Deriv → Nat
  | ⟨v0, v1, v2, v3⟩ => ((v0.map (fun l => (l.map Mult.mu).sum + 1)).sum + 1) + 1 + Lin.mu v2 + (Deriv.muL v3 + 1)
def Deriv.muL : List Deriv → Nat
  | [] => 0
  | k :: ks => Deriv.mu k + Deriv.muL ks
end
theorem Deriv.muL_eq : ∀ l : List Deriv, Deriv.muL l = (l.map Deriv.mu).sum
 | [] => by simp only [Deriv.muL, List.map_nil, List.sum_nil]
 | k :: ks => by simp only [Deriv.muL, List.map_cons, List.sum_cons, Deriv.muL_eq ks]
theorem Deriv.mu_eq (x : Deriv) : Deriv.mu x = ((x.derivSteps.map (fun l => (l.map Mult.mu).sum + 1)).sum + 1) + 1 + Lin.mu x.derivForm + ((x.derivKids.map Deriv.mu).sum + 1) := by
 cases x; simp only [Deriv.mu, Deriv.muL_eq]
theorem RA_Deriv : ∀ n, RA enc Tryz.prog W Rows.uptoBulk n 41 Deriv.cells Deriv.mu
 | 0 => RA.zero
 | n + 1 => fun fuel hf cs d ps h => by
   obtain ⟨xs, m, hfu, hx, hl, hlen, hfld⟩ := DataW.trod_struct Tryz.underlying41 h
   rw [cells41] at hl
   match xs, hlen, cs, hl with
   | [y0, y1, y2, y3], _, [c0, c1, c2, c3, c4], _ =>
     have e0 := hfld 0 _ rfl
     have e1 := hfld 1 _ rfl
     have e2 := hfld 2 _ rfl
     have e3 := hfld 3 _ rfl
     simp only [cells30, cells38, cells39, cells4, List.drop_zero, List.drop_succ_cons, List.take_succ_cons, List.take_zero, List.getElem?_cons_zero, List.getElem?_cons_succ] at e0 e1 e2 e3
     obtain ⟨x0, r0, l0, b0⟩ := (RA.slice bulkOk Tryz.underlying38 cells23 (by omega) (RA.slice bulkOk Tryz.underlying23 cells79 (by omega) (RA_Mult m))).field (n' := m) (by omega) e0
     obtain ⟨x1, r1, l1, b1⟩ := (RA.bool (n := m) bulkOk Tryz.underlying4).field (n' := m) (by omega) e1
     obtain ⟨x2, r2, l2, b2⟩ := (RA_Lin m).field (n' := m) (by omega) e2
     obtain ⟨x3, r3, l3, b3⟩ := (RA.slice bulkOk Tryz.underlying39 cells41 (by omega) (RA_Deriv n)).field (n' := m) (by omega) e3
     injection hx with hx _
     subst hx
     have hc : Deriv.cells ⟨x0, x1, x2, x3⟩ = (cL 1 (cL 2 Mult.cells)) x0 ++ (cB x1 ++ (Lin.cells x2 ++ ((cL 5 Deriv.cells) x3 ++ []))) := by simp only [Deriv.cells_eq, Node.cells_eq]; rfl
     refine ⟨⟨x0, x1, x2, x3⟩, ?_, ?_, ?_⟩
     · rw [hc]; exact Reps.append r0 (Reps.append r1 (Reps.append r2 (Reps.append r3 ((rfl : Reps _ [] 0 [])))))
     · rw [hc]; simp only [allLeaf_append, l0, l1, l2, l3]; rfl
     · have := bulkOk.agg (H := H) [y0.1, y1.1, y2.1, y3.1]
       simp only [List.map_cons, List.map_nil, List.sum_cons, List.sum_nil] at this ⊢
       rw [Deriv.mu_eq]
       show ((x0.map (fun l => (l.map Mult.mu).sum + 1)).sum + 1) + 1 + Lin.mu x2 + ((x3.map Deriv.mu).sum + 1) ≤ _
       omega
theorem rdDeriv {v : Value} {d : DataW H} {p : List MemPlace} (h : DataW.Trod enc Tryz.prog W 0 (fun _ => true) true 41 v d p) : ∃ n : Deriv, Rep (gW Tryz.prog W) (.agg (Deriv.cells n)) 0 v ∧ Deriv.mu n ≤ Rows.uptoBulk d := by
 obtain ⟨fuel, hf⟩ := h
 obtain ⟨n, hr, _, hb⟩ := RA_Deriv fuel fuel (Nat.le_refl _) _ _ _ hf
 have hl := Reps.length hr
 refine ⟨n, ?_, hb⟩
 cases v with
 | agg cs => exact ⟨cs.toList, by simp, hr⟩
 | _ => simp [Value.cells, Deriv.cells_eq] at hl
def Val.mu (x : Val) : Nat := iB x.valSort + iB x.valNum + ((x.valSet.map iB).sum + 1) + ((x.valAt.map iB).sum + 1) + ((x.valTo.map iB).sum + 1)
theorem RA_Val : ∀ n, RA enc Tryz.prog W Rows.uptoBulk n 57 Val.cells Val.mu
 | 0 => RA.zero
 | n + 1 => fun fuel hf cs d ps h => by
   obtain ⟨xs, m, hfu, hx, hl, hlen, hfld⟩ := DataW.trod_struct Tryz.underlying57 h
   rw [cells57] at hl
   match xs, hlen, cs, hl with
   | [y0, y1, y2, y3, y4], _, [c0, c1, c2, c3, c4], _ =>
     have e0 := hfld 0 _ rfl
     have e1 := hfld 1 _ rfl
     have e2 := hfld 2 _ rfl
     have e3 := hfld 3 _ rfl
     have e4 := hfld 4 _ rfl
     simp only [cells2, cells3, cells55, List.drop_zero, List.drop_succ_cons, List.take_succ_cons, List.take_zero, List.getElem?_cons_zero, List.getElem?_cons_succ] at e0 e1 e2 e3 e4
     obtain ⟨x0, r0, l0, b0⟩ := (RA.intB (n := m) bulkOk Tryz.underlying3).field (n' := m) (by omega) e0
     obtain ⟨x1, r1, l1, b1⟩ := (RA.intB (n := m) bulkOk Tryz.underlying2).field (n' := m) (by omega) e1
     obtain ⟨x2, r2, l2, b2⟩ := (RA.slice bulkOk Tryz.underlying55 cells2 (by omega) (RA.intB (n := m) bulkOk Tryz.underlying2)).field (n' := m) (by omega) e2
     obtain ⟨x3, r3, l3, b3⟩ := (RA.slice bulkOk Tryz.underlying55 cells2 (by omega) (RA.intB (n := m) bulkOk Tryz.underlying2)).field (n' := m) (by omega) e3
     obtain ⟨x4, r4, l4, b4⟩ := (RA.slice bulkOk Tryz.underlying55 cells2 (by omega) (RA.intB (n := m) bulkOk Tryz.underlying2)).field (n' := m) (by omega) e4
     injection hx with hx _
     subst hx
     have hc : Val.cells ⟨x0, x1, x2, x3, x4⟩ = (cI .i64) x0 ++ ((cI .i64) x1 ++ ((cL 1 (cI .i64)) x2 ++ ((cL 1 (cI .i64)) x3 ++ ((cL 1 (cI .i64)) x4 ++ [])))) := by simp only [Val.cells_eq, Node.cells_eq]; rfl
     refine ⟨⟨x0, x1, x2, x3, x4⟩, ?_, ?_, ?_⟩
     · rw [hc]; exact Reps.append r0 (Reps.append r1 (Reps.append r2 (Reps.append r3 (Reps.append r4 ((rfl : Reps _ [] 0 []))))))
     · rw [hc]; simp only [allLeaf_append, l0, l1, l2, l3, l4]; rfl
     · have := bulkOk.agg (H := H) [y0.1, y1.1, y2.1, y3.1, y4.1]
       simp only [List.map_cons, List.map_nil, List.sum_cons, List.sum_nil] at this ⊢
       skip
       show iB x0 + iB x1 + ((x2.map iB).sum + 1) + ((x3.map iB).sum + 1) + ((x4.map iB).sum + 1) ≤ _
       omega
theorem rdVal {v : Value} {d : DataW H} {p : List MemPlace} (h : DataW.Trod enc Tryz.prog W 0 (fun _ => true) true 57 v d p) : ∃ n : Val, Rep (gW Tryz.prog W) (.agg (Val.cells n)) 0 v ∧ Val.mu n ≤ Rows.uptoBulk d := by
 obtain ⟨fuel, hf⟩ := h
 obtain ⟨n, hr, _, hb⟩ := RA_Val fuel fuel (Nat.le_refl _) _ _ _ hf
 have hl := Reps.length hr
 refine ⟨n, ?_, hb⟩
 cases v with
 | agg cs => exact ⟨cs.toList, by simp, hr⟩
 | _ => simp [Value.cells, Val.cells] at hl
def Entry.mu (x : Entry) : Nat := (x.entryName.size + 1) + ((x.entryArgs.map Val.mu).sum + 1) + Val.mu x.entryVal
theorem RA_Entry : ∀ n, RA enc Tryz.prog W Rows.uptoBulk n 119 Entry.cells Entry.mu
 | 0 => RA.zero
 | n + 1 => fun fuel hf cs d ps h => by
   obtain ⟨xs, m, hfu, hx, hl, hlen, hfld⟩ := DataW.trod_struct Tryz.underlying119 h
   rw [cells119] at hl
   match xs, hlen, cs, hl with
   | [y0, y1, y2], _, [c0, c1, c2, c3, c4, c5, c6], _ =>
     have e0 := hfld 0 _ rfl
     have e1 := hfld 1 _ rfl
     have e2 := hfld 2 _ rfl
     simp only [cells117, cells57, cells9, List.drop_zero, List.drop_succ_cons, List.take_succ_cons, List.take_zero, List.getElem?_cons_zero, List.getElem?_cons_succ] at e0 e1 e2
     obtain ⟨x0, r0, l0, b0⟩ := (RA.string (n := m) bulkOk Tryz.underlying9).field (n' := m) (by omega) e0
     obtain ⟨x1, r1, l1, b1⟩ := (RA.slice bulkOk Tryz.underlying117 cells57 (by omega) (RA_Val m)).field (n' := m) (by omega) e1
     obtain ⟨x2, r2, l2, b2⟩ := (RA_Val m).field (n' := m) (by omega) e2
     injection hx with hx _
     subst hx
     have hc : Entry.cells ⟨x0, x1, x2⟩ = cS x0 ++ ((cL 5 Val.cells) x1 ++ (Val.cells x2 ++ [])) := by simp only [Entry.cells_eq, Node.cells_eq]; rfl
     refine ⟨⟨x0, x1, x2⟩, ?_, ?_, ?_⟩
     · rw [hc]; exact Reps.append r0 (Reps.append r1 (Reps.append r2 ((rfl : Reps _ [] 0 []))))
     · rw [hc]; simp only [allLeaf_append, l0, l1, l2]; rfl
     · have := bulkOk.agg (H := H) [y0.1, y1.1, y2.1]
       simp only [List.map_cons, List.map_nil, List.sum_cons, List.sum_nil] at this ⊢
       skip
       show (x0.size + 1) + ((x1.map Val.mu).sum + 1) + Val.mu x2 ≤ _
       omega
theorem rdEntry {v : Value} {d : DataW H} {p : List MemPlace} (h : DataW.Trod enc Tryz.prog W 0 (fun _ => true) true 119 v d p) : ∃ n : Entry, Rep (gW Tryz.prog W) (.agg (Entry.cells n)) 0 v ∧ Entry.mu n ≤ Rows.uptoBulk d := by
 obtain ⟨fuel, hf⟩ := h
 obtain ⟨n, hr, _, hb⟩ := RA_Entry fuel fuel (Nat.le_refl _) _ _ _ hf
 have hl := Reps.length hr
 refine ⟨n, ?_, hb⟩
 cases v with
 | agg cs => exact ⟨cs.toList, by simp, hr⟩
 | _ => simp [Value.cells, Entry.cells] at hl
theorem rdSl {t e sz : Nat} (hu : Tryz.prog.underlying t = some (.slice e)) (hsz : Tryz.prog.cellsOf e = sz) (hpos : 0 < sz) {α : Type} {c : α → List AV} {μ : α → Nat} (he : ∀ n, RA enc Tryz.prog W Rows.uptoBulk n e c μ)
   {v : Value} {d : DataW H} {p : List MemPlace} (h : DataW.Trod enc Tryz.prog W 0 (fun _ => true) true t v d p) (hv : ∃ a len cap, v = .slice a len cap) : ∃ l : List α, Rep (gW Tryz.prog W) (.sl false sz (l.map c)) 0 v ∧ (l.map μ).sum + 1 ≤ Rows.uptoBulk d := by
 obtain ⟨fuel, hf⟩ := h
 obtain ⟨l, ⟨u, us, e1, hr, hu'⟩, _, hb⟩ := RA.slice bulkOk hu hsz hpos (he fuel) fuel (Nat.le_succ _) _ _ _ hf
 have hu' : us = [] := hu'
 subst hu'
 refine ⟨l, ?_, hb⟩
 obtain ⟨a, len, cap, rfl⟩ := hv
 simp [Value.cells] at e1
 subst e1
 exact hr
end
theorem sum_le_sum {α : Type} {f g : α → Nat} (h : ∀ x, f x ≤ g x) : ∀ l : List α, (l.map f).sum ≤ (l.map g).sum
 | [] => by simp
 | x :: l => by have h1 := h x; have h2 := sum_le_sum h l; simp only [List.map_cons, List.sum_cons]; omega
theorem sum_le_mem {α : Type} {f g : α → Nat} : ∀ l : List α, (∀ x ∈ l, f x ≤ g x) → (l.map f).sum ≤ (l.map g).sum
 | [], _ => by simp
 | x :: l, h => by have h1 := h x (by simp); have h2 := sum_le_mem l fun y hy => h y (by simp [hy]); simp only [List.map_cons, List.sum_cons]; omega
theorem monosOk (l : List Mono) : l.length ≤ (l.map Mono.mu).sum ∧ ∀ m ∈ l, m.monoAtom.size ≤ (l.map Mono.mu).sum := by
 refine ⟨len_sum (f := Mono.mu) (fun x => by have := iB_pos x.monoCoef; unfold Mono.mu; omega) l, fun m hm => ?_⟩
 have h1 := mem_sum (f := Mono.mu) hm
 have : Mono.mu m = iB m.monoCoef + m.monoAtom.size := rfl
 omega
theorem multsLen (l : List Mult) : l.length ≤ (l.map Mult.mu).sum := len_sum (f := Mult.mu) (fun m => by have := iB_pos m.multCoef; unfold Mult.mu; omega) l
theorem derivOk : ∀ (n : Nat) (d : Deriv), Deriv.mu d ≤ n → n ≤ 1048576 → Her DIn d ∧ wgt d + 1 ≤ Deriv.mu d
 | 0, d, h, _ => by have := Deriv.mu_eq d; omega
 | n + 1, d, h, hn => by
   have he := Deriv.mu_eq d
   have hlin : Lin.mu d.derivForm = ((d.derivForm.linMonos.map Mono.mu).sum + 1) + iB d.derivForm.linConst := rfl
   have hw := wgt_eq d
   obtain ⟨k1, k2⟩ := monosOk d.derivForm.linMonos
   have hk : ∀ k ∈ d.derivKids, Her DIn k ∧ wgt k + 1 ≤ Deriv.mu k := fun k hk => derivOk n k (by have := mem_sum (f := Deriv.mu) hk; omega) (by omega)
   have h1 := sum_le_mem (f := fun k => wgt k + 1) (g := Deriv.mu) d.derivKids fun k hk' => (hk k hk').2
   have h2 := sum_le_sum (f := fun s : List Mult => s.length + 1) (g := fun l : List Mult => (l.map Mult.mu).sum + 1) (fun l => by have := multsLen l; omega) d.derivSteps
   refine ⟨.mk d ⟨⟨by omega, fun m hm => by have := k2 m hm; omega⟩, fun s hs m hm => ?_⟩ fun k hk' => (hk k hk').1, by omega⟩
   have h3 := mem_sum (f := fun l : List Mult => (l.map Mult.mu).sum + 1) hs
   have h4 := mem_sum (f := Mult.mu) hm
   have h5 : iB m.multCoef ≤ Mult.mu m := by unfold Mult.mu; omega
   exact iB_le (by omega)
theorem contract5 (H : Type) (enc : TypeId × Value → H) (W : World) (base : Nat) (args : Array Value) (ds gs : List (DataW H)) (before : List MemPlace)
   (hval : ∀ (j : Nat) t v, Tryz.f5.params[j]? = some t → args[j]? = some v → Value.okWide Tryz.prog W .any base t v)
   (hW : DataW.Whole enc Tryz.prog Tryz.f5.params.toList Rows.linearSoundSpec.vars false W args.toList ds gs before) (hk : Rows.uptoSmall H (ds ++ gs) = true) :
   Calls Tryz.prog 5 args W fun e W' => ∃ v, e = .returned v ∧ Rows.linearSoundSpec.post enc Tryz.prog Tryz.f5 false true false false W args v W' := by
 have hW' := hW
 obtain ⟨p, q, hA0, hV, rfl, hfz, hnd⟩ := hW
 have hA : DataW.TrodAll enc Tryz.prog W 0 (fun _ => true) true Tryz.f5.params.toList args.toList ds p := hA0
 rw [Tryz.params5] at hA hval
 obtain ⟨v0, vs0, d0, ds0, p0, q0, hargs, rfl, rfl, h0, r0⟩ := trodAll_cons hA
 obtain ⟨v1, vs1, d1, ds1, p1, q1, rfl, rfl, rfl, h1, r1⟩ := trodAll_cons r0
 obtain ⟨v2, vs2, d2, ds2, p2, q2, rfl, rfl, rfl, h2, r2⟩ := trodAll_cons r1
 obtain ⟨rfl, rfl, rfl⟩ := trodAll_nil r2
 obtain rfl : args = #[v0, v1, v2] := by cases args; simp_all
 obtain ⟨rfl, rfl⟩ := trodVars_none hV
 obtain ⟨n0, hn0, hs0⟩ := rdSl Tryz.underlying22 cells32 (by decide) (fun n => (RA_Con n)) h0 (okWide_slice Tryz.underlying22 (hval 0 22 v0 rfl rfl))
 obtain ⟨n1, hn1, hs1⟩ := rdDeriv h1
 obtain ⟨n2, hn2, hs2⟩ := rdSl Tryz.underlying48 cells119 (by decide) (fun n => (RA_Entry n)) h2 (okWide_slice Tryz.underlying48 (hval 2 48 v2 rfl rfl))
 have hb : ((n0.map Con.mu).sum + 1) + Deriv.mu n1 + ((n2.map Entry.mu).sum + 1) ≤ 1048576 := by
   have := of_decide_eq_true hk
   simp only [List.append_nil, Rows.uptoBulkAll] at this
   omega
 have hlaw : F1002 big n0 n1 n2 = some true := by
   have hb0 : (n0.map Con.mu).sum ≤ 1048576 := by omega
   have conE : ∀ c : Con, Con.mu c = (((c.conForm.linMonos.map Mono.mu).sum + 1) + iB c.conForm.linConst) + iB c.conRel := fun _ => rfl
   have hg : ∀ c ∈ n0, Go.Abs.Try.Good c.conForm := fun c hc => by
     have h1 := mem_sum (f := Con.mu) hc
     have h2 := conE c
     obtain ⟨k1, k2⟩ := monosOk c.conForm.linMonos
     exact ⟨by omega, fun m hm => by have := k2 m hm; omega⟩
   have hl0 := len_sum (f := Con.mu) (fun c => by rw [conE]; omega) n0
   have hsum : ∀ l : List Con, (l.map fun c => c.conForm.linMonos.length).sum ≤ (l.map Con.mu).sum := by
     intro l
     induction l with
     | nil => simp
     | cons c l ih =>
       have h2 := conE c
       have k1 := (monosOk c.conForm.linMonos).1
       simp only [List.map_cons, List.sum_cons]; omega
   obtain ⟨hd, hw⟩ := derivOk 1048576 n1 (by omega) (Nat.le_refl _)
   have il : ∀ l : List Int, l.length ≤ (l.map iB).sum := fun l => len_sum (f := iB) iB_pos l
   have hv : ∀ v : Val, Val.mu v ≤ 1048576 → VSmall v := fun v h => by
     have e : Val.mu v = iB v.valSort + iB v.valNum + ((v.valSet.map iB).sum + 1) + ((v.valAt.map iB).sum + 1) + ((v.valTo.map iB).sum + 1) := rfl
     have h1 := il v.valSet
     have h2 := il v.valAt
     have h3 := il v.valTo
     exact ⟨by omega, by omega, by omega⟩
   have hm : MSmall n2 := by
     have h1 := len_sum (f := Entry.mu) (fun e => by unfold Entry.mu; omega) n2
     refine ⟨by omega, fun e he => ?_⟩
     have h2 := mem_sum (f := Entry.mu) he
     have e1 : Entry.mu e = (e.entryName.size + 1) + ((e.entryArgs.map Val.mu).sum + 1) + Val.mu e.entryVal := rfl
     have h3 := len_sum (f := Val.mu) (fun e => by unfold Val.mu; omega) e.entryArgs
     exact ⟨by omega, fun a ha => hv a (by have := mem_sum (f := Val.mu) ha; omega), hv _ (by omega)⟩
   exact Abs.Try.lawSd n0 n1 n2 hg (by omega) (Nat.le_trans (hsum n0) hb0) hd (by omega) hm
 have hP : Pure Tryz.prog 5 (ar5.e (n0, n1, n2)) (.bool true) := k5 big (Nat.le_refl _) _ _ (by
   rw [t5, TL_hit ar5.inj (n0, n1, n2) rfl]
   show bindO (F1002 big n0 n1 n2) _ = _
   rw [hlaw]; rfl)
 have hlt := hW'.lt
 simp only [List.append_nil] at hW' hlt
 refine (law_calls Tryz.func5 (c := Tryz.f5.body.get rfl) rfl (by decide) hP (vs := [v0, v1, v2]) ⟨_, _, rfl, hn0, _, _, rfl, hn1, _, _, rfl, hn2, rfl⟩).mono ?_
 rintro e W' ⟨rfl, hbel⟩
 refine ⟨_, rfl, post_of_below (pa := p0 ++ (p1 ++ (p2 ++ []))) (pv := []) hW' (fun _ _ _ => (trodAll_cons_mk (shut_bool Tryz.underlying4 _) trodAll_mk0)) (fun sp hsp => ?_) (fun _ _ => rfl) (by simp) hbel (ok_one (by kernel_rfl) rfl (okWide_bool_mk Tryz.underlying4 _))⟩
 simp only [List.append_nil] at hsp ⊢
 have hA1 : DataW.TrodAll enc Tryz.prog W 0 (fun _ => true) true Tryz.f5.params.toList [v0, v1, v2] [d0, d1, d2] (p0 ++ (p1 ++ p2)) := by simpa using hA0
 exact trodAll_stays laidOut hbel (by decide +kernel) hA1 hlt sp hsp
theorem lifted5 (os : Os) (started : os.Started) (H : Type) (enc : TypeId × Value → H) (F : Stop.Interp) :
   ReturnsInHanded {} Tryz.checked os 5 .any ((Rows.OpenSpec.upto Rows.linearSoundSpec).pre6 enc Tryz.prog Tryz.f5 Rows.linearSoundUptoRow.domain false) (((Rows.OpenSpec.upto Rows.linearSoundSpec).at F).post enc Tryz.prog Tryz.f5 false true false false) := by
 refine returnsInHanded_of_cond (C := Tryz.checked) (s := Rows.OpenSpec.upto Rows.linearSoundSpec) (k := Rows.uptoSmall) rfl own started (by kernel_rfl) Tryz.func5
   (OpenSpec.witness (enc := enc) (C := Tryz.checked) (s := Rows.OpenSpec.upto Rows.linearSoundSpec) (k := Rows.uptoSmall) rfl false ⟨#[], #[.slice none 0 0, .agg #[.slice none 0 0, .bool false, .slice none 0 0, .int .i64 0, .slice none 0 0], .slice none 0 0], []⟩ 8 (by kernel_rfl) (by kernel_rfl) (by kernel_rfl)
     (x := ([.nil, .agg [.nil, .lit (.bool false), .agg [.nil, .lit (.int .i64 0)], .nil], .nil], [], [])) (by kernel_rfl) rfl (by kernel_rfl)) ?_
 intro W base args ds gs before hval hW _ hk _
 exact contract5 H enc W base args ds gs before hval hW hk
theorem over5 : Rows.linearSoundUptoRow.holds Tryz.pinned (Rows.OpenSpec.upto Rows.linearSoundSpec) :=
 OpenClaim.holds_of_cond 5 Tryz.f5 rfl rfl rfl rfl rfl rfl rfl ⟨rfl, rfl, rfl, rfl, rfl⟩ rfl rfl rfl rfl rfl (by kernel_rfl) Tryz.func5 (by kernel_rfl)
   (of_decide_eq_true (by kernel_rfl)) (by unfold Func.isWrapper; first | (rw [if_pos (by decide +kernel)]; kernel_rfl) | (rw [if_neg (by decide +kernel)]; exact ⟨rfl, rfl⟩))
   (fun os started H enc _ F => lifted5 os started H enc F)
theorem sound_holds : Rows.LinearSoundUptoSaid := over5
end Go.Proofs.YtjjajifecniidaaGreat
