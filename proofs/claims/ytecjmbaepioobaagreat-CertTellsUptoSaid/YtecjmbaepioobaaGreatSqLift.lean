import Derived.Test.YtecjmbaepioobaaGreatLift
import Derived.Test.YtecjmbaepioobaaGreatSqW2
import Derived.Test.YtecjmbaepioobaaGreatRows
set_option linter.unusedSimpArgs false
set_option linter.unusedVariables false
namespace Go.Abs.Try
open Go.RowKit Go.Proofs Go.Proofs.YtecjmbaepioobaaGreat
set_option maxRecDepth 100000
section
variable {H : Type} {enc : TypeId × Value → H} {W : World}
theorem bulkAll : ∀ l : List (DataW H), Rows.uptoBulkAll l = (l.map Rows.uptoBulk).sum
 | [] => by simp only [Rows.uptoBulkAll, List.map_nil, List.sum_nil]
 | d :: r => by simp only [Rows.uptoBulkAll, List.map_cons, List.sum_cons, bulkAll r]
theorem bulkOk : Bulk (H := H) Rows.uptoBulk where
 str := fun s => by simp only [Rows.uptoBulk]; omega
 lit := fun l => by cases l <;> simp only [Rows.uptoBulk] <;> omega
 nil := by simp only [Rows.uptoBulk]; omega
 slice := fun es sp => by simp only [Rows.uptoBulk, bulkAll]; omega
 agg := fun ps => by simp only [Rows.uptoBulk, bulkAll]; omega
theorem cells24 : Proofs.Tryz.prog.cellsOf 24 = 5 := by kernel_rfl
theorem cells3 : Proofs.Tryz.prog.cellsOf 3 = 1 := by kernel_rfl
theorem cells2 : Proofs.Tryz.prog.cellsOf 2 = 1 := by kernel_rfl
theorem cells9 : Proofs.Tryz.prog.cellsOf 9 = 1 := by kernel_rfl
theorem cells22 : Proofs.Tryz.prog.cellsOf 22 = 1 := by kernel_rfl
theorem RA_Node : ∀ n, RA enc Proofs.Tryz.prog W Rows.uptoBulk n 24 Node.cells Node.size
 | 0 => RA.zero
 | n + 1 => fun fuel hf cs d ps h => by
   obtain ⟨xs, m, hfu, hx, hl, hlen, hfld⟩ := DataW.trod_struct Proofs.Tryz.underlying24 h
   rw [cells24] at hl
   match xs, hlen, cs, hl with
   | [y0, y1, y2, y3, y4], _, [c0, c1, c2, c3, c4], _ =>
     have e0 := hfld 0 _ rfl
     have e1 := hfld 1 _ rfl
     have e2 := hfld 2 _ rfl
     have e3 := hfld 3 _ rfl
     have e4 := hfld 4 _ rfl
     simp only [cells3, cells2, cells9, cells22, List.drop_zero, List.drop_succ_cons, List.take_succ_cons, List.take_zero, List.getElem?_cons_zero, List.getElem?_cons_succ] at e0 e1 e2 e3 e4
     obtain ⟨x0, ⟨_, _, h0, r0, _⟩, _, _⟩ := (RA.int bulkOk Proofs.Tryz.underlying3).field (Nat.le_refl m) e0
     obtain ⟨x1, ⟨_, _, h1, r1, _⟩, _, _⟩ := (RA.int bulkOk Proofs.Tryz.underlying3).field (Nat.le_refl m) e1
     obtain ⟨x2, ⟨_, _, h2, r2, _⟩, _, _⟩ := (RA.string bulkOk Proofs.Tryz.underlying9).field (Nat.le_refl m) e2
     obtain ⟨x3, ⟨_, _, h3, r3, _⟩, _, _⟩ := (RA.int bulkOk Proofs.Tryz.underlying2).field (Nat.le_refl m) e3
     obtain ⟨x4, ⟨_, _, h4, r4, _⟩, _, b4⟩ := (RA.slice bulkOk Proofs.Tryz.underlying22 cells24 (by omega) (RA_Node n)).field (n' := m) (by omega) e4
     injection h0 with h0 _; injection h1 with h1 _; injection h2 with h2 _; injection h3 with h3 _; injection h4 with h4 _
     subst h0; subst h1; subst h2; subst h3; subst h4
     injection hx with hx _
     subst hx
     refine ⟨⟨x0, x1, x2, x3, x4⟩, ?_, ?_, ?_⟩
     · rw [Node.cells_eq]
       exact ⟨_, _, rfl, r0, _, _, rfl, r1, _, _, rfl, r2, _, _, rfl, r3, _, _, rfl, r4, rfl⟩
     · rw [Node.cells_eq]; rfl
     · have := bulkOk.agg (H := H) [y0.1, y1.1, y2.1, y3.1, y4.1]
       simp only [List.map_cons, List.map_nil, List.sum_cons, List.sum_nil] at this ⊢
       rw [Node.size_eq]
       show 1 + (List.map Node.size x4).sum ≤ _
       omega
theorem rdNode {v : Value} {d : DataW H} {p : List MemPlace} (h : DataW.Trod enc Proofs.Tryz.prog W 0 (fun _ => true) true 24 v d p) : ∃ n : Node, Rep (gW Proofs.Tryz.prog W) (.agg (Node.cells n)) 0 v ∧ n.size ≤ Rows.uptoBulk d := by
 obtain ⟨fuel, hf⟩ := h
 obtain ⟨n, hr, _, hb⟩ := RA_Node fuel fuel (Nat.le_refl _) _ _ _ hf
 have hl := Reps.length hr
 rw [Node.cells_eq] at hl
 refine ⟨n, ?_, hb⟩
 cases v with
 | agg cs => exact ⟨cs.toList, by simp, hr⟩
 | _ => simp [Value.cells] at hl
end
end Go.Abs.Try
