import Derived.Test.YtecjmbaepioobaaGreatSqPre2
import Derived.OwnWalk
import Derived.WalkKit
import Derived.Defers
import Derived.StillTailTactics
import Derived.OrdersHeld
import Derived.Lib.SliceRun
set_option linter.unusedSimpArgs false
set_option linter.unusedVariables false
namespace Go.Proofs
open Go.RowKit Go.ChangeShapes
section
variable {P : Program} {ops : Array Oper} {Q : Exit → Act → World → Prop} {S : World → Prop}
theorem heldStep {i : Nat} {o : Oper} {d : Option Tmp} {fuel : Nat} {listed : Array Bool} {a : Act} {w w' : World} {v : Value} (hr : Region.ready .any ops listed = [i]) (ho : ops[i]? = some o) (hd : o.dst = d) (hg : o.guard = none)
   (hrun : (execOp a.eval o).run P w = .ok (.value v) w') (hS : S w') (h : wpAnyH P .any ops Q S fuel (listed.setIfInBounds i true) (a.put d v) w') : wpAnyH P .any ops Q S (fuel + 1) listed a w := by
 subst hd
 refine wpAnyH_all hr (by simp) fun j hj => ?_
 rw [List.mem_singleton] at hj
 subst hj
 have hw : Region.wanted o (yielded ops a.tmps) = true := by unfold Region.wanted; rw [hg]
 refine wpOp_step ho fun K' hK' => ?_
 rw [if_pos hw]
 unfold Oper.wp
 rw [hrun]
 exact hK' _ _ ⟨hS, h⟩
theorem heldSkip {i : Nat} {o : Oper} {d : Option Tmp} {fuel : Nat} {listed : Array Bool} {a : Act} {w w' : World} (hr : Region.ready .any ops listed = [i]) (ho : ops[i]? = some o) (hd : o.dst = d) (hg : o.guard = none)
   (hrun : (execOp a.eval o).run P w = .ok .skip w') (hS : S w') (h : wpAnyH P .any ops Q S fuel (listed.setIfInBounds i true) (a.put d undef) w') : wpAnyH P .any ops Q S (fuel + 1) listed a w := by
 subst hd
 refine wpAnyH_all hr (by simp) fun j hj => ?_
 rw [List.mem_singleton] at hj
 subst hj
 have hw : Region.wanted o (yielded ops a.tmps) = true := by unfold Region.wanted; rw [hg]
 refine wpOp_step ho fun K' hK' => ?_
 rw [if_pos hw]
 unfold Oper.wp
 rw [hrun]
 exact hK' _ _ ⟨hS, h⟩
theorem takeD {i : Nat} {oi : Oper} {d : Option Tmp} {v : Value} {fuel : Nat} {listed : Array Bool} {a : Act} {w : World} (hi : ops[i]? = some oi) (hd : oi.dst = d) (hg : oi.guard = none)
   (hs : Region.noSelect ops = true) (hf : Region.free .any ops listed i = true) (hr : (Region.ready .any ops listed).contains i = true)
   (hQ : ∀ c a w, Q (.panic c) (a.put d v) w → Q (.panic c) a w) (hy : ∀ w, S w → (execOp a.eval oi).run P w = .ok (.value v) w) (hS : S w)
   (h : wpAnyH P .any ops Q S fuel (listed.setIfInBounds i true) (a.put d v) w) : wpAnyH P .any ops Q S (fuel + 1) listed a w := by
 subst hd
 exact wpAnyH_take hi hs hf hr hQ (Or.inl ⟨by unfold Region.wanted; rw [hg], hy⟩) hS h
theorem heldTwo {i j : Nat} {oi oj : Oper} {di dj : Option Tmp} {fuel : Nat} {listed : Array Bool} {a : Act} {w wi wj : World} {vi vj : Value} (hr : Region.ready .any ops listed = [i, j]) (hoi : ops[i]? = some oi) (hoj : ops[j]? = some oj) (hdi : oi.dst = di) (hdj : oj.dst = dj) (hgi : oi.guard = none) (hgj : oj.guard = none)
   (hri : (execOp a.eval oi).run P w = .ok (.value vi) wi) (hrj : (execOp a.eval oj).run P w = .ok (.value vj) wj) (hSi : S wi) (hSj : S wj)
   (hi : wpAnyH P .any ops Q S fuel (listed.setIfInBounds i true) (a.put di vi) wi) (hj : wpAnyH P .any ops Q S fuel (listed.setIfInBounds j true) (a.put dj vj) wj) : wpAnyH P .any ops Q S (fuel + 1) listed a w := by
 subst hdi
 subst hdj
 refine wpAnyH_all hr (by simp) fun t ht => ?_
 rcases List.mem_cons.1 ht with rfl | ht
 · have hw : Region.wanted oi (yielded ops a.tmps) = true := by unfold Region.wanted; rw [hgi]
   refine wpOp_step hoi fun K' hK' => ?_
   rw [if_pos hw]
   unfold Oper.wp
   rw [hri]
   exact hK' _ _ ⟨hSi, hi⟩
 · rw [List.mem_singleton] at ht
   subst ht
   have hw : Region.wanted oj (yielded ops a.tmps) = true := by unfold Region.wanted; rw [hgj]
   refine wpOp_step hoj fun K' hK' => ?_
   rw [if_pos hw]
   unfold Oper.wp
   rw [hrj]
   exact hK' _ _ ⟨hSj, hj⟩
theorem heldThree {i j k : Nat} {oi oj ok : Oper} {di dj dk : Option Tmp} {fuel : Nat} {listed : Array Bool} {a : Act} {w wi wj wk : World} {vi vj vk : Value} (hr : Region.ready .any ops listed = [i, j, k]) (hoi : ops[i]? = some oi) (hoj : ops[j]? = some oj) (hok : ops[k]? = some ok) (hdi : oi.dst = di) (hdj : oj.dst = dj) (hdk : ok.dst = dk) (hgi : oi.guard = none) (hgj : oj.guard = none) (hgk : ok.guard = none)
   (hri : (execOp a.eval oi).run P w = .ok (.value vi) wi) (hrj : (execOp a.eval oj).run P w = .ok (.value vj) wj) (hrk : (execOp a.eval ok).run P w = .ok (.value vk) wk) (hSi : S wi) (hSj : S wj) (hSk : S wk)
   (hi : wpAnyH P .any ops Q S fuel (listed.setIfInBounds i true) (a.put di vi) wi) (hj : wpAnyH P .any ops Q S fuel (listed.setIfInBounds j true) (a.put dj vj) wj) (hk : wpAnyH P .any ops Q S fuel (listed.setIfInBounds k true) (a.put dk vk) wk) : wpAnyH P .any ops Q S (fuel + 1) listed a w := by
 subst hdi
 subst hdj
 subst hdk
 have go : ∀ {t : Nat} {o : Oper} {v : Value} {w' : World}, ops[t]? = some o → o.guard = none → (execOp a.eval o).run P w = .ok (.value v) w' → S w' → wpAnyH P .any ops Q S fuel (listed.setIfInBounds t true) (a.put o.dst v) w' → wpOp P ops Q t (fun a' w' => S w' ∧ wpAnyH P .any ops Q S fuel (listed.setIfInBounds t true) a' w') a w := by
   intro t o v w' ho hg hrun hS h
   have hw : Region.wanted o (yielded ops a.tmps) = true := by unfold Region.wanted; rw [hg]
   refine wpOp_step ho fun K' hK' => ?_
   rw [if_pos hw]
   unfold Oper.wp
   rw [hrun]
   exact hK' _ _ ⟨hS, h⟩
 refine wpAnyH_all hr (by simp) fun t ht => ?_
 rcases List.mem_cons.1 ht with rfl | ht
 · exact go hoi hgi hri hSi hi
 rcases List.mem_cons.1 ht with rfl | ht
 · exact go hoj hgj hrj hSj hj
 · rw [List.mem_singleton] at ht
   subst ht
   exact go hok hgk hrk hSk hk
end
def regOps (id : Nat) : Code → List (Array Oper)
 | .region i ops _ => if i = id then [ops] else []
 | .seq a b => regOps id a ++ regOps id b
 | .cond _ a b => regOps id a ++ regOps id b
 | .block _ a => regOps id a
 | .loop a => regOps id a
 | _ => []
theorem ev_same (a : Act) (d : Nat) (v : Value) (h : d < a.tmps.size) : (a.put (some d) v).eval (.tmp d) = v := by simp [Act.eval, Act.put, h]
theorem ev_ne (a : Act) (d j : Nat) (v : Value) (h : d ≠ j) : (a.put (some d) v).eval (.tmp j) = a.eval (.tmp j) := by simp [Act.eval, Act.put, Array.getElem?_setIfInBounds_ne h]
theorem sz_put (a : Act) (d : Option Nat) (v : Value) : (a.put d v).tmps.size = a.tmps.size := by cases d <;> simp [Act.put]
theorem setc_ne {w : World} {b b2 o o2 : Nat} {v : Value} (h : b ≠ b2) : (w.setCell ⟨b, o, none⟩ v).cell? ⟨b2, o2, none⟩ = w.cell? ⟨b2, o2, none⟩ := by
 apply World.cell?_setCell_other
 intro h2
 exact h (congrArg Addr.block h2)
theorem storeRun {ρ : Operand → Value} {w : World} {x y b : Nat} {z : Int} {u : Value} (h1 : ρ (.tmp x) = .pointer (some ⟨b, 0, none⟩)) (h2 : ρ (.tmp y) = .int .i64 z) (h3 : w.cell? ⟨b, 0, none⟩ = some u) (hu : ∃ z' : Int, u = .int .i64 z') (hf : w.frozen? ⟨b, 0, none⟩ = false) :
   (execOp ρ ⟨none, .store 3 (.tmp x) (.tmp y), 0, "", #[], none⟩).run Tryz.prog w = .ok .skip (w.setCell ⟨b, 0, none⟩ (.int .i64 z)) := by
 obtain ⟨z', rfl⟩ := hu
 simp only [execOp, h1, h2]
 go_simp
theorem storeRunS {ρ : Operand → Value} {w : World} {t x y b o : Nat} {p : Option Addr} {n c : Nat} {u : Value} (h1 : ρ (.tmp x) = .pointer (some ⟨b, o, none⟩)) (h2 : ρ (.tmp y) = .slice p n c) (h3 : w.cell? ⟨b, o, none⟩ = some u) (hf : w.frozen? ⟨b, o, none⟩ = false) (ht : (Tryz.prog.info? t).map (·.size) = some 1) :
   (execOp ρ ⟨none, .store t (.tmp x) (.tmp y), 0, "", #[], none⟩).run Tryz.prog w = .ok .skip (w.setCell ⟨b, o, none⟩ (.slice p n c)) := by
 have hsz : (sizeOf t).run Tryz.prog w = .ok 1 w := by
   obtain ⟨i, hi, his⟩ := Option.map_eq_some_iff.1 ht
   simp [sizeOf, typeInfo, hi, his]
 simp only [execOp, h1, h2]
 go_simp
theorem setc_at {w : World} {b o : Nat} {u v : Value} (h : w.cell? ⟨b, o, none⟩ = some u) : (w.setCell ⟨b, o, none⟩ v).cell? ⟨b, o, none⟩ = some v := by
 apply World.cell?_setCell_same
 exact h
theorem setc_off {w : World} {b o o2 : Nat} {v : Value} (h : o ≠ o2) : (w.setCell ⟨b, o, none⟩ v).cell? ⟨b, o2, none⟩ = w.cell? ⟨b, o2, none⟩ := by
 apply World.cell?_setCell_other
 intro h2
 exact h (congrArg Addr.off h2)
end Go.Proofs
