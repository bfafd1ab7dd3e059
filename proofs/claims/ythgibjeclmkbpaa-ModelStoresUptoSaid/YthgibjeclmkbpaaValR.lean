import Derived.Test.YthgibjeclmkbpaaSqPre2
import Derived.Maps.OwnRows
import Derived.Maps.AppendAt
import Derived.Maps.GroupsBeside
import Derived.Maps.Views
import Derived.OwnWalk
import Derived.WalkKit
import Derived.StillTailTactics
import Derived.OrdersHeld
set_option linter.unusedSimpArgs false
set_option linter.unusedVariables false
namespace Go.Proofs
open Go.RowKit Go.WideMaps Go.Maps Go.ChangeShapes
theorem Try.info3v : (Try.prog.info? 3).map (fun i => (i.zero, i.size, i.bytes)) = some (some (.int .i64 0), 1, 8) := by kernel_rfl
theorem Try.zero69 (w : World) : (zeroValue 56).run Try.prog w = .ok (.slice none 0 0) w := by kernel_rfl
theorem Try.law9 : Keyed Try.prog 9 := string_keyed Try.underlying9
def idxN (nm : Nat → ByteArray) (k : Nat) (x : ByteArray) : List Int := ((List.range k).filter fun i : Nat => decide (nm i = x)).map fun i : Nat => (i : Int)
def keyN (x : ByteArray) : Lit := .string x.data.toList
def GN {H : Type} (nm : Nat → ByteArray) : Nat → DataW H
 | 0 => .map []
 | k + 1 => (GN nm k).put (keyN (nm k)) (.slice (lits .i64 (idxN nm k (nm k) ++ [(k : Int)])) [])
theorem keyN_inj {x y : ByteArray} (h : keyN x = keyN y) : x = y := by
 unfold keyN at h
 injection h with h
 cases x; cases y
 congr 1
 exact Array.ext' (by simpa using h)
theorem idxN_succ (nm : Nat → ByteArray) (k : Nat) (x : ByteArray) : idxN nm (k + 1) x = idxN nm k x ++ (if nm k = x then [(k : Int)] else []) := by
 unfold idxN
 rw [List.range_succ, List.filter_append, List.map_append]
 congr 1
 by_cases h : nm k = x
 · rw [if_pos h]; simp [h]
 · rw [if_neg h]; simp [h]
theorem GN_map {H : Type} (nm : Nat → ByteArray) : ∀ k, IsMap (GN (H := H) nm k)
 | 0 => ⟨_, rfl⟩
 | k + 1 => by
   obtain ⟨es, h⟩ := GN_map (H := H) nm k
   unfold GN
   rw [h]
   exact ⟨_, rfl⟩
theorem GN_at {H : Type} (nm : Nat → ByteArray) (x : ByteArray) : ∀ k, (GN (H := H) nm k).atKey (keyN x) .nil = if idxN nm k x = [] then .nil else .slice (lits .i64 (idxN nm k x)) []
 | 0 => rfl
 | k + 1 => by
   rw [idxN_succ]
   unfold GN
   by_cases h : nm k = x
   · rw [if_pos h, h, atKey_put_same (GN_map nm k) (show WideAt.IsKeyLit (keyN x) from trivial), if_neg (by simp)]
   · rw [if_neg h, List.append_nil, atKey_put_other (fun e => h (keyN_inj e).symm), GN_at nm x k]
theorem lits_inj {H : Type} : ∀ {a b : List Int}, lits (H := H) .i64 a = lits .i64 b → a = b
 | [], [], _ => rfl
 | [], _ :: _, h => by simp [lits] at h
 | _ :: _, [], h => by simp [lits] at h
 | x :: a, y :: b, h => by
   simp only [lits, List.map_cons, List.cons.injEq, DataW.lit.injEq, Lit.int.injEq, true_and] at h
   rw [h.1, lits_inj (H := H) (a := a) (b := b) h.2]
theorem group_is {H : Type} {w : World} {base : Nat} {e : TypeId} {v : Value} {zs : List Int} (nm : Nat → ByteArray) (k : Nat) (x : ByteArray) (ho : w.ownsInts base e .i64 v zs) (hat : (GN (H := H) nm k).atKey (keyN x) .nil = rowDatum .i64 v zs) : zs = idxN nm k x := by
 rw [GN_at] at hat
 rcases ho.datum (H := H) with ⟨h1, h2⟩ | h1
 · rw [h1] at hat
   by_cases h : idxN nm k x = []
   · rw [h2, h]
   · rw [if_neg h] at hat; cases hat
 · rw [h1] at hat
   by_cases h : idxN nm k x = []
   · rw [if_pos h] at hat; cases hat
   · rw [if_neg h] at hat
     injection hat with hat _
     exact (lits_inj (H := H) hat).symm
theorem idxN_mem {nm : Nat → ByteArray} {k t : Nat} {x : ByteArray} (ht : t < (idxN nm k x).length) : ∃ i : Nat, (idxN nm k x)[t] = (i : Int) ∧ i < k ∧ nm i = x := by
 have hm := List.getElem_mem ht
 unfold idxN at hm
 obtain ⟨i, hi, e⟩ := List.mem_map.1 hm
 rw [List.mem_filter] at hi
 exact ⟨i, e.symm, List.mem_range.1 hi.1, of_decide_eq_true hi.2⟩
theorem idxN_pw (nm : Nat → ByteArray) (k : Nat) (x : ByteArray) : (idxN nm k x).Pairwise (· < ·) := by
 unfold idxN
 rw [List.pairwise_map]
 exact ((List.pairwise_lt_range (n := k)).filter _).imp (fun h => by omega)
theorem idxN_all {nm : Nat → ByteArray} {k i : Nat} {x : ByteArray} (hi : i < k) (hn : nm i = x) : (i : Int) ∈ idxN nm k x :=
 List.mem_map.2 ⟨i, List.mem_filter.2 ⟨List.mem_range.2 hi, decide_eq_true hn⟩, rfl⟩
theorem mem_take_of {l : List Int} (h : l.Pairwise (· < ·)) {t : Nat} (ht : t < l.length) {y : Int} (hy : y ∈ l) (hlt : y < l[t]) : y ∈ l.take t := by
 have e : l = l.take t ++ (l[t] :: l.drop (t + 1)) := by rw [← List.drop_eq_getElem_cons ht, List.take_append_drop]
 rw [e] at hy
 rcases List.mem_append.1 hy with h1 | h1
 · exact h1
 · have h2 : (l.drop t).Pairwise (· < ·) := h.drop
   rw [List.drop_eq_getElem_cons ht, List.pairwise_cons] at h2
   rcases List.mem_cons.1 h1 with h3 | h3
   · omega
   · exact absurd (h2.1 y h3) (by omega)
theorem keyN_ok {x : ByteArray} (h : x.size ≤ maxLen) : keyOf Try.prog 9 (.string x) = some (keyN x) := by
 exact keyOf_string_mk Try.underlying9 h
structure ECells where
 nm : ByteArray
 p1 : Option Addr × Nat × Nat
 z2 : Int
 z3 : Int
 p4 : Option Addr × Nat × Nat
 p5 : Option Addr × Nat × Nat
 p6 : Option Addr × Nat × Nat
def ECells.val (x : ECells) : Value := .agg #[.string x.nm, .slice x.p1.1 x.p1.2.1 x.p1.2.2, .int .i64 x.z2, .int .i64 x.z3, .slice x.p4.1 x.p4.2.1 x.p4.2.2, .slice x.p5.1 x.p5.2.1 x.p5.2.2, .slice x.p6.1 x.p6.2.1 x.p6.2.2]
structure ECells.At (x : ECells) (w : World) (b o : Nat) : Prop where
 c0 : w.cell? ⟨b, o, none⟩ = some (.string x.nm)
 c1 : w.cell? ⟨b, o + 1, none⟩ = some (.slice x.p1.1 x.p1.2.1 x.p1.2.2)
 c2 : w.cell? ⟨b, o + 2, none⟩ = some (.int .i64 x.z2)
 c3 : w.cell? ⟨b, o + 3, none⟩ = some (.int .i64 x.z3)
 c4 : w.cell? ⟨b, o + 4, none⟩ = some (.slice x.p4.1 x.p4.2.1 x.p4.2.2)
 c5 : w.cell? ⟨b, o + 5, none⟩ = some (.slice x.p5.1 x.p5.2.1 x.p5.2.2)
 c6 : w.cell? ⟨b, o + 6, none⟩ = some (.slice x.p6.1 x.p6.2.1 x.p6.2.2)
theorem ECells.At.below {x : ECells} {w w' : World} {B b o : Nat} (h : x.At w b o) (hB : Below B w w') (hb : b < B) : x.At w' b o :=
 ⟨(hB.cell hb).trans h.c0, (hB.cell hb).trans h.c1, (hB.cell hb).trans h.c2, (hB.cell hb).trans h.c3, (hB.cell hb).trans h.c4, (hB.cell hb).trans h.c5, (hB.cell hb).trans h.c6⟩
theorem ECells.at_new (x : ECells) (w : World) (t : TypeId) : x.At (w.alloc (.cells #[.string x.nm, .slice x.p1.1 x.p1.2.1 x.p1.2.2, .int .i64 x.z2, .int .i64 x.z3, .slice x.p4.1 x.p4.2.1 x.p4.2.2, .slice x.p5.1 x.p5.2.1 x.p5.2.2, .slice x.p6.1 x.p6.2.1 x.p6.2.2] t)) w.heap.size 0 :=
 ⟨World.cell?_alloc_at _ _ _ 0 rfl, World.cell?_alloc_at _ _ _ 1 rfl, World.cell?_alloc_at _ _ _ 2 rfl, World.cell?_alloc_at _ _ _ 3 rfl, World.cell?_alloc_at _ _ _ 4 rfl, World.cell?_alloc_at _ _ _ 5 rfl, World.cell?_alloc_at _ _ _ 6 rfl⟩
theorem ints_shape {w : World} {base : Nat} {e : TypeId} {v : Value} {zs : List Int} (h : w.ownsInts base e .i64 v zs) : ∃ a c, v = .slice a zs.length c ∧ ∀ t, (ht : t < zs.length) → ∃ g, a = some ⟨g, 0, none⟩ ∧ base ≤ g ∧ g < w.heap.size ∧ w.cell? ⟨g, t, none⟩ = some (.int .i64 zs[t]) := by
 obtain ⟨⟨_, h2⟩, _⟩ := id h
 rcases h2 with ⟨rfl, h0⟩ | ⟨g, cap, cur, rfl, hg, hh, _, _, _, ht⟩
 · exact ⟨none, 0, by rw [h0], fun t ht => by omega⟩
 · refine ⟨_, cap, rfl, fun t ht => ⟨g, rfl, hg, (Array.getElem?_eq_some_iff.1 hh).1, ?_⟩⟩
   rw [h.1.cellAt t (by omega)]
   simp [ht]
theorem not_t {r : Bool} (h : (!r) = true) : r = false := by cases r <;> simp_all
theorem not_f {r : Bool} (h : (!r) = false) : r = true := by cases r <;> simp_all
structure Kp (p : Prop) : Prop where
 out : p
def okTo (ent : Nat → Option Bool) (al : Nat → Nat → Option Bool) (X : Nat → ECells) (k : Nat) : Prop := ∀ j, j < k → ent j = some true ∧ ∀ i, i < j → (X i).nm = (X j).nm → al i j = some false
section
variable {P : Program} {ops : Array Oper} {Q : Exit → Act → World → Prop} {S : World → Prop}
theorem heldStep {i : Nat} {o : Oper} {d : Option Tmp} {fuel : Nat} {listed : Array Bool} {a : Act} {w w' : World} {v : Value} (hr : Region.ready .any ops listed = [i]) (ho : ops[i]? = some o) (hd : o.dst = d) (hg : o.guard = none)
   (hrun : (execOp a.eval o).run P w = .ok (.value v) w') (hS : S w') (h : wpAnyH P .any ops Q S fuel (listed.setIfInBounds i true) (a.put d v) w') : wpAnyH P .any ops Q S (fuel + 1) listed a w := by
 subst hd
 refine wpAnyH_all hr (by simp) fun j hj => ?_
 rw [List.mem_singleton] at hj
 subst hj
 have hw : Region.wanted o (yielded ops a.tmps) = true := by unfold Region.wanted; rw [hg]
 refine wpOp_step ho fun K' hK' => ?_
 rw [if_pos hw]
 unfold Oper.wp
 rw [hrun]
 exact hK' _ _ ⟨hS, h⟩
theorem heldSkip {i : Nat} {o : Oper} {d : Option Tmp} {fuel : Nat} {listed : Array Bool} {a : Act} {w w' : World} (hr : Region.ready .any ops listed = [i]) (ho : ops[i]? = some o) (hd : o.dst = d) (hg : o.guard = none)
   (hrun : (execOp a.eval o).run P w = .ok .skip w') (hS : S w') (h : wpAnyH P .any ops Q S fuel (listed.setIfInBounds i true) (a.put d undef) w') : wpAnyH P .any ops Q S (fuel + 1) listed a w := by
 subst hd
 refine wpAnyH_all hr (by simp) fun j hj => ?_
 rw [List.mem_singleton] at hj
 subst hj
 have hw : Region.wanted o (yielded ops a.tmps) = true := by unfold Region.wanted; rw [hg]
 refine wpOp_step ho fun K' hK' => ?_
 rw [if_pos hw]
 unfold Oper.wp
 rw [hrun]
 exact hK' _ _ ⟨hS, h⟩
theorem takeD {i : Nat} {oi : Oper} {d : Option Tmp} {v : Value} {fuel : Nat} {listed : Array Bool} {a : Act} {w : World} (hi : ops[i]? = some oi) (hd : oi.dst = d) (hg : oi.guard = none)
   (hs : Region.noSelect ops = true) (hf : Region.free .any ops listed i = true) (hr : (Region.ready .any ops listed).contains i = true)
   (hQ : ∀ c a w, Q (.panic c) (a.put d v) w → Q (.panic c) a w) (hy : ∀ w, S w → (execOp a.eval oi).run P w = .ok (.value v) w) (hS : S w)
   (h : wpAnyH P .any ops Q S fuel (listed.setIfInBounds i true) (a.put d v) w) : wpAnyH P .any ops Q S (fuel + 1) listed a w := by
 subst hd
 exact wpAnyH_take hi hs hf hr hQ (Or.inl ⟨by unfold Region.wanted; rw [hg], hy⟩) hS h
theorem heldTwo {i j : Nat} {oi oj : Oper} {di dj : Option Tmp} {fuel : Nat} {listed : Array Bool} {a : Act} {w wi wj : World} {vi vj : Value} (hr : Region.ready .any ops listed = [i, j]) (hoi : ops[i]? = some oi) (hoj : ops[j]? = some oj) (hdi : oi.dst = di) (hdj : oj.dst = dj) (hgi : oi.guard = none) (hgj : oj.guard = none)
   (hri : (execOp a.eval oi).run P w = .ok (.value vi) wi) (hrj : (execOp a.eval oj).run P w = .ok (.value vj) wj) (hSi : S wi) (hSj : S wj)
   (hi : wpAnyH P .any ops Q S fuel (listed.setIfInBounds i true) (a.put di vi) wi) (hj : wpAnyH P .any ops Q S fuel (listed.setIfInBounds j true) (a.put dj vj) wj) : wpAnyH P .any ops Q S (fuel + 1) listed a w := by
 subst hdi
 subst hdj
 refine wpAnyH_all hr (by simp) fun t ht => ?_
 rcases List.mem_cons.1 ht with rfl | ht
 · have hw : Region.wanted oi (yielded ops a.tmps) = true := by unfold Region.wanted; rw [hgi]
   refine wpOp_step hoi fun K' hK' => ?_
   rw [if_pos hw]
   unfold Oper.wp
   rw [hri]
   exact hK' _ _ ⟨hSi, hi⟩
 · rw [List.mem_singleton] at ht
   subst ht
   have hw : Region.wanted oj (yielded ops a.tmps) = true := by unfold Region.wanted; rw [hgj]
   refine wpOp_step hoj fun K' hK' => ?_
   rw [if_pos hw]
   unfold Oper.wp
   rw [hrj]
   exact hK' _ _ ⟨hSj, hj⟩
end
def regOps (id : Nat) : Code → List (Array Oper)
 | .region i ops _ => if i = id then [ops] else []
 | .seq a b => regOps id a ++ regOps id b
 | .cond _ a b => regOps id a ++ regOps id b
 | .block _ a => regOps id a
 | .loop a => regOps id a
 | _ => []
noncomputable def ops15 : Array Oper := (regOps 15 (Try.f16.body.getD .skip)).headD #[]
noncomputable def o15 (i : Nat) : Oper := ops15.getD i ⟨none, .move (.const undef), 0, "", #[], none⟩
theorem d15_0 : (o15 0).dst = some 38 := by kernel_rfl
theorem g15_0 : (o15 0).guard = none := by kernel_rfl
theorem i15_0 : ops15[0]? = some (o15 0) := by kernel_rfl
theorem d15_1 : (o15 1).dst = some 39 := by kernel_rfl
theorem g15_1 : (o15 1).guard = none := by kernel_rfl
theorem i15_1 : ops15[1]? = some (o15 1) := by kernel_rfl
theorem d15_2 : (o15 2).dst = some 40 := by kernel_rfl
theorem g15_2 : (o15 2).guard = none := by kernel_rfl
theorem i15_2 : ops15[2]? = some (o15 2) := by kernel_rfl
theorem d15_3 : (o15 3).dst = some 41 := by kernel_rfl
theorem g15_3 : (o15 3).guard = none := by kernel_rfl
theorem i15_3 : ops15[3]? = some (o15 3) := by kernel_rfl
theorem d15_4 : (o15 4).dst = some 42 := by kernel_rfl
theorem g15_4 : (o15 4).guard = none := by kernel_rfl
theorem i15_4 : ops15[4]? = some (o15 4) := by kernel_rfl
theorem d15_5 : (o15 5).dst = some 43 := by kernel_rfl
theorem g15_5 : (o15 5).guard = none := by kernel_rfl
theorem i15_5 : ops15[5]? = some (o15 5) := by kernel_rfl
theorem d15_6 : (o15 6).dst = some 44 := by kernel_rfl
theorem g15_6 : (o15 6).guard = none := by kernel_rfl
theorem i15_6 : ops15[6]? = some (o15 6) := by kernel_rfl
theorem d15_7 : (o15 7).dst = some 45 := by kernel_rfl
theorem g15_7 : (o15 7).guard = none := by kernel_rfl
theorem i15_7 : ops15[7]? = some (o15 7) := by kernel_rfl
theorem d15_8 : (o15 8).dst = some 46 := by kernel_rfl
theorem g15_8 : (o15 8).guard = none := by kernel_rfl
theorem i15_8 : ops15[8]? = some (o15 8) := by kernel_rfl
theorem d15_9 : (o15 9).dst = some 47 := by kernel_rfl
theorem g15_9 : (o15 9).guard = none := by kernel_rfl
theorem i15_9 : ops15[9]? = some (o15 9) := by kernel_rfl
theorem d15_10 : (o15 10).dst = none := by kernel_rfl
theorem g15_10 : (o15 10).guard = none := by kernel_rfl
theorem i15_10 : ops15[10]? = some (o15 10) := by kernel_rfl
theorem e15_0 (ρ : Operand → Value) : execOp ρ (o15 0) = execOp ρ ⟨none, .move (.tmp 3), 55, "", #[], none⟩ := rfl
theorem e15_1 (ρ : Operand → Value) : execOp ρ (o15 1) = execOp ρ ⟨none, .fieldAddr 40 (.tmp 5) 0, 0, "", #[], none⟩ := rfl
theorem e15_2 (ρ : Operand → Value) : execOp ρ (o15 2) = execOp ρ ⟨none, .load 9 (.tmp 39), 9, "", #[], none⟩ := rfl
theorem e15_3 (ρ : Operand → Value) : execOp ρ (o15 3) = execOp ρ ⟨none, .move (.tmp 3), 55, "", #[], none⟩ := rfl
theorem e15_4 (ρ : Operand → Value) : execOp ρ (o15 4) = execOp ρ ⟨none, .fieldAddr 40 (.tmp 5) 0, 0, "", #[], none⟩ := rfl
theorem e15_5 (ρ : Operand → Value) : execOp ρ (o15 5) = execOp ρ ⟨none, .load 9 (.tmp 42), 9, "", #[], none⟩ := rfl
theorem e15_6 (ρ : Operand → Value) : execOp ρ (o15 6) = execOp ρ ⟨none, .lookup 55 (.tmp 41) (.tmp 43) false, 56, "", #[], none⟩ := rfl
theorem e15_7 (ρ : Operand → Value) : execOp ρ (o15 7) = execOp ρ ⟨none, .move (.tmp 4), 3, "", #[], none⟩ := rfl
theorem e15_8 (ρ : Operand → Value) : execOp ρ (o15 8) = execOp ρ ⟨none, .buildSlice 56 1 #[(0, .tmp 45)], 56, "", #[], none⟩ := rfl
theorem e15_9 (ρ : Operand → Value) : execOp ρ (o15 9) = execOp ρ ⟨none, .call { callee := .builtin .append, args := #[.tmp 44, .tmp 46], argTypes := #[56, 56] }, 56, "", #[], none⟩ := rfl
theorem e15_10 (ρ : Operand → Value) : execOp ρ (o15 10) = execOp ρ ⟨none, .mapUpdate 55 (.tmp 38) (.tmp 40) (.tmp 47), 0, "", #[], none⟩ := rfl
theorem ev_same (a : Act) (d : Nat) (v : Value) (h : d < a.tmps.size) : (a.put (some d) v).eval (.tmp d) = v := by simp [Act.eval, Act.put, h]
theorem ev_ne (a : Act) (d j : Nat) (v : Value) (h : d ≠ j) : (a.put (some d) v).eval (.tmp j) = a.eval (.tmp j) := by simp [Act.eval, Act.put, Array.getElem?_setIfInBounds_ne h]
theorem sz_put (a : Act) (d : Option Nat) (v : Value) : (a.put d v).tmps.size = a.tmps.size := by cases d <;> simp [Act.put]
set_option maxRecDepth 100000 in
theorem Try.region15 {Q : Exit → Act → World → Prop} (a : Act) (w0 w : World) (x k : Nat) (nm : Nat → ByteArray) (cs : Array Value) (fr : Nat × Nat) (hsz : a.tmps.size = 49) (hk : k < 2000)
    (h3 : a.eval (.tmp 3) = .map (some w0.heap.size)) (h5 : a.eval (.tmp 5) = .pointer (some ⟨x, 0, none⟩)) (h4 : a.eval (.tmp 4) = .int .i64 (k : Int))
    (hQ : ∀ c a (d : Nat) v w, Q (.panic c) (a.put (some d) v) w → Q (.panic c) a w) (hc : w.cell? ⟨x, 0, none⟩ = some (.string (nm k))) (hxb : w.heap[x]? = some (.cells cs 40 fr)) (hx0 : w0.heap.size < x) (hns : (nm k).size ≤ maxLen)
    (hown : w.ownsGroups Try.prog 9 (w0.heap.size + 1) 3 .i64 w0.heap.size k (GN (H := Unit) nm k)) (hnx : Below w0.heap.size w0 w)
    (hK : ∀ v44 v46 v47 w2, w2.ownsGroups Try.prog 9 (w0.heap.size + 1) 3 .i64 w0.heap.size (k + 1) (GN (H := Unit) nm (k + 1)) → Below w0.heap.size w0 w2 → w.heap.size ≤ w2.heap.size →
      Q .normal ((((((((((a.put (some 38) (.map (some w0.heap.size))).put (some 39) (.pointer (some ⟨x, 0, none⟩))).put (some 40) (.string (nm k))).put (some 41) (.map (some w0.heap.size))).put (some 42) (.pointer (some ⟨x, 0, none⟩))).put (some 43) (.string (nm k))).put (some 45) (.int .i64 (k : Int))).put (some 44) v44).put (some 46) v46).put (some 47) v47) w2) :
    (Code.region 15 ops15 true).wp Try.prog Q a w := by
  have hcc : ∀ w' : World, w'.heap[x]? = w.heap[x]? → w'.cell? ⟨x, 0, none⟩ = some (.string (nm k)) := fun w' h => (World.cell?_of_block (w := w) h).trans hc
  have hxl : x < w.heap.size := (Array.getElem?_eq_some_iff.1 hxb).1
  have hxx : ∀ {w' : World} {row : Option Nat}, w.grownBy w' row → row ≠ some x → w'.heap[x]? = w.heap[x]? := fun hg hr => hg.block x hxl (fun e => hr e.symm)
  have hS : Region.noSelect ops15 = true := by kernel_rfl
  refine wp_region_held (S := fun w' => w'.heap[x]? = w.heap[x]?) (by kernel_rfl) ?_
  change wpAnyH _ _ _ _ _ 11 (Array.replicate 11 false) _ w.drew
  refine takeD (i := 0) (v := .map (some w0.heap.size)) i15_0 d15_0 g15_0 hS (by kernel_rfl) (by kernel_rfl) (fun c a w => hQ c a _ _ w) (fun w' _ => ?_) rfl ?_
  · rw [e15_0]
    simp only [execOp, h3, Sem.run_pure]
  refine takeD (i := 1) (v := .pointer (some ⟨x, 0, none⟩)) i15_1 d15_1 g15_1 hS (by kernel_rfl) (by kernel_rfl) (fun c a w => hQ c a _ _ w) (fun w' _ => ?_) rfl ?_
  · have e5 : (a.put (some 38) (Value.map (some w0.heap.size))).eval (.tmp 5) = .pointer (some ⟨x, 0, none⟩) := by simp only [ev_ne, h5, ne_eq, reduceCtorEq, not_false_eq_true, Nat.reduceEqDiff]
    rw [e15_1]; simp only [execOp, e5]
    go_simp
  refine takeD (i := 2) (v := .string (nm k)) i15_2 d15_2 g15_2 hS (by kernel_rfl) (by kernel_rfl) (fun c a w => hQ c a _ _ w) (fun w' hw' => ?_) rfl ?_
  · have := hcc w' hw'
    have e5 : ((a.put (some 38) (Value.map (some w0.heap.size))).put (some 39) (Value.pointer (some ⟨x, 0, none⟩))).eval (.tmp 39) = .pointer (some ⟨x, 0, none⟩) := ev_same _ _ _ (by simp [sz_put, hsz])
    rw [e15_2]; simp only [execOp, e5]
    go_simp
  refine takeD (i := 3) (v := .map (some w0.heap.size)) i15_3 d15_3 g15_3 hS (by kernel_rfl) (by kernel_rfl) (fun c a w => hQ c a _ _ w) (fun w' _ => ?_) rfl ?_
  · rw [e15_3]; simp only [execOp, Sem.run_pure, ev_ne, h3, ne_eq, reduceCtorEq, not_false_eq_true, Nat.reduceEqDiff]
  refine takeD (i := 4) (v := .pointer (some ⟨x, 0, none⟩)) i15_4 d15_4 g15_4 hS (by kernel_rfl) (by kernel_rfl) (fun c a w => hQ c a _ _ w) (fun w' _ => ?_) rfl ?_
  · have e5 : ((((a.put (some 38) (Value.map (some w0.heap.size))).put (some 39) (Value.pointer (some ⟨x, 0, none⟩))).put (some 40) (Value.string (nm k))).put (some 41) (Value.map (some w0.heap.size))).eval (.tmp 5) = .pointer (some ⟨x, 0, none⟩) := by simp only [ev_ne, h5, ne_eq, reduceCtorEq, not_false_eq_true, Nat.reduceEqDiff]
    rw [e15_4]; simp only [execOp, e5]
    go_simp
  refine takeD (i := 5) (v := .string (nm k)) i15_5 d15_5 g15_5 hS (by kernel_rfl) (by kernel_rfl) (fun c a w => hQ c a _ _ w) (fun w' hw' => ?_) rfl ?_
  · have := hcc w' hw'
    have e5 : (((((a.put (some 38) (Value.map (some w0.heap.size))).put (some 39) (Value.pointer (some ⟨x, 0, none⟩))).put (some 40) (Value.string (nm k))).put (some 41) (Value.map (some w0.heap.size))).put (some 42) (Value.pointer (some ⟨x, 0, none⟩))).eval (.tmp 42) = .pointer (some ⟨x, 0, none⟩) := ev_same _ _ _ (by simp [sz_put, hsz])
    rw [e15_5]; simp only [execOp, e5]
    go_simp
  refine takeD (i := 7) (v := .int .i64 (k : Int)) i15_7 d15_7 g15_7 hS (by kernel_rfl) (by kernel_rfl) (fun c a w => hQ c a _ _ w) (fun w' _ => ?_) rfl ?_
  · rw [e15_7]; simp only [execOp, Sem.run_pure, ev_ne, h4, ne_eq, reduceCtorEq, not_false_eq_true, Nat.reduceEqDiff]
  obtain ⟨i0, hi, hz0, hz1, hz2⟩ := info_parts Try.info3v
  have hkey := keyN_ok hns
  obtain ⟨a7, ha7⟩ : ∃ a7, a7 = (((((((a.put (some 38) (Value.map (some w0.heap.size))).put (some 39) (Value.pointer (some ⟨x, 0, none⟩))).put (some 40) (Value.string (nm k))).put (some 41) (Value.map (some w0.heap.size))).put (some 42) (Value.pointer (some ⟨x, 0, none⟩))).put (some 43) (Value.string (nm k))).put (some 45) (Value.int .i64 (k : Int))) := ⟨_, rfl⟩
  have f38 : a7.eval (.tmp 38) = .map (some w0.heap.size) := by rw [ha7]; simp only [ev_ne, ev_same, sz_put, hsz, ne_eq, reduceCtorEq, not_false_eq_true, Nat.reduceEqDiff, Nat.reduceLT]
  have f40 : a7.eval (.tmp 40) = .string (nm k) := by rw [ha7]; simp only [ev_ne, ev_same, sz_put, hsz, ne_eq, reduceCtorEq, not_false_eq_true, Nat.reduceEqDiff, Nat.reduceLT]
  have f41 : a7.eval (.tmp 41) = .map (some w0.heap.size) := by rw [ha7]; simp only [ev_ne, ev_same, sz_put, hsz, ne_eq, reduceCtorEq, not_false_eq_true, Nat.reduceEqDiff, Nat.reduceLT]
  have f43 : a7.eval (.tmp 43) = .string (nm k) := by rw [ha7]; simp only [ev_ne, ev_same, sz_put, hsz, ne_eq, reduceCtorEq, not_false_eq_true, Nat.reduceEqDiff, Nat.reduceLT]
  have f45 : a7.eval (.tmp 45) = .int .i64 (k : Int) := by rw [ha7]; simp only [ev_ne, ev_same, sz_put, hsz, ne_eq, reduceCtorEq, not_false_eq_true, Nat.reduceEqDiff, Nat.reduceLT]
  have hs7 : a7.tmps.size = 49 := by rw [ha7]; simp only [sz_put, hsz]
  have hK7 : ∀ v44 v46 v47 w2, w2.ownsGroups Try.prog 9 (w0.heap.size + 1) 3 .i64 w0.heap.size (k + 1) (GN (H := Unit) nm (k + 1)) → Below w0.heap.size w0 w2 → w.heap.size ≤ w2.heap.size → Q .normal (((a7.put (some 44) v44).put (some 46) v46).put (some 47) v47) w2 := by
    rw [ha7]; exact hK
  rw [← ha7]
  clear hK ha7
  have hownd : w.drew.ownsGroups Try.prog 9 (w0.heap.size + 1) 3 .i64 w0.heap.size k (GN (H := Unit) nm k) := hown
  -- the tail, the slice of one element made and the group looked up
  have hB1 : ∀ (wz : World) (v : Value) (zs : List Int), Below w0.heap.size w0 wz → wz.heap[x]? = some (.cells cs 40 fr) → w.heap.size ≤ wz.heap.size → wz.heap.size ≤ w.heap.size + 1 → wz.grownBy (w.alloc (.cells #[.int .i64 (k : Int)] 3)).drew v.ownBlock → (w.alloc (.cells #[.int .i64 (k : Int)] 3)).drew.ownsRow (w0.heap.size + 1) 3 1 v zs.length (zs.map (Value.int .i64)) → (GN (H := Unit) nm k).atKey (keyN (nm k)) .nil = rowDatum .i64 v zs → wz.ownsInts (w0.heap.size + 1) 3 .i64 v zs → zs.length ≤ k → wz.groupBack Try.prog 55 9 (w0.heap.size + 1) 3 .i64 w0.heap.size k (GN (H := Unit) nm k) (.string (nm k)) (keyN (nm k)) v →
      ∀ (listed : Array Bool) (a9 : Act), a9.eval (.tmp 44) = v → a9.eval (.tmp 46) = .slice (some ⟨w.heap.size, 0, none⟩) 1 1 → a9.eval (.tmp 38) = .map (some w0.heap.size) → a9.eval (.tmp 40) = .string (nm k) → a9.tmps.size = 49 →
      (∀ v47 w2, w2.ownsGroups Try.prog 9 (w0.heap.size + 1) 3 .i64 w0.heap.size (k + 1) (GN (H := Unit) nm (k + 1)) → Below w0.heap.size w0 w2 → w.heap.size ≤ w2.heap.size → Q .normal (a9.put (some 47) v47) w2) →
      Region.ready .any ops15 listed = [9] → Region.ready .any ops15 (listed.setIfInBounds 9 true) = [10] → Region.ready .any ops15 ((listed.setIfInBounds 9 true).setIfInBounds 10 true) = [] →
      wpAnyH Try.prog .any ops15 Q (fun w' => w'.heap[x]? = w.heap[x]?) 2 listed a9 (w.alloc (.cells #[.int .i64 (k : Int)] 3)).drew := by
    intro wz v zs hnz hzx hza hzb hgd hoa hat hoi hzl hback listed a9 g44 g46 g38 g40 g9 hQ9 r9 r10 r11
    have hvx : v.ownBlock ≠ some x := by
      intro e
      rcases hoi.1.2 with ⟨rfl, _⟩ | ⟨g, cap, cur, rfl, _, hh, _⟩
      · cases e
      · simp only [Value.ownBlock, Option.some.injEq] at e
        rw [e, hzx] at hh
        simp only [Option.some.injEq, Obj.cells.injEq] at hh
        have := hh.2.1
        contradiction
    have hwl := hnx.size
    obtain ⟨v', w1, hr, h2, h3, h4, h5⟩ := run_append_own_at (P := Try.prog) (w := (w.alloc (.cells #[.int .i64 (k : Int)] 3)).drew) (w0.heap.size + 1) 56 56 3 i0 (.int .i64 0) 1 8 Try.underlying56 hi hz0 hz1 hz2 rfl (by decide) v zs.length _ hoa ⟨w.heap.size, 0, none⟩ 1 1 [.int .i64 (k : Int)] rfl (cell_one_new _ _ _) (ints_oneCell .i64 [(k : Int)]) (by unfold maxLen; omega) (by omega) (by simp; omega)
    have hgr := hgd.trans h3
    have hown' := hoi.appended h2 (WalkArith.wf_i64 (by omega))
    have hloc : v'.ownBlock = v.ownBlock ∨ ∃ g, v'.ownBlock = some g ∧ wz.heap.size ≤ g := h5.imp id (fun h => ⟨_, h, by simp; omega⟩)
    obtain ⟨w2, hup, hw2, hg2⟩ := hback w1 v' (zs ++ [(k : Int)]) hgr hown' (by simp; omega) hloc
    have hx1 : w1.heap[x]? = w.heap[x]? := (hgr.block x (by omega) (fun e => hvx e.symm)).trans (hzx.trans hxb.symm)
    have hx2 : w2.heap[x]? = w.heap[x]? := (hg2.block x (Nat.lt_of_lt_of_le (by omega) hgr.size) (fun e => by injection e with e; omega)).trans hx1
    refine heldStep (i := 9) (v := v') r9 i15_9 d15_9 g15_9 ?_ hx1 ?_
    · rw [e15_9]; simp only [execOp, resolve, invoke, builtin, Sem.run_bind, Sem.run_pure, Result.andThen_ok, List.map_toArray, List.map_cons, List.map_nil, g44, g46, hr]
    · refine heldSkip (i := 10) r10 i15_10 d15_10 g15_10 ?_ hx2 ?_
      · have q38 : (a9.put (some 47) v').eval (.tmp 38) = .map (some w0.heap.size) := (ev_ne _ _ _ _ (by decide)).trans g38
        have q40 : (a9.put (some 47) v').eval (.tmp 40) = .string (nm k) := (ev_ne _ _ _ _ (by decide)).trans g40
        have q47 : (a9.put (some 47) v').eval (.tmp 47) = v' := ev_same _ _ _ (by rw [g9]; decide)
        rw [e15_10]; simp [execOp, q38, q40, q47, hup, Result.andThen]
      · refine wpAnyH_done r11 ?_ _
        refine hQ9 v' w2 ?_ (hnz.groups hoi hgr hg2 (by omega) (Nat.le_succ _) (Nat.le_refl _)) (Nat.le_trans hza (Nat.le_trans hgr.size hg2.size))
        have e : GN (H := Unit) nm (k + 1) = (GN nm k).put (keyN (nm k)) (rowDatum .i64 v' (zs ++ [(k : Int)])) := by
          rw [hown'.datum_pos (by simp), group_is nm k (nm k) hoi hat]
          rfl
        rw [e]
        exact hw2
  obtain ⟨v, zs, hrun, hat, hoi, hzl, hback⟩ := hownd.at Try.law9 Try.underlying55 (Try.zero69 _) (by unfold maxLen; omega) hkey
  have hgal : ∀ row, w.drew.grownBy (w.alloc (.cells #[.int .i64 (k : Int)] 3)).drew row := fun row => ⟨rfl, rfl, rfl, (World.grownBy_alloc w (.cells #[.int .i64 (k : Int)] 3) row).size, (World.grownBy_alloc w (.cells #[.int .i64 (k : Int)] 3) row).block⟩
  have hownb : (w.alloc (.cells #[.int .i64 (k : Int)] 3)).drew.ownsGroups Try.prog 9 (w0.heap.size + 1) 3 .i64 w0.heap.size k (GN (H := Unit) nm k) :=
    hownd.kept (row := none) (w' := (w.alloc (.cells #[.int .i64 (k : Int)] 3)).drew) (hgal none) (by simp) (fun es clock _ y _ => by cases y.val.ownBlock <;> simp)
  obtain ⟨vb, zsb, hrunb, hatb, hoib, hzlb, hbackb⟩ := hownb.at Try.law9 Try.underlying55 (Try.zero69 _) (by unfold maxLen; omega) hkey
  have hal : ∀ w' : World, w'.drew.heap = w'.heap := fun _ => rfl
  have hxa : (w.alloc (.cells #[.int .i64 (k : Int)] 3)).drew.heap[x]? = w.heap[x]? := (hgal none).block x hxl (by simp)
  have hbs : ∀ (a' : Act) (w' : World), a'.eval (.tmp 45) = .int .i64 (k : Int) → (execOp a'.eval (o15 8)).run Try.prog w' = .ok (.value (.slice (some ⟨w'.heap.size, 0, none⟩) 1 1)) (w'.alloc (.cells #[.int .i64 (k : Int)] 3)) := fun a' w' h => by
    rw [e15_8]; simp only [execOp, List.map_toArray, List.map_cons, List.map_nil, h]
    go_simp
  refine heldTwo (i := 6) (j := 8) (vi := v) (wi := w.drew) (vj := .slice (some ⟨w.heap.size, 0, none⟩) 1 1) (wj := (w.alloc (.cells #[.int .i64 (k : Int)] 3)).drew) (by kernel_rfl) i15_6 i15_8 d15_6 d15_8 g15_6 g15_8 ?_ ?_ rfl hxa ?_ ?_
  · rw [e15_6]; simp [execOp, f41, f43, hrun, Result.andThen]
  · exact hbs a7 w.drew f45
  · refine heldStep (i := 8) (v := .slice (some ⟨w.heap.size, 0, none⟩) 1 1) (w' := (w.alloc (.cells #[.int .i64 (k : Int)] 3)).drew) (by kernel_rfl) i15_8 d15_8 g15_8 (hbs _ w.drew ((ev_ne _ _ _ _ (by decide)).trans f45)) hxa ?_
    refine hB1 w.drew v zs hnx.drew (hxb) (Nat.le_refl _) (Nat.le_succ _) (hgal _) (hoi.1.kept (hgal none) (by cases v.ownBlock <;> simp)) hat hoi hzl hback _ _ ?_ ?_ ?_ ?_ ?_ (fun v47 w2 p1 p2 p3 => hK7 _ _ _ _ p1 p2 p3) (by kernel_rfl) (by kernel_rfl) (by kernel_rfl)
    · exact (ev_ne _ _ _ _ (by decide)).trans (ev_same _ _ _ (by rw [hs7]; decide))
    · exact ev_same _ _ _ (by rw [sz_put, hs7]; decide)
    · exact (ev_ne _ _ _ _ (by decide)).trans ((ev_ne _ _ _ _ (by decide)).trans f38)
    · exact (ev_ne _ _ _ _ (by decide)).trans ((ev_ne _ _ _ _ (by decide)).trans f40)
    · rw [sz_put, sz_put, hs7]
  · have g41 : (a7.put (some 46) (.slice (some ⟨w.heap.size, 0, none⟩) 1 1)).eval (.tmp 41) = .map (some w0.heap.size) := (ev_ne _ _ _ _ (by decide)).trans f41
    have g43 : (a7.put (some 46) (.slice (some ⟨w.heap.size, 0, none⟩) 1 1)).eval (.tmp 43) = .string (nm k) := (ev_ne _ _ _ _ (by decide)).trans f43
    refine heldStep (i := 6) (v := vb) (w' := (w.alloc (.cells #[.int .i64 (k : Int)] 3)).drew) (by kernel_rfl) i15_6 d15_6 g15_6 ?_ hxa ?_
    · rw [e15_6]; simp [execOp, g41, g43, hrunb, Result.andThen]
    refine hB1 (w.alloc (.cells #[.int .i64 (k : Int)] 3)).drew vb zsb (hnx.drew.grown (hgal none) hnx.size (by simp)) (hxa.trans hxb) (hgal none).size (by simp) ⟨rfl, rfl, rfl, Nat.le_refl _, fun _ _ _ => rfl⟩ hoib.1 hatb hoib hzlb hbackb _ _ ?_ ?_ ?_ ?_ ?_ (fun v47 w2 p1 p2 p3 => ?_) (by kernel_rfl) (by kernel_rfl) (by kernel_rfl)
    · exact ev_same _ _ _ (by rw [sz_put, hs7]; decide)
    · exact (ev_ne _ _ _ _ (by decide)).trans (ev_same _ _ _ (by rw [hs7]; decide))
    · exact (ev_ne _ _ _ _ (by decide)).trans ((ev_ne _ _ _ _ (by decide)).trans f38)
    · exact (ev_ne _ _ _ _ (by decide)).trans ((ev_ne _ _ _ _ (by decide)).trans f40)
    · rw [sz_put, sz_put, hs7]
    · have := hK7 vb (.slice (some ⟨w.heap.size, 0, none⟩) 1 1) v47 w2 p1 p2 p3
      have hcm : (a7.put (some 44) vb).put (some 46) (.slice (some ⟨w.heap.size, 0, none⟩) 1 1) = (a7.put (some 46) (.slice (some ⟨w.heap.size, 0, none⟩) 1 1)).put (some 44) vb := Act.put_comm _ _ _ (by simp)
      rw [hcm] at this
      exact this
end Go.Proofs
